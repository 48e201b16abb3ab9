/- Lines by a program (a changed copy of the kit's print: this repo's wip/tools): Go functions as Lean functions, and proofs that the calls answer so. -/
import Derived.Test.YtinibkdbfpafcaaZPFnMovedx0
import Derived.Test.YtinibkdbfpafcaaZPFnMovedx3
import Derived.Test.YtinibkdbfpafcaaZPFnMovedx4
import Derived.Test.YtinibkdbfpafcaaZPFnMovedx5
namespace Go.Proofs.Ytinibkdbfpafcaa.PFnMoved
open Go.RowKit Go.Proofs.YtinibkdbfpafcaaW.PrintWords Go.Proofs.YtinibkdbfpafcaaW.PrintLast Go.Proofs.YtinibkdbfpafcaaW.PrintMore
attribute [local go_sem] max2_int min2_int max_two min_two max_three min_three max_four min_four   -- for this text's walks alone
set_option linter.unusedVariables false
set_option linter.unusedSimpArgs false

/-! ### impl_Move: function 71 -/
def impl_Move.j0 : Nat → List (S117) → Int → ByteArray → Int → Bool → Option ((List (S117)) × Int)
 | 0, _, _, _, _, _ => none
 | k + 1, x0, x1, x2, x3, x42 => if x42 = true then ((impl_copyStock.f x0).bind fun t154 => (some (t154, 2))) else (if 0 ≤ x1 then (if x1 < (x0.length : Int) then (if x3 > (wrap64 (((rd_T117 x0 x1).f4) - ((rd_T117 x0 x1).f5))) then ((impl_copyStock.f x0).bind fun t159 => (some (t159, 3))) else ((impl_copyStock.f x0).bind fun t162 => (if x1 < (t162.length : Int) then ((impl_bring.f k (t162.set (x1 : Int).toNat (⟨(rd_T117 t162 x1).f0, (rd_T117 t162 x1).f1, (rd_T117 t162 x1).f2, (rd_T117 t162 x1).f3, wrap64 (((rd_T117 t162 x1).f4) - x3), (rd_T117 t162 x1).f5⟩ : S117)) ((rd_T117 x0 x1).f0) x2 ((rd_T117 x0 x1).f2) ((rd_T117 x0 x1).f3) x3 0).bind fun bt167 => (if bt167.2 = true then (some (bt167.1, 0)) else ((impl_copyStock.f x0).bind fun t171 => (some (t171, 4))))) else (none)))) else (none)) else (none))
def impl_Move.f (k : Nat) (l0 : List (S117)) (a1 : Int) (a2 : ByteArray) (a3 : Int) : Option ((List (S117)) × Int) := (impl_StockOk.f k l0).bind fun t150 => (if t150 = true then (if a1 < 0 then (impl_Move.j0 k l0 a1 a2 a3 true) else (if a1 ≥ (l0.length : Int) then (impl_Move.j0 k l0 a1 a2 a3 true) else ((impl_NameOk.f k a2).bind fun t151 => (if t151 = true then (if 0 ≤ a1 then (if a1 < (l0.length : Int) then (if a2.toList = ((rd_T117 l0 a1).f1).toList then (impl_Move.j0 k l0 a1 a2 a3 true) else ((impl_quantity.f a3).bind fun t153 => (impl_Move.j0 k l0 a1 a2 a3 (!t153)))) else (none)) else (none)) else (impl_Move.j0 k l0 a1 a2 a3 true))))) else (some (([] : List (S117)), 1)))
theorem impl_Move.mono_l : ∀ k, (∀ y0 y1 y2 y3 y4, LeO (impl_Move.j0 k y0 y1 y2 y3 y4) (impl_Move.j0 (k + 1) y0 y1 y2 y3 y4))
 | 0 => fun _ _ _ _ _ r h => by simp [impl_Move.j0] at h
 | k + 1 => by
  have ih0 := impl_Move.mono_l k
  ·intro y0 y1 y2 y3 y4
   unfold impl_Move.j0
   repeat' first
   | (with_reducible exact ih0 _ _ _ _ _)
   | (with_reducible exact impl_NameOk.mono _ _)
   | (with_reducible exact impl_StockOk.mono _ _)
   | (with_reducible exact impl_bring.mono _ _ _ _ _ _ _ _)
   | (with_reducible exact LeO.refl _)
   | (with_reducible exact LeO.none _)
   | (with_reducible refine LeO.ite ?_ ?_)
   | (with_reducible refine LeO.bind ?_ (fun _ => ?_))
   | exact ih0 _ _ _ _ _
   | exact impl_NameOk.mono _ _
   | exact impl_StockOk.mono _ _
   | exact impl_bring.mono _ _ _ _ _ _ _ _
   | exact LeO.none _
   | refine LeO.ite ?_ ?_
   | refine LeO.bind ?_ (fun _ => ?_)
theorem impl_Move.mono : ∀ a0 a1 a2 a3 k, LeO (impl_Move.f k a0 a1 a2 a3) (impl_Move.f (k + 1) a0 a1 a2 a3) := by
 intro a0 a1 a2 a3 k
 have ih0 := impl_Move.mono_l k
 unfold impl_Move.f
 repeat' first
   | (with_reducible exact ih0 _ _ _ _ _)
   | (with_reducible exact impl_NameOk.mono _ _)
   | (with_reducible exact impl_StockOk.mono _ _)
   | (with_reducible exact impl_bring.mono _ _ _ _ _ _ _ _)
   | (with_reducible exact LeO.refl _)
   | (with_reducible exact LeO.none _)
   | (with_reducible refine LeO.ite ?_ ?_)
   | (with_reducible refine LeO.bind ?_ (fun _ => ?_))
   | exact ih0 _ _ _ _ _
   | exact impl_NameOk.mono _ _
   | exact impl_StockOk.mono _ _
   | exact impl_bring.mono _ _ _ _ _ _ _ _
   | exact LeO.none _
   | refine LeO.ite ?_ ?_
   | refine LeO.bind ?_ (fun _ => ?_)
set_option maxHeartbeats 8000000 in
set_option maxRecDepth 100000 in
theorem impl_Move.calls (k : Nat) (A0 : Option Addr) (c0 : Nat) (l0 : List (S117)) (a1 : Int) (a2 : ByteArray) (a3 : Int) (r1 : List (S117)) (r2 : Int) (w : World) (hr0 : Kd.C k117 w A0 l0.length l0) (hc0 : l0.length ≤ c0) (h : impl_Move.f k l0 a1 a2 a3 = some (r1, r2)) :
  Calls Try.prog 71 #[.slice A0 l0.length c0, .int .i64 a1, .string a2, .int .i64 a3] w fun e w' => ∃ v0_ : Value, e = .returned (.tuple #[v0_, .int .i64 r2]) ∧ Kd.R k117 117 w' w.heap.size (fun _ => True) v0_ r1 ∧ Below w.heap.size w w' := by
 have hu117 := Try.underlying117
 have HR0 := Aside0.mk hr0
 have HC0 := Aside0.mk hc0
 clear hr0 hc0
 have HB := Aside0.mk (Below.refl w.heap.size w)
 have H : ((impl_StockOk.f k l0).bind fun t150 => (if t150 = true then (if a1 < 0 then (impl_Move.j0 k l0 a1 a2 a3 true) else (if a1 ≥ (l0.length : Int) then (impl_Move.j0 k l0 a1 a2 a3 true) else ((impl_NameOk.f k a2).bind fun t151 => (if t151 = true then (if 0 ≤ a1 then (if a1 < (l0.length : Int) then (if a2.toList = ((rd_T117 l0 a1).f1).toList then (impl_Move.j0 k l0 a1 a2 a3 true) else ((impl_quantity.f a3).bind fun t153 => (impl_Move.j0 k l0 a1 a2 a3 (!t153)))) else (none)) else (none)) else (impl_Move.j0 k l0 a1 a2 a3 true))))) else (some (([] : List (S117)), 1)))) = some (r1, r2) := h
 clear h
 replace H := Option.bind_eq_some_iff.mp H
 obtain ⟨t150, A50, H⟩ := H
 replace H : (if t150 = true then (if a1 < 0 then (impl_Move.j0 k l0 a1 a2 a3 true) else (if a1 ≥ (l0.length : Int) then (impl_Move.j0 k l0 a1 a2 a3 true) else ((impl_NameOk.f k a2).bind fun t151 => (if t151 = true then (if 0 ≤ a1 then (if a1 < (l0.length : Int) then (if a2.toList = ((rd_T117 l0 a1).f1).toList then (impl_Move.j0 k l0 a1 a2 a3 true) else ((impl_quantity.f a3).bind fun t153 => (impl_Move.j0 k l0 a1 a2 a3 (!t153)))) else (none)) else (none)) else (impl_Move.j0 k l0 a1 a2 a3 true))))) else (some (([] : List (S117)), 1))) = some (r1, r2) := H
 have A5 := Aside0.mk A50
 clear A50
 by_cases c6 : t150 = true
 ·subst c6
  have H1 : (if a1 < 0 then (impl_Move.j0 k l0 a1 a2 a3 true) else (if a1 ≥ (l0.length : Int) then (impl_Move.j0 k l0 a1 a2 a3 true) else ((impl_NameOk.f k a2).bind fun t151 => (if t151 = true then (if 0 ≤ a1 then (if a1 < (l0.length : Int) then (if a2.toList = ((rd_T117 l0 a1).f1).toList then (impl_Move.j0 k l0 a1 a2 a3 true) else ((impl_quantity.f a3).bind fun t153 => (impl_Move.j0 k l0 a1 a2 a3 (!t153)))) else (none)) else (none)) else (impl_Move.j0 k l0 a1 a2 a3 true))))) = some (r1, r2) := by rw [if_pos rfl] at H; exact H
  clear H
  have H := H1
  clear H1
  have HC7 := Aside0.mk H
  clear H
  go_enter Try.func71, Try.ntmps71
  go_upto_region 3 with (first | ((with_reducible refine qo0 (f := 74) rfl ?_); refine qz0 (some 14) rfl rfl Try.func74 (by kernel_rfl) rfl #[.slice A0 l0.length c0] rfl (by (try simp only [List.map_toArray, List.map_cons, List.map_nil]); first | done | rfl | (simp only [List.length_drop, List.length_take]; rfl)) ?_; (with_reducible refine (impl_StockOk.calls k _ _ l0 true _ ?side1 ?side2 A5.out).mono ?_); (case side1 => repeat (first | exact HR0.out | (with_reducible refine Kd.qu0 ?_ _) | (with_reducible refine Kd.qt0 ?_ _) | (with_reducible refine Kd.qy0 ?_))); (case side2 => exact HC0.out); rintro e w8 ⟨rfl, hb⟩; refine ⟨_, rfl, ?_⟩; have n0_ := Aside0.mk (qk0 (by repeat (first | (with_reducible first | exact HB.out | apply qc0 | apply qa0 | apply qb0) | exact HB.out)) hb); clear HB; have HB := n0_; clear n0_; (try clear hb); (try clear hb2); (try clear hk); (try clear hi)))
  (try simp only [Act.put, List.setIfInBounds_toArray, List.set_cons_zero, List.set_cons_succ])
  go_cut [42] (fun v42 wc => ∃ (kq : Nat) (x42_6 : Bool), v42 = .bool x42_6 ∧ Aside0 (impl_Move.j0 kq l0 a1 a2 a3 x42_6 = some (r1, r2)) ∧ Aside0 (kq ≤ k) ∧ Aside0 (Below w.heap.size w wc))
  case first =>
   have H := HC7.out
   clear HC7
   by_cases c9 : a1 < 0
   ·rw [if_pos c9] at H
    have c9b0 : decide (a1 < 0) = true := decide_eq_true c9
    clear c9
    (first | rw [c9b0] | (simp only [i64_w, i32_w]; rw [c9b0]) | skip)
    have H' := Aside0.mk H
    clear H
    go_wp2
    go_meet
    case rel => exact ⟨_, (true), (by first | rfl | (simp; done) | (simp [*]; done)), H', ⟨by first | omega | exact Nat.le_refl _⟩, ⟨by repeat (first | (with_reducible first | exact HB.out | apply qc0 | apply qa0 | apply qb0) | exact HB.out)⟩⟩
   rw [if_neg c9] at H
   have c9b0 : decide (a1 < 0) = false := decide_eq_false c9
   clear c9
   (first | rw [c9b0] | (simp only [i64_w, i32_w]; rw [c9b0]) | skip)
   by_cases c10 : a1 ≥ (l0.length : Int)
   ·rw [if_pos c10] at H
    have c10b0 : decide ((l0.length : Int) ≤ a1) = true := decide_eq_true c10
    clear c10
    have H' := Aside0.mk H
    clear H
    go_wp2
    go_meet
    case rel => exact ⟨_, (true), (by first | rfl | (simp; done) | (simp [*]; done)), H', ⟨by first | omega | exact Nat.le_refl _⟩, ⟨by repeat (first | (with_reducible first | exact HB.out | apply qc0 | apply qa0 | apply qb0) | exact HB.out)⟩⟩
   rw [if_neg c10] at H
   have c10b0 : decide ((l0.length : Int) ≤ a1) = false := decide_eq_false c10
   clear c10
   replace H := Option.bind_eq_some_iff.mp H
   obtain ⟨t151, A110, H⟩ := H
   replace H : (if t151 = true then (if 0 ≤ a1 then (if a1 < (l0.length : Int) then (if a2.toList = ((rd_T117 l0 a1).f1).toList then (impl_Move.j0 k l0 a1 a2 a3 true) else ((impl_quantity.f a3).bind fun t153 => (impl_Move.j0 k l0 a1 a2 a3 (!t153)))) else (none)) else (none)) else (impl_Move.j0 k l0 a1 a2 a3 true)) = some (r1, r2) := H
   have A11 := Aside0.mk A110
   clear A110
   by_cases c12 : t151 = true
   ·subst c12
    have H1 : (if 0 ≤ a1 then (if a1 < (l0.length : Int) then (if a2.toList = ((rd_T117 l0 a1).f1).toList then (impl_Move.j0 k l0 a1 a2 a3 true) else ((impl_quantity.f a3).bind fun t153 => (impl_Move.j0 k l0 a1 a2 a3 (!t153)))) else (none)) else (none)) = some (r1, r2) := by rw [if_pos rfl] at H; exact H
    clear H
    have H := H1
    clear H1
    by_cases c13 : 0 ≤ a1
    case neg => rw [if_neg c13] at H; exact absurd H (by simp)
    rw [if_pos c13] at H
    have c13b0 : decide (0 ≤ a1) = true := decide_eq_true c13
    clear c13
    by_cases c14 : a1 < (l0.length : Int)
    case neg => rw [if_neg c14] at H; exact absurd H (by simp)
    rw [if_pos c14] at H
    have c14b0 : decide (a1 < (l0.length : Int)) = true := decide_eq_true c14
    clear c14
    by_cases c15 : a2.toList = ((rd_T117 l0 a1).f1).toList
    ·rw [if_pos c15] at H
     have c15b0 : (a2.toList == ((rd_T117 l0 a1).f1).toList) = true := beq_iff_eq.mpr c15
     have c15b1 : (a2.toList != ((rd_T117 l0 a1).f1).toList) = false := bne_eq_false_iff_eq.mpr c15
     clear c15
     have H' := Aside0.mk H
     clear H
     go_wp2_with (first | (go_at_call 80; (with_reducible refine (impl_NameOk.calls k a2 true _ A11.out).mono ?_); rintro e w' ⟨rfl, ⟨nd, rfl⟩⟩; have p152 : 0 ≤ (a1 : Int) := of_decide_eq_true (by first | (with_reducible assumption) | assumption); have q152 : a1 < (l0.length : Int) := of_decide_eq_true (by first | (with_reducible assumption) | assumption); obtain ⟨ad152, e152, hx152_0, hx152_1, hx152_2, hx152_3, hx152_4, hx152_5⟩ := at_T117 HR0.out a1 p152 q152; cases e152; replace hx152_0 := (HB.out.cell (World.block_lt_of_cell? w _ hx152_0)).trans hx152_0; replace hx152_1 := (HB.out.cell (World.block_lt_of_cell? w _ hx152_1)).trans hx152_1; replace hx152_2 := (HB.out.cell (World.block_lt_of_cell? w _ hx152_2)).trans hx152_2; replace hx152_3 := (HB.out.cell (World.block_lt_of_cell? w _ hx152_3)).trans hx152_3; replace hx152_4 := (HB.out.cell (World.block_lt_of_cell? w _ hx152_4)).trans hx152_4; replace hx152_5 := (HB.out.cell (World.block_lt_of_cell? w _ hx152_5)).trans hx152_5; replace p152 := eq_true p152; replace q152 := eq_true q152))
     go_meet
     case rel => exact ⟨_, (true), (by first | rfl | (simp; done) | (simp [*]; done)), H', ⟨by first | omega | exact Nat.le_refl _⟩, ⟨by repeat (first | (with_reducible first | exact HB.out | apply qc0 | apply qa0 | apply qb0) | exact HB.out)⟩⟩
    rw [if_neg c15] at H
    have c15b0 : (a2.toList == ((rd_T117 l0 a1).f1).toList) = false := beq_eq_false_iff_ne.mpr c15
    have c15b1 : (a2.toList != ((rd_T117 l0 a1).f1).toList) = true := bne_iff_ne.mpr c15
    replace H := Option.bind_eq_some_iff.mp H
    obtain ⟨t153, A160, H⟩ := H
    replace H : (impl_Move.j0 k l0 a1 a2 a3 (!t153)) = some (r1, r2) := H
    have A16 := Aside0.mk A160
    clear A160
    have H' := Aside0.mk H
    clear H
    go_wp2_with (first | (go_at_call 80; (with_reducible refine (impl_NameOk.calls k a2 true _ A11.out).mono ?_); rintro e w' ⟨rfl, ⟨nd, rfl⟩⟩; have p152 : 0 ≤ (a1 : Int) := of_decide_eq_true (by first | (with_reducible assumption) | assumption); have q152 : a1 < (l0.length : Int) := of_decide_eq_true (by first | (with_reducible assumption) | assumption); obtain ⟨ad152, e152, hx152_0, hx152_1, hx152_2, hx152_3, hx152_4, hx152_5⟩ := at_T117 HR0.out a1 p152 q152; cases e152; replace hx152_0 := (HB.out.cell (World.block_lt_of_cell? w _ hx152_0)).trans hx152_0; replace hx152_1 := (HB.out.cell (World.block_lt_of_cell? w _ hx152_1)).trans hx152_1; replace hx152_2 := (HB.out.cell (World.block_lt_of_cell? w _ hx152_2)).trans hx152_2; replace hx152_3 := (HB.out.cell (World.block_lt_of_cell? w _ hx152_3)).trans hx152_3; replace hx152_4 := (HB.out.cell (World.block_lt_of_cell? w _ hx152_4)).trans hx152_4; replace hx152_5 := (HB.out.cell (World.block_lt_of_cell? w _ hx152_5)).trans hx152_5; replace p152 := eq_true p152; replace q152 := eq_true q152) | (go_at_call 79; (with_reducible refine (impl_quantity.calls a3 t153 _ A16.out).mono ?_); rintro e w' ⟨rfl, ⟨nd, rfl⟩⟩))
    go_meet
    case rel => exact ⟨_, (!t153), (by first | rfl | (simp; done) | (simp [*]; done)), H', ⟨by first | omega | exact Nat.le_refl _⟩, ⟨by repeat (first | (with_reducible first | exact HB.out | apply qc0 | apply qa0 | apply qb0) | exact HB.out)⟩⟩
   replace c12 := Bool.eq_false_iff.mpr c12
   subst c12
   have H1 : (impl_Move.j0 k l0 a1 a2 a3 true) = some (r1, r2) := by rw [if_neg (show ¬ (false = true) by decide)] at H; exact H
   clear H
   have H := H1
   clear H1
   have H' := Aside0.mk H
   clear H
   go_wp2_with (first | (go_at_call 80; (with_reducible refine (impl_NameOk.calls k a2 false _ A11.out).mono ?_); rintro e w' ⟨rfl, ⟨nd, rfl⟩⟩))
   go_meet
   case rel => exact ⟨_, (true), (by first | rfl | (simp; done) | (simp [*]; done)), H', ⟨by first | omega | exact Nat.le_refl _⟩, ⟨by repeat (first | (with_reducible first | exact HB.out | apply qc0 | apply qa0 | apply qb0) | exact HB.out)⟩⟩
  case rest =>
   clear HC7
   try clear c1
   try clear p1
   try clear q1
   try clear hx1
   try clear p2
   try clear c6
   try clear c7
   try clear c9
   try clear c9b0
   try clear c10
   try clear c10b0
   try clear c12
   try clear c13
   try clear c13b0
   try clear c14
   try clear c14b0
   try clear c15
   try clear c15b0
   try clear c15b1
   try clear p15
   try clear q15
   try clear hx15
   try clear hx152_0
   try clear hx152_1
   try clear hx152_2
   try clear hx152_3
   try clear hx152_4
   try clear hx152_5
   try clear p152
   try clear q152
   obtain ⟨kq, x42_6, rfl, HA, HJ6, HB⟩ := hcut
   cases kq with
   | zero => exact absurd HA.out (by simp [impl_Move.j0])
   | succ kj6 =>
    have H := HA.out
    clear HA
    simp only [impl_Move.j0] at H
    by_cases c17 : x42_6 = true
    ·subst c17
     have H1 : ((impl_copyStock.f l0).bind fun t154 => (some (t154, 2))) = some (r1, r2) := by rw [if_pos rfl] at H; exact H
     clear H
     have H := H1
     clear H1
     replace H := Option.bind_eq_some_iff.mp H
     obtain ⟨t154, A180, H⟩ := H
     replace H : (some (t154, 2)) = some (r1, r2) := H
     have A18 := Aside0.mk A180
     clear A180
     simp only [Option.some.injEq, Prod.mk.injEq] at H
     obtain ⟨rfl, rfl⟩ := H
     go_wp2_with (first | ((with_reducible refine qo0 (f := 155) rfl ?_); refine qz0 (some 44) rfl rfl Try.func155 (by kernel_rfl) rfl #[.slice A0 l0.length c0] rfl (by (try simp only [List.map_toArray, List.map_cons, List.map_nil]); first | done | rfl | (simp only [List.length_drop, List.length_take]; rfl)) ?_; (with_reducible refine (impl_copyStock.calls _ _ l0 t154 _ ?side1 ?side2 A18.out).mono ?_); (case side1 => repeat (first | exact (Kd.qp1 HR0.out HB.out) | (with_reducible refine Kd.qu0 ?_ _) | (with_reducible refine Kd.qt0 ?_ _) | (with_reducible refine Kd.qy0 ?_))); (case side2 => exact HC0.out); rintro e w19 ⟨v155, rfl, ho0, hb⟩; refine ⟨_, rfl, ?_⟩; have n0_ := Aside0.mk (Kd.qb1 ho0 (ql0 (by repeat (first | (with_reducible first | exact HB.out | apply qc0 | apply qa0 | apply qb0) | exact HB.out)))); have n1_ := Aside0.mk (qk0 (by repeat (first | (with_reducible first | exact HB.out | apply qc0 | apply qa0 | apply qb0) | exact HB.out)) hb); clear HB; have HO156 := n0_; have HB := n1_; clear n0_ n1_; (try clear hb); (try clear hb2); (try clear hk); (try clear hi); (try clear ho0)))
     go_ret2
     exact ⟨_, by first | rfl | (simp [errW_none, errW_some] <;> rfl) | (simp [*, errW_none, errW_some] <;> rfl), by (with_reducible repeat (first | apply Kd.qi0 | apply Kd.qh0 | apply Kd.qj0)); exact HO156.out, by repeat (first | (with_reducible first | exact HB.out | apply qc0 | apply qa0 | apply qb0) | exact HB.out)⟩
    replace c17 := Bool.eq_false_iff.mpr c17
    subst c17
    have H1 : (if 0 ≤ a1 then (if a1 < (l0.length : Int) then (if a3 > (wrap64 (((rd_T117 l0 a1).f4) - ((rd_T117 l0 a1).f5))) then ((impl_copyStock.f l0).bind fun t159 => (some (t159, 3))) else ((impl_copyStock.f l0).bind fun t162 => (if a1 < (t162.length : Int) then ((impl_bring.f kj6 (t162.set (a1 : Int).toNat (⟨(rd_T117 t162 a1).f0, (rd_T117 t162 a1).f1, (rd_T117 t162 a1).f2, (rd_T117 t162 a1).f3, wrap64 (((rd_T117 t162 a1).f4) - a3), (rd_T117 t162 a1).f5⟩ : S117)) ((rd_T117 l0 a1).f0) a2 ((rd_T117 l0 a1).f2) ((rd_T117 l0 a1).f3) a3 0).bind fun bt167 => (if bt167.2 = true then (some (bt167.1, 0)) else ((impl_copyStock.f l0).bind fun t171 => (some (t171, 4))))) else (none)))) else (none)) else (none)) = some (r1, r2) := by rw [if_neg (show ¬ (false = true) by decide)] at H; exact H
    clear H
    have H := H1
    clear H1
    by_cases c20 : 0 ≤ a1
    case neg => rw [if_neg c20] at H; exact absurd H (by simp)
    rw [if_pos c20] at H
    have c20b0 : decide (0 ≤ a1) = true := decide_eq_true c20
    clear c20
    by_cases c21 : a1 < (l0.length : Int)
    case neg => rw [if_neg c21] at H; exact absurd H (by simp)
    rw [if_pos c21] at H
    have c21b0 : decide (a1 < (l0.length : Int)) = true := decide_eq_true c21
    clear c21
    by_cases c22 : a3 > (wrap64 (((rd_T117 l0 a1).f4) - ((rd_T117 l0 a1).f5)))
    ·rw [if_pos c22] at H
     have c22b0 : decide ((wrap64 (((rd_T117 l0 a1).f4) - ((rd_T117 l0 a1).f5))) < a3) = true := decide_eq_true c22
     clear c22
     replace H := Option.bind_eq_some_iff.mp H
     obtain ⟨t159, A230, H⟩ := H
     replace H : (some (t159, 3)) = some (r1, r2) := H
     have A23 := Aside0.mk A230
     clear A230
     simp only [Option.some.injEq, Prod.mk.injEq] at H
     obtain ⟨rfl, rfl⟩ := H
     have p157 : 0 ≤ (a1 : Int) := of_decide_eq_true (by first | (with_reducible assumption) | assumption)
     have q157 : a1 < (l0.length : Int) := of_decide_eq_true (by first | (with_reducible assumption) | assumption)
     obtain ⟨ad157, e157, hx157_0, hx157_1, hx157_2, hx157_3, hx157_4, hx157_5⟩ := at_T117 HR0.out a1 p157 q157
     cases e157
     replace hx157_0 := (HB.out.cell (World.block_lt_of_cell? w _ hx157_0)).trans hx157_0
     replace hx157_1 := (HB.out.cell (World.block_lt_of_cell? w _ hx157_1)).trans hx157_1
     replace hx157_2 := (HB.out.cell (World.block_lt_of_cell? w _ hx157_2)).trans hx157_2
     replace hx157_3 := (HB.out.cell (World.block_lt_of_cell? w _ hx157_3)).trans hx157_3
     replace hx157_4 := (HB.out.cell (World.block_lt_of_cell? w _ hx157_4)).trans hx157_4
     replace hx157_5 := (HB.out.cell (World.block_lt_of_cell? w _ hx157_5)).trans hx157_5
     replace p157 := eq_true p157
     replace q157 := eq_true q157
     go_wp2_with (first | ((with_reducible refine gate_dst (N := 10) rfl ?_); (try (refine gate_guard (by rfl) ?_; dsimp only)); refine qh1 ?hg (N := 10) ?hd (cs := #[.string (⟨#[]⟩ : ByteArray), .string (⟨#[]⟩ : ByteArray), .string (⟨#[]⟩ : ByteArray), .int .i64 0, .int .i64 0, .int .i64 0]) (t := 117) ?hr ?_; (case hd => rfl); (case hg => rfl); (case hr => first | (go_simp; done) | (go_simp; rfl)); intro gb158 hg w24 hbox hb; have n0_ := Aside0.mk (qk0 (by repeat (first | (with_reducible first | exact HB.out | apply qc0 | apply qa0 | apply qb0) | exact HB.out)) hb); have n1_ := Aside0.mk (hbox); have n2_ := Aside0.mk ((by rw [hg]; exact (ql0 (by repeat (first | (with_reducible first | exact HB.out | apply qc0 | apply qa0 | apply qb0) | exact HB.out))) : w.heap.size ≤ gb158)); have n3_ := Aside0.mk ((by rw [hg]; exact (ql0 (by repeat (first | (with_reducible first | exact HB.out | apply qc0 | apply qa0 | apply qb0) | exact HB.out))) : w.heap.size ≤ gb158)); clear HB; have HB := n0_; have BK158 := n1_; have GW158 := n2_; have GE158 := n3_; clear n0_ n1_ n2_ n3_; clear hb hbox hg; have hcz25_0 : w24.cell? ⟨gb158, 0, none⟩ = some (.string (⟨#[]⟩ : ByteArray)) := (qe0 BK158.out 0).trans rfl; have hcz25_1 : w24.cell? ⟨gb158, 1, none⟩ = some (.string (⟨#[]⟩ : ByteArray)) := (qe0 BK158.out 1).trans rfl; have hcz25_2 : w24.cell? ⟨gb158, 2, none⟩ = some (.string (⟨#[]⟩ : ByteArray)) := (qe0 BK158.out 2).trans rfl; have hcz25_3 : w24.cell? ⟨gb158, 3, none⟩ = some (.int .i64 0) := (qe0 BK158.out 3).trans rfl; have hcz25_4 : w24.cell? ⟨gb158, 4, none⟩ = some (.int .i64 0) := (qe0 BK158.out 4).trans rfl; have hcz25_5 : w24.cell? ⟨gb158, 5, none⟩ = some (.int .i64 0) := (qe0 BK158.out 5).trans rfl; have hfz25_0 := qd0 BK158.out 0; have hfz25_1 := qd0 BK158.out 1; have hfz25_2 := qd0 BK158.out 2; have hfz25_3 := qd0 BK158.out 3; have hfz25_4 := qd0 BK158.out 4; have hfz25_5 := qd0 BK158.out 5) | ((with_reducible refine qo0 (f := 155) rfl ?_); refine qz0 (some 57) rfl rfl Try.func155 (by kernel_rfl) rfl #[.slice (some ad157) l0.length c0] rfl (by (try simp only [List.map_toArray, List.map_cons, List.map_nil]); first | done | rfl | (simp only [List.length_drop, List.length_take]; rfl)) ?_; (with_reducible refine (impl_copyStock.calls _ _ l0 t159 _ ?side1 ?side2 A23.out).mono ?_); (case side1 => exact Kd.qp1 HR0.out (by repeat (first | (with_reducible first | exact HB.out | apply qc0 | apply qa0 | apply qb0 | refine qg0 ?_ GE158.out) | exact HB.out))); (case side2 => exact HC0.out); rintro e w26 ⟨v160, rfl, ho0, hb⟩; refine ⟨_, rfl, ?_⟩; have n0_ := Aside0.mk (Kd.qb1 (Kd.R_newB ho0 (g := gb158) (o := .cells #[.string ((rd_T117 l0 a1).f0), .string ((rd_T117 l0 a1).f1), .string ((rd_T117 l0 a1).f2), .int .i64 ((rd_T117 l0 a1).f3), .int .i64 ((rd_T117 l0 a1).f4), .int .i64 ((rd_T117 l0 a1).f5)] 117 (0, 0)) (by (with_reducible repeat (first | refine qm0 ?_ _ | refine qp0 ?_ | refine qn0 ?_ _)); refine qx0 (cs := #[.string ((rd_T117 l0 a1).f0), .string ((rd_T117 l0 a1).f1), .string ((rd_T117 l0 a1).f2), .int .i64 ((rd_T117 l0 a1).f3), .int .i64 ((rd_T117 l0 a1).f4), .int .i64 0]) ?_ 5 _ rfl; (with_reducible repeat (first | refine qm0 ?_ _ | refine qp0 ?_ | refine qn0 ?_ _)); refine qx0 (cs := #[.string ((rd_T117 l0 a1).f0), .string ((rd_T117 l0 a1).f1), .string ((rd_T117 l0 a1).f2), .int .i64 ((rd_T117 l0 a1).f3), .int .i64 0, .int .i64 0]) ?_ 4 _ rfl; (with_reducible repeat (first | refine qm0 ?_ _ | refine qp0 ?_ | refine qn0 ?_ _)); refine qx0 (cs := #[.string ((rd_T117 l0 a1).f0), .string ((rd_T117 l0 a1).f1), .string ((rd_T117 l0 a1).f2), .int .i64 0, .int .i64 0, .int .i64 0]) ?_ 3 _ rfl; (with_reducible repeat (first | refine qm0 ?_ _ | refine qp0 ?_ | refine qn0 ?_ _)); refine qx0 (cs := #[.string ((rd_T117 l0 a1).f0), .string ((rd_T117 l0 a1).f1), .string (⟨#[]⟩ : ByteArray), .int .i64 0, .int .i64 0, .int .i64 0]) ?_ 2 _ rfl; (with_reducible repeat (first | refine qm0 ?_ _ | refine qp0 ?_ | refine qn0 ?_ _)); refine qx0 (cs := #[.string ((rd_T117 l0 a1).f0), .string (⟨#[]⟩ : ByteArray), .string (⟨#[]⟩ : ByteArray), .int .i64 0, .int .i64 0, .int .i64 0]) ?_ 1 _ rfl; (with_reducible repeat (first | refine qm0 ?_ _ | refine qp0 ?_ | refine qn0 ?_ _)); refine qx0 (cs := #[.string (⟨#[]⟩ : ByteArray), .string (⟨#[]⟩ : ByteArray), .string (⟨#[]⟩ : ByteArray), .int .i64 0, .int .i64 0, .int .i64 0]) ?_ 0 _ rfl; (with_reducible repeat (first | refine qm0 ?_ _ | refine qp0 ?_ | refine qn0 ?_ _)); exact BK158.out)) (ql0 (by repeat (first | (with_reducible first | exact HB.out | apply qc0 | apply qa0 | apply qb0 | refine qg0 ?_ GE158.out) | exact HB.out)))); have n1_ := Aside0.mk (ql1 (g := gb158) (o := .cells #[.string ((rd_T117 l0 a1).f0), .string ((rd_T117 l0 a1).f1), .string ((rd_T117 l0 a1).f2), .int .i64 ((rd_T117 l0 a1).f3), .int .i64 ((rd_T117 l0 a1).f4), .int .i64 ((rd_T117 l0 a1).f5)] 117 (0, 0)) (by (with_reducible repeat (first | refine qm0 ?_ _ | refine qp0 ?_ | refine qn0 ?_ _)); refine qx0 (cs := #[.string ((rd_T117 l0 a1).f0), .string ((rd_T117 l0 a1).f1), .string ((rd_T117 l0 a1).f2), .int .i64 ((rd_T117 l0 a1).f3), .int .i64 ((rd_T117 l0 a1).f4), .int .i64 0]) ?_ 5 _ rfl; (with_reducible repeat (first | refine qm0 ?_ _ | refine qp0 ?_ | refine qn0 ?_ _)); refine qx0 (cs := #[.string ((rd_T117 l0 a1).f0), .string ((rd_T117 l0 a1).f1), .string ((rd_T117 l0 a1).f2), .int .i64 ((rd_T117 l0 a1).f3), .int .i64 0, .int .i64 0]) ?_ 4 _ rfl; (with_reducible repeat (first | refine qm0 ?_ _ | refine qp0 ?_ | refine qn0 ?_ _)); refine qx0 (cs := #[.string ((rd_T117 l0 a1).f0), .string ((rd_T117 l0 a1).f1), .string ((rd_T117 l0 a1).f2), .int .i64 0, .int .i64 0, .int .i64 0]) ?_ 3 _ rfl; (with_reducible repeat (first | refine qm0 ?_ _ | refine qp0 ?_ | refine qn0 ?_ _)); refine qx0 (cs := #[.string ((rd_T117 l0 a1).f0), .string ((rd_T117 l0 a1).f1), .string (⟨#[]⟩ : ByteArray), .int .i64 0, .int .i64 0, .int .i64 0]) ?_ 2 _ rfl; (with_reducible repeat (first | refine qm0 ?_ _ | refine qp0 ?_ | refine qn0 ?_ _)); refine qx0 (cs := #[.string ((rd_T117 l0 a1).f0), .string (⟨#[]⟩ : ByteArray), .string (⟨#[]⟩ : ByteArray), .int .i64 0, .int .i64 0, .int .i64 0]) ?_ 1 _ rfl; (with_reducible repeat (first | refine qm0 ?_ _ | refine qp0 ?_ | refine qn0 ?_ _)); refine qx0 (cs := #[.string (⟨#[]⟩ : ByteArray), .string (⟨#[]⟩ : ByteArray), .string (⟨#[]⟩ : ByteArray), .int .i64 0, .int .i64 0, .int .i64 0]) ?_ 0 _ rfl; (with_reducible repeat (first | refine qm0 ?_ _ | refine qp0 ?_ | refine qn0 ?_ _)); exact BK158.out) hb); have n2_ := Aside0.mk (qk0 (by repeat (first | (with_reducible first | exact HB.out | apply qc0 | apply qa0 | apply qb0 | refine qg0 ?_ GE158.out) | exact HB.out)) hb); clear BK158; clear HB; have HO161 := n0_; have BK158 := n1_; have HB := n2_; clear n0_ n1_ n2_; (try clear hb); (try clear hb2); (try clear hk); (try clear hi); (try clear ho0)))
     go_ret2
     exact ⟨_, by first | rfl | (simp [errW_none, errW_some] <;> rfl) | (simp [*, errW_none, errW_some] <;> rfl), by (with_reducible repeat (first | apply Kd.qi0 | apply Kd.qh0 | apply Kd.qj0)); exact Kd.qv0 HO161.out (fun _ hk => trivial), by repeat (first | (with_reducible first | exact HB.out | apply qc0 | apply qa0 | apply qb0 | refine qg0 ?_ GE158.out) | exact HB.out)⟩
    rw [if_neg c22] at H
    have c22b0 : decide ((wrap64 (((rd_T117 l0 a1).f4) - ((rd_T117 l0 a1).f5))) < a3) = false := decide_eq_false c22
    clear c22
    replace H := Option.bind_eq_some_iff.mp H
    obtain ⟨t162, A270, H⟩ := H
    replace H : (if a1 < (t162.length : Int) then ((impl_bring.f kj6 (t162.set (a1 : Int).toNat (⟨(rd_T117 t162 a1).f0, (rd_T117 t162 a1).f1, (rd_T117 t162 a1).f2, (rd_T117 t162 a1).f3, wrap64 (((rd_T117 t162 a1).f4) - a3), (rd_T117 t162 a1).f5⟩ : S117)) ((rd_T117 l0 a1).f0) a2 ((rd_T117 l0 a1).f2) ((rd_T117 l0 a1).f3) a3 0).bind fun bt167 => (if bt167.2 = true then (some (bt167.1, 0)) else ((impl_copyStock.f l0).bind fun t171 => (some (t171, 4))))) else (none)) = some (r1, r2) := H
    have A27 := Aside0.mk A270
    clear A270
    by_cases c28 : a1 < (t162.length : Int)
    case neg => rw [if_neg c28] at H; exact absurd H (by simp)
    rw [if_pos c28] at H
    have c28b0 : decide (a1 < (t162.length : Int)) = true := decide_eq_true c28
    clear c28
    obtain ⟨y166, hy166⟩ : ∃ y_ : List (S117), y_ = (t162.set (a1 : Int).toNat (⟨(rd_T117 t162 a1).f0, (rd_T117 t162 a1).f1, (rd_T117 t162 a1).f2, (rd_T117 t162 a1).f3, wrap64 (((rd_T117 t162 a1).f4) - a3), (rd_T117 t162 a1).f5⟩ : S117)) := ⟨_, rfl⟩
    replace H : ((impl_bring.f kj6 y166 ((rd_T117 l0 a1).f0) a2 ((rd_T117 l0 a1).f2) ((rd_T117 l0 a1).f3) a3 0).bind fun bt167 => (if bt167.2 = true then (some (bt167.1, 0)) else ((impl_copyStock.f l0).bind fun t171 => (some (t171, 4))))) = some (r1, r2) := by first | (rw [hy166]; with_reducible exact H) | (have H2_ := (Option.bind_some _ _).symm.trans H; rw [hy166]; with_reducible exact H2_) | (have H2_ := (Option.bind_some _ _).symm.trans H; with_reducible exact H2_) | with_reducible exact H | (rw [hy166]; exact H) | exact H
    have Ny166 := Aside0.mk hy166
    clear hy166
    replace H := Option.bind_eq_some_iff.mp H
    obtain ⟨⟨t167, t170⟩, A300, H⟩ := H
    replace H : (if t170 = true then (some (t167, 0)) else ((impl_copyStock.f l0).bind fun t171 => (some (t171, 4)))) = some (r1, r2) := H
    have A30 := Aside0.mk A300
    clear A300
    by_cases c31 : t170 = true
    ·subst c31
     have H1 : (some (t167, 0)) = some (r1, r2) := by rw [if_pos rfl] at H; exact H
     clear H
     have H := H1
     clear H1
     simp only [Option.some.injEq, Prod.mk.injEq] at H
     obtain ⟨rfl, rfl⟩ := H
     have p157 : 0 ≤ (a1 : Int) := of_decide_eq_true (by first | (with_reducible assumption) | assumption)
     have q157 : a1 < (l0.length : Int) := of_decide_eq_true (by first | (with_reducible assumption) | assumption)
     obtain ⟨ad157, e157, hx157_0, hx157_1, hx157_2, hx157_3, hx157_4, hx157_5⟩ := at_T117 HR0.out a1 p157 q157
     cases e157
     replace hx157_0 := (HB.out.cell (World.block_lt_of_cell? w _ hx157_0)).trans hx157_0
     replace hx157_1 := (HB.out.cell (World.block_lt_of_cell? w _ hx157_1)).trans hx157_1
     replace hx157_2 := (HB.out.cell (World.block_lt_of_cell? w _ hx157_2)).trans hx157_2
     replace hx157_3 := (HB.out.cell (World.block_lt_of_cell? w _ hx157_3)).trans hx157_3
     replace hx157_4 := (HB.out.cell (World.block_lt_of_cell? w _ hx157_4)).trans hx157_4
     replace hx157_5 := (HB.out.cell (World.block_lt_of_cell? w _ hx157_5)).trans hx157_5
     replace p157 := eq_true p157
     replace q157 := eq_true q157
     go_wp2_with (first | ((with_reducible refine gate_dst (N := 10) rfl ?_); (try (refine gate_guard (by rfl) ?_; dsimp only)); refine qh1 ?hg (N := 10) ?hd (cs := #[.string (⟨#[]⟩ : ByteArray), .string (⟨#[]⟩ : ByteArray), .string (⟨#[]⟩ : ByteArray), .int .i64 0, .int .i64 0, .int .i64 0]) (t := 117) ?hr ?_; (case hd => rfl); (case hg => rfl); (case hr => first | (go_simp; done) | (go_simp; rfl)); intro gb158 hg w32 hbox hb; have n0_ := Aside0.mk (qk0 (by repeat (first | (with_reducible first | exact HB.out | apply qc0 | apply qa0 | apply qb0) | exact HB.out)) hb); have n1_ := Aside0.mk (hbox); have n2_ := Aside0.mk ((by rw [hg]; exact (ql0 (by repeat (first | (with_reducible first | exact HB.out | apply qc0 | apply qa0 | apply qb0) | exact HB.out))) : w.heap.size ≤ gb158)); have n3_ := Aside0.mk ((by rw [hg]; exact (ql0 (by repeat (first | (with_reducible first | exact HB.out | apply qc0 | apply qa0 | apply qb0) | exact HB.out))) : w.heap.size ≤ gb158)); clear HB; have HB := n0_; have BK158 := n1_; have GW158 := n2_; have GE158 := n3_; clear n0_ n1_ n2_ n3_; clear hb hbox hg; have hcz33_0 : w32.cell? ⟨gb158, 0, none⟩ = some (.string (⟨#[]⟩ : ByteArray)) := (qe0 BK158.out 0).trans rfl; have hcz33_1 : w32.cell? ⟨gb158, 1, none⟩ = some (.string (⟨#[]⟩ : ByteArray)) := (qe0 BK158.out 1).trans rfl; have hcz33_2 : w32.cell? ⟨gb158, 2, none⟩ = some (.string (⟨#[]⟩ : ByteArray)) := (qe0 BK158.out 2).trans rfl; have hcz33_3 : w32.cell? ⟨gb158, 3, none⟩ = some (.int .i64 0) := (qe0 BK158.out 3).trans rfl; have hcz33_4 : w32.cell? ⟨gb158, 4, none⟩ = some (.int .i64 0) := (qe0 BK158.out 4).trans rfl; have hcz33_5 : w32.cell? ⟨gb158, 5, none⟩ = some (.int .i64 0) := (qe0 BK158.out 5).trans rfl; have hfz33_0 := qd0 BK158.out 0; have hfz33_1 := qd0 BK158.out 1; have hfz33_2 := qd0 BK158.out 2; have hfz33_3 := qd0 BK158.out 3; have hfz33_4 := qd0 BK158.out 4; have hfz33_5 := qd0 BK158.out 5) | ((with_reducible refine qo0 (f := 155) rfl ?_); refine qz0 (some 59) rfl rfl Try.func155 (by kernel_rfl) rfl #[.slice (some ad157) l0.length c0] rfl (by (try simp only [List.map_toArray, List.map_cons, List.map_nil]); first | done | rfl | (simp only [List.length_drop, List.length_take]; rfl)) ?_; (with_reducible refine (impl_copyStock.calls _ _ l0 t162 _ ?side1 ?side2 A27.out).mono ?_); (case side1 => exact Kd.qp1 HR0.out (by repeat (first | (with_reducible first | exact HB.out | apply qc0 | apply qa0 | apply qb0 | refine qg0 ?_ GE158.out) | exact HB.out))); (case side2 => exact HC0.out); rintro e w34 ⟨v163, rfl, ho0, hb⟩; refine ⟨_, rfl, ?_⟩; have n0_ := Aside0.mk (Kd.qb1 (Kd.R_newB ho0 (g := gb158) (o := .cells #[.string ((rd_T117 l0 a1).f0), .string ((rd_T117 l0 a1).f1), .string ((rd_T117 l0 a1).f2), .int .i64 ((rd_T117 l0 a1).f3), .int .i64 ((rd_T117 l0 a1).f4), .int .i64 ((rd_T117 l0 a1).f5)] 117 (0, 0)) (by (with_reducible repeat (first | refine qm0 ?_ _ | refine qp0 ?_ | refine qn0 ?_ _)); refine qx0 (cs := #[.string ((rd_T117 l0 a1).f0), .string ((rd_T117 l0 a1).f1), .string ((rd_T117 l0 a1).f2), .int .i64 ((rd_T117 l0 a1).f3), .int .i64 ((rd_T117 l0 a1).f4), .int .i64 0]) ?_ 5 _ rfl; (with_reducible repeat (first | refine qm0 ?_ _ | refine qp0 ?_ | refine qn0 ?_ _)); refine qx0 (cs := #[.string ((rd_T117 l0 a1).f0), .string ((rd_T117 l0 a1).f1), .string ((rd_T117 l0 a1).f2), .int .i64 ((rd_T117 l0 a1).f3), .int .i64 0, .int .i64 0]) ?_ 4 _ rfl; (with_reducible repeat (first | refine qm0 ?_ _ | refine qp0 ?_ | refine qn0 ?_ _)); refine qx0 (cs := #[.string ((rd_T117 l0 a1).f0), .string ((rd_T117 l0 a1).f1), .string ((rd_T117 l0 a1).f2), .int .i64 0, .int .i64 0, .int .i64 0]) ?_ 3 _ rfl; (with_reducible repeat (first | refine qm0 ?_ _ | refine qp0 ?_ | refine qn0 ?_ _)); refine qx0 (cs := #[.string ((rd_T117 l0 a1).f0), .string ((rd_T117 l0 a1).f1), .string (⟨#[]⟩ : ByteArray), .int .i64 0, .int .i64 0, .int .i64 0]) ?_ 2 _ rfl; (with_reducible repeat (first | refine qm0 ?_ _ | refine qp0 ?_ | refine qn0 ?_ _)); refine qx0 (cs := #[.string ((rd_T117 l0 a1).f0), .string (⟨#[]⟩ : ByteArray), .string (⟨#[]⟩ : ByteArray), .int .i64 0, .int .i64 0, .int .i64 0]) ?_ 1 _ rfl; (with_reducible repeat (first | refine qm0 ?_ _ | refine qp0 ?_ | refine qn0 ?_ _)); refine qx0 (cs := #[.string (⟨#[]⟩ : ByteArray), .string (⟨#[]⟩ : ByteArray), .string (⟨#[]⟩ : ByteArray), .int .i64 0, .int .i64 0, .int .i64 0]) ?_ 0 _ rfl; (with_reducible repeat (first | refine qm0 ?_ _ | refine qp0 ?_ | refine qn0 ?_ _)); exact BK158.out)) (ql0 (by repeat (first | (with_reducible first | exact HB.out | apply qc0 | apply qa0 | apply qb0 | refine qg0 ?_ GE158.out) | exact HB.out)))); have n1_ := Aside0.mk (ql1 (g := gb158) (o := .cells #[.string ((rd_T117 l0 a1).f0), .string ((rd_T117 l0 a1).f1), .string ((rd_T117 l0 a1).f2), .int .i64 ((rd_T117 l0 a1).f3), .int .i64 ((rd_T117 l0 a1).f4), .int .i64 ((rd_T117 l0 a1).f5)] 117 (0, 0)) (by (with_reducible repeat (first | refine qm0 ?_ _ | refine qp0 ?_ | refine qn0 ?_ _)); refine qx0 (cs := #[.string ((rd_T117 l0 a1).f0), .string ((rd_T117 l0 a1).f1), .string ((rd_T117 l0 a1).f2), .int .i64 ((rd_T117 l0 a1).f3), .int .i64 ((rd_T117 l0 a1).f4), .int .i64 0]) ?_ 5 _ rfl; (with_reducible repeat (first | refine qm0 ?_ _ | refine qp0 ?_ | refine qn0 ?_ _)); refine qx0 (cs := #[.string ((rd_T117 l0 a1).f0), .string ((rd_T117 l0 a1).f1), .string ((rd_T117 l0 a1).f2), .int .i64 ((rd_T117 l0 a1).f3), .int .i64 0, .int .i64 0]) ?_ 4 _ rfl; (with_reducible repeat (first | refine qm0 ?_ _ | refine qp0 ?_ | refine qn0 ?_ _)); refine qx0 (cs := #[.string ((rd_T117 l0 a1).f0), .string ((rd_T117 l0 a1).f1), .string ((rd_T117 l0 a1).f2), .int .i64 0, .int .i64 0, .int .i64 0]) ?_ 3 _ rfl; (with_reducible repeat (first | refine qm0 ?_ _ | refine qp0 ?_ | refine qn0 ?_ _)); refine qx0 (cs := #[.string ((rd_T117 l0 a1).f0), .string ((rd_T117 l0 a1).f1), .string (⟨#[]⟩ : ByteArray), .int .i64 0, .int .i64 0, .int .i64 0]) ?_ 2 _ rfl; (with_reducible repeat (first | refine qm0 ?_ _ | refine qp0 ?_ | refine qn0 ?_ _)); refine qx0 (cs := #[.string ((rd_T117 l0 a1).f0), .string (⟨#[]⟩ : ByteArray), .string (⟨#[]⟩ : ByteArray), .int .i64 0, .int .i64 0, .int .i64 0]) ?_ 1 _ rfl; (with_reducible repeat (first | refine qm0 ?_ _ | refine qp0 ?_ | refine qn0 ?_ _)); refine qx0 (cs := #[.string (⟨#[]⟩ : ByteArray), .string (⟨#[]⟩ : ByteArray), .string (⟨#[]⟩ : ByteArray), .int .i64 0, .int .i64 0, .int .i64 0]) ?_ 0 _ rfl; (with_reducible repeat (first | refine qm0 ?_ _ | refine qp0 ?_ | refine qn0 ?_ _)); exact BK158.out) hb); have n2_ := Aside0.mk (qk0 (by repeat (first | (with_reducible first | exact HB.out | apply qc0 | apply qa0 | apply qb0 | refine qg0 ?_ GE158.out) | exact HB.out)) hb); clear BK158; clear HB; have HO164 := n0_; have BK158 := n1_; have HB := n2_; clear n0_ n1_ n2_; (try clear hb); (try clear hb2); (try clear hk); (try clear hi); (try clear ho0); obtain ⟨Ao35, co35, eo35⟩ := Kd.qe1 HO164.out; subst eo35; have p165 : 0 ≤ (a1 : Int) := of_decide_eq_true (by first | (with_reducible assumption) | assumption); have q165 : a1 < (t162.length : Int) := of_decide_eq_true (by first | (with_reducible assumption) | assumption); obtain ⟨ad165, e165, hx165_0, hx165_1, hx165_2, hx165_3, hx165_4, hx165_5⟩ := at_T117 (Kd.qf0 HO164.out).2.2 a1 p165 q165; cases e165; replace p165 := eq_true p165; replace q165 := eq_true q165; have p29 : 0 ≤ (a1 : Int) := of_decide_eq_true (by first | (with_reducible assumption) | assumption); have q29 : (a1 : Int) < ((t162.length : Int) : Int) := of_decide_eq_true (by first | (with_reducible assumption) | assumption); obtain ⟨go29, co29, eo29, gb29, gl29, cl29, HG29⟩ := Kd.R_form HO164.out (by omega); (first | cases eo29 | (injection eo29 with ea_ en_ ec_; (first | subst ea_ | (injection ea_ with ea_; subst ea_)); subst ec_; clear en_)); have GB29 := Aside0.mk gb29; have GG29 := Aside0.mk HG29; clear gb29 gl29 HG29; (first | simp only [add_plain] at hx165_0 | skip); (first | simp only [add_plain] at hx165_1 | skip); (first | simp only [add_plain] at hx165_2 | skip); (first | simp only [add_plain] at hx165_3 | skip); (first | simp only [add_plain] at hx165_4 | skip); (first | simp only [add_plain] at hx165_5 | skip); obtain ⟨ce29, hcl29, hM29, hcc29, hfr29⟩ := Kd.qt1 HO164.out z117 (a1 : Int) p29 q29; obtain rfl := k117_openM hM29; have hx29_0 : w34.cell? ⟨go29, (a1 : Int).toNat * 6, none⟩ = some (.string ((rd_T117 t162 a1).f0)) := hcc29 0 _ rfl; have hx29_1 : w34.cell? ⟨go29, (a1 : Int).toNat * 6 + 1, none⟩ = some (.string ((rd_T117 t162 a1).f1)) := hcc29 1 _ rfl; have hx29_2 : w34.cell? ⟨go29, (a1 : Int).toNat * 6 + 2, none⟩ = some (.string ((rd_T117 t162 a1).f2)) := hcc29 2 _ rfl; have hx29_3 : w34.cell? ⟨go29, (a1 : Int).toNat * 6 + 3, none⟩ = some (.int .i64 ((rd_T117 t162 a1).f3)) := hcc29 3 _ rfl; have hx29_4 : w34.cell? ⟨go29, (a1 : Int).toNat * 6 + 4, none⟩ = some (.int .i64 ((rd_T117 t162 a1).f4)) := hcc29 4 _ rfl; have hx29_5 : w34.cell? ⟨go29, (a1 : Int).toNat * 6 + 5, none⟩ = some (.int .i64 ((rd_T117 t162 a1).f5)) := hcc29 5 _ rfl; have hf29_0 : w34.frozen? ⟨go29, (a1 : Int).toNat * 6, none⟩ = false := hfr29 0; have hf29_1 : w34.frozen? ⟨go29, (a1 : Int).toNat * 6 + 1, none⟩ = false := hfr29 1; have hf29_2 : w34.frozen? ⟨go29, (a1 : Int).toNat * 6 + 2, none⟩ = false := hfr29 2; have hf29_3 : w34.frozen? ⟨go29, (a1 : Int).toNat * 6 + 3, none⟩ = false := hfr29 3; have hf29_4 : w34.frozen? ⟨go29, (a1 : Int).toNat * 6 + 4, none⟩ = false := hfr29 4; have hf29_5 : w34.frozen? ⟨go29, (a1 : Int).toNat * 6 + 5, none⟩ = false := hfr29 5; clear hcl29 hcc29 hfr29 hM29; replace p29 := eq_true p29; replace q29 := eq_true q29; have n_ := Aside0.mk (Kd.qv0 (ok' := (fun k_ => k_ ≠ gb158)) HO164.out (fun k_ hk => hk.2)); clear HO164; have HO164 := n_; clear n_; have HX36 := Aside0.mk (show Kd.R k117 117 w34 w.heap.size (fun k_ => k_ ≠ gb158) (.slice (some ⟨go29, 0, none⟩) t162.length co35) t162 from (by (with_reducible repeat (first | apply Kd.qi0 | apply Kd.qh0 | apply Kd.qj0)); exact HO164.out)); obtain ⟨ce36, hcl36, hM36, hcc36, hfr36⟩ := Kd.qt1 HX36.out z117 (a1 : Int) (of_decide_eq_true (by first | (with_reducible assumption) | assumption)) (by have h_ : (a1 : Int) < ((t162.length : Int) : Int) := of_decide_eq_true (by first | (with_reducible assumption) | assumption); first | exact h_ | (have e_ := (Kd.qf0 HO164.out).1; omega) | simpa using h_); obtain rfl := k117_openM hM36; have HP36 := Kd.R_seg HX36.out (a1 : Int) (of_decide_eq_true (by first | (with_reducible assumption) | assumption)) (by have h_ : (a1 : Int) < ((t162.length : Int) : Int) := of_decide_eq_true (by first | (with_reducible assumption) | assumption); first | exact h_ | (have e_ := (Kd.qf0 HO164.out).1; omega) | simpa using h_) (seg := [.int .i64 (wrap64 (((rd_T117 t162 a1).f4) - a3))]) (j := 4) hcl36 hcc36 (show 5 ≤ 6 from by decide) (x' := (⟨(rd_T117 t162 a1).f0, (rd_T117 t162 a1).f1, (rd_T117 t162 a1).f2, (rd_T117 t162 a1).f3, wrap64 (((rd_T117 t162 a1).f4) - a3), (rd_T117 t162 a1).f5⟩ : S117)) (k117_mkM _ _ _ (⟨(rd_T117 t162 a1).f0, (rd_T117 t162 a1).f1, (rd_T117 t162 a1).f2, (rd_T117 t162 a1).f3, wrap64 (((rd_T117 t162 a1).f4) - a3), (rd_T117 t162 a1).f5⟩ : S117) ) (fun _ hk => hk); have hx36_4 := hcc36 4 _ rfl; (try simp only [show (k117).sz = 6 from rfl, Nat.mul_one, Nat.add_zero] at hx36_4); have hf36_4 := hfr36 4; (try simp only [show (k117).sz = 6 from rfl, Nat.mul_one, Nat.add_zero] at hf36_4); clear hcl36 hcc36 hfr36 hM36) | ((with_reducible refine gate_store (t := 3) (p := 68) rfl ?_); refine store_event (t := 3) (p := 68) (v := ?vo_w37) (w1 := (w34.setCell ⟨go29, (a1 : Int).toNat * 6 + 4, none⟩ (.int .i64 (wrap64 (((rd_T117 t162 a1).f4) - a3))))) ?hg ?ho ?hn ?hr ?_; (case ho => rfl); (case hg => rfl); (case hn => rfl); (case hr => first | (go_simp; done) | (go_simp; rfl)); intro w37 hw; have hg : w34.grownBy w37 (some go29) := (by rw [hw]; exact HP36.2); have hp_ : Kd.R k117 117 w37 w.heap.size (fun k_ => k_ ≠ gb158) (.slice (some ⟨go29, 0, none⟩) t162.length co35) y166 := (by rw [hw, Ny166.out]; exact HP36.1); clear HP36; have n0_ := Aside0.mk (blk_grown (g := gb158) (o := .cells #[.string ((rd_T117 l0 a1).f0), .string ((rd_T117 l0 a1).f1), .string ((rd_T117 l0 a1).f2), .int .i64 ((rd_T117 l0 a1).f3), .int .i64 ((rd_T117 l0 a1).f4), .int .i64 ((rd_T117 l0 a1).f5)] 117 (0, 0)) (by (with_reducible repeat (first | refine qm0 ?_ _ | refine qp0 ?_ | refine qn0 ?_ _)); exact BK158.out) hg (Kd.R_away HO164.out (fun _ hk => hk))); have n1_ := Aside0.mk (hp_); have n2_ := Aside0.mk ((by rw [hw]; exact qg0 (HB.out) GB29.out : Below w.heap.size w w37)); clear BK158; clear HO164; clear HB; have BK158 := n0_; have HO164 := n1_; have HB := n2_; clear n0_ n1_ n2_; clear hg hw hp_; have hcz38_0 : w37.cell? ⟨gb158, 0, none⟩ = some (.string ((rd_T117 l0 a1).f0)) := (qe0 BK158.out 0).trans rfl; have hcz38_1 : w37.cell? ⟨gb158, 1, none⟩ = some (.string ((rd_T117 l0 a1).f1)) := (qe0 BK158.out 1).trans rfl; have hcz38_2 : w37.cell? ⟨gb158, 2, none⟩ = some (.string ((rd_T117 l0 a1).f2)) := (qe0 BK158.out 2).trans rfl; have hcz38_3 : w37.cell? ⟨gb158, 3, none⟩ = some (.int .i64 ((rd_T117 l0 a1).f3)) := (qe0 BK158.out 3).trans rfl; have hcz38_4 : w37.cell? ⟨gb158, 4, none⟩ = some (.int .i64 ((rd_T117 l0 a1).f4)) := (qe0 BK158.out 4).trans rfl; have hcz38_5 : w37.cell? ⟨gb158, 5, none⟩ = some (.int .i64 ((rd_T117 l0 a1).f5)) := (qe0 BK158.out 5).trans rfl; have hfz38_0 := qd0 BK158.out 0; have hfz38_1 := qd0 BK158.out 1; have hfz38_2 := qd0 BK158.out 2; have hfz38_3 := qd0 BK158.out 3; have hfz38_4 := qd0 BK158.out 4; have hfz38_5 := qd0 BK158.out 5) | ((with_reducible refine gate_store (t := 9) (p := 71) rfl ?_); refine store_event (t := 9) (p := 71) (v := ?vo_w39) (w1 := (w37.setCell ⟨gb158, 1, none⟩ (.string a2))) ?hg ?ho ?hn ?hr ?_; (case ho => rfl); (case hg => rfl); (case hn => rfl); (case hr => first | (go_simp; done) | (go_simp; rfl)); intro w39 hw; have n0_ : Aside0 (Kd.R k117 117 w39 w.heap.size (fun k_ => k_ ≠ gb158) (.slice (some ⟨go29, 0, none⟩) t162.length co35) y166) := ⟨(by rw [hw]; exact (by (with_reducible repeat (first | apply Kd.qi0 | apply Kd.qh0 | apply Kd.qj0)); exact Kd.qv0 (Kd.R_far (p := ⟨gb158, 1, none⟩) (Kd.qv0 HO164.out (fun k_ hk => (⟨hk, hk⟩ : _ ∧ k_ ≠ gb158))) (fun _ hk => hk.2) (.string a2)) (fun _ hk => hk.1)))⟩; have n1_ : Aside0 (w39.heap[gb158]? = some (.cells #[.string ((rd_T117 l0 a1).f0), .string a2, .string ((rd_T117 l0 a1).f2), .int .i64 ((rd_T117 l0 a1).f3), .int .i64 ((rd_T117 l0 a1).f4), .int .i64 ((rd_T117 l0 a1).f5)] 117 (0, 0))) := ⟨(by rw [hw]; exact (by (with_reducible repeat (first | refine qm0 ?_ _ | refine qp0 ?_ | refine qn0 ?_ _)); refine qx0 (cs := #[.string ((rd_T117 l0 a1).f0), .string ((rd_T117 l0 a1).f1), .string ((rd_T117 l0 a1).f2), .int .i64 ((rd_T117 l0 a1).f3), .int .i64 ((rd_T117 l0 a1).f4), .int .i64 ((rd_T117 l0 a1).f5)]) ?_ 1 _ rfl; (with_reducible repeat (first | refine qm0 ?_ _ | refine qp0 ?_ | refine qn0 ?_ _)); exact BK158.out))⟩; have n2_ : Aside0 (Below w.heap.size w w39) := ⟨(by rw [hw]; exact (by repeat (first | (with_reducible first | exact HB.out | apply qc0 | apply qa0 | apply qb0 | refine qg0 ?_ GE158.out) | exact HB.out)))⟩; clear hw; clear HO164; clear BK158; clear HB; have HO164 := n0_; have BK158 := n1_; have HB := n2_; clear n0_ n1_ n2_; have hcz40_0 : w39.cell? ⟨gb158, 0, none⟩ = some (.string ((rd_T117 l0 a1).f0)) := (qe0 BK158.out 0).trans rfl; have hcz40_1 : w39.cell? ⟨gb158, 1, none⟩ = some (.string a2) := (qe0 BK158.out 1).trans rfl; have hcz40_2 : w39.cell? ⟨gb158, 2, none⟩ = some (.string ((rd_T117 l0 a1).f2)) := (qe0 BK158.out 2).trans rfl; have hcz40_3 : w39.cell? ⟨gb158, 3, none⟩ = some (.int .i64 ((rd_T117 l0 a1).f3)) := (qe0 BK158.out 3).trans rfl; have hcz40_4 : w39.cell? ⟨gb158, 4, none⟩ = some (.int .i64 ((rd_T117 l0 a1).f4)) := (qe0 BK158.out 4).trans rfl; have hcz40_5 : w39.cell? ⟨gb158, 5, none⟩ = some (.int .i64 ((rd_T117 l0 a1).f5)) := (qe0 BK158.out 5).trans rfl; have hfz40_0 := qd0 BK158.out 0; have hfz40_1 := qd0 BK158.out 1; have hfz40_2 := qd0 BK158.out 2; have hfz40_3 := qd0 BK158.out 3; have hfz40_4 := qd0 BK158.out 4; have hfz40_5 := qd0 BK158.out 5) | ((with_reducible refine gate_store (t := 3) (p := 72) rfl ?_); refine store_event (t := 3) (p := 72) (v := ?vo_w41) (w1 := (w39.setCell ⟨gb158, 4, none⟩ (.int .i64 a3))) ?hg ?ho ?hn ?hr ?_; (case ho => rfl); (case hg => rfl); (case hn => rfl); (case hr => first | (go_simp; done) | (go_simp; rfl)); intro w41 hw; have n0_ : Aside0 (Kd.R k117 117 w41 w.heap.size (fun k_ => k_ ≠ gb158) (.slice (some ⟨go29, 0, none⟩) t162.length co35) y166) := ⟨(by rw [hw]; exact (by (with_reducible repeat (first | apply Kd.qi0 | apply Kd.qh0 | apply Kd.qj0)); exact Kd.qv0 (Kd.R_far (p := ⟨gb158, 4, none⟩) (Kd.qv0 HO164.out (fun k_ hk => (⟨hk, hk⟩ : _ ∧ k_ ≠ gb158))) (fun _ hk => hk.2) (.int .i64 a3)) (fun _ hk => hk.1)))⟩; have n1_ : Aside0 (w41.heap[gb158]? = some (.cells #[.string ((rd_T117 l0 a1).f0), .string a2, .string ((rd_T117 l0 a1).f2), .int .i64 ((rd_T117 l0 a1).f3), .int .i64 a3, .int .i64 ((rd_T117 l0 a1).f5)] 117 (0, 0))) := ⟨(by rw [hw]; exact (by (with_reducible repeat (first | refine qm0 ?_ _ | refine qp0 ?_ | refine qn0 ?_ _)); refine qx0 (cs := #[.string ((rd_T117 l0 a1).f0), .string a2, .string ((rd_T117 l0 a1).f2), .int .i64 ((rd_T117 l0 a1).f3), .int .i64 ((rd_T117 l0 a1).f4), .int .i64 ((rd_T117 l0 a1).f5)]) ?_ 4 _ rfl; (with_reducible repeat (first | refine qm0 ?_ _ | refine qp0 ?_ | refine qn0 ?_ _)); exact BK158.out))⟩; have n2_ : Aside0 (Below w.heap.size w w41) := ⟨(by rw [hw]; exact (by repeat (first | (with_reducible first | exact HB.out | apply qc0 | apply qa0 | apply qb0 | refine qg0 ?_ GE158.out) | exact HB.out)))⟩; clear hw; clear HO164; clear BK158; clear HB; have HO164 := n0_; have BK158 := n1_; have HB := n2_; clear n0_ n1_ n2_; have hcz42_0 : w41.cell? ⟨gb158, 0, none⟩ = some (.string ((rd_T117 l0 a1).f0)) := (qe0 BK158.out 0).trans rfl; have hcz42_1 : w41.cell? ⟨gb158, 1, none⟩ = some (.string a2) := (qe0 BK158.out 1).trans rfl; have hcz42_2 : w41.cell? ⟨gb158, 2, none⟩ = some (.string ((rd_T117 l0 a1).f2)) := (qe0 BK158.out 2).trans rfl; have hcz42_3 : w41.cell? ⟨gb158, 3, none⟩ = some (.int .i64 ((rd_T117 l0 a1).f3)) := (qe0 BK158.out 3).trans rfl; have hcz42_4 : w41.cell? ⟨gb158, 4, none⟩ = some (.int .i64 a3) := (qe0 BK158.out 4).trans rfl; have hcz42_5 : w41.cell? ⟨gb158, 5, none⟩ = some (.int .i64 ((rd_T117 l0 a1).f5)) := (qe0 BK158.out 5).trans rfl; have hfz42_0 := qd0 BK158.out 0; have hfz42_1 := qd0 BK158.out 1; have hfz42_2 := qd0 BK158.out 2; have hfz42_3 := qd0 BK158.out 3; have hfz42_4 := qd0 BK158.out 4; have hfz42_5 := qd0 BK158.out 5) | ((with_reducible refine gate_store (t := 3) (p := 73) rfl ?_); refine store_event (t := 3) (p := 73) (v := ?vo_w43) (w1 := (w41.setCell ⟨gb158, 5, none⟩ (.int .i64 0))) ?hg ?ho ?hn ?hr ?_; (case ho => rfl); (case hg => rfl); (case hn => rfl); (case hr => first | (go_simp; done) | (go_simp; rfl)); intro w43 hw; have n0_ : Aside0 (Kd.R k117 117 w43 w.heap.size (fun k_ => k_ ≠ gb158) (.slice (some ⟨go29, 0, none⟩) t162.length co35) y166) := ⟨(by rw [hw]; exact (by (with_reducible repeat (first | apply Kd.qi0 | apply Kd.qh0 | apply Kd.qj0)); exact Kd.qv0 (Kd.R_far (p := ⟨gb158, 5, none⟩) (Kd.qv0 HO164.out (fun k_ hk => (⟨hk, hk⟩ : _ ∧ k_ ≠ gb158))) (fun _ hk => hk.2) (.int .i64 0)) (fun _ hk => hk.1)))⟩; have n1_ : Aside0 (w43.heap[gb158]? = some (.cells #[.string ((rd_T117 l0 a1).f0), .string a2, .string ((rd_T117 l0 a1).f2), .int .i64 ((rd_T117 l0 a1).f3), .int .i64 a3, .int .i64 0] 117 (0, 0))) := ⟨(by rw [hw]; exact (by (with_reducible repeat (first | refine qm0 ?_ _ | refine qp0 ?_ | refine qn0 ?_ _)); refine qx0 (cs := #[.string ((rd_T117 l0 a1).f0), .string a2, .string ((rd_T117 l0 a1).f2), .int .i64 ((rd_T117 l0 a1).f3), .int .i64 a3, .int .i64 ((rd_T117 l0 a1).f5)]) ?_ 5 _ rfl; (with_reducible repeat (first | refine qm0 ?_ _ | refine qp0 ?_ | refine qn0 ?_ _)); exact BK158.out))⟩; have n2_ : Aside0 (Below w.heap.size w w43) := ⟨(by rw [hw]; exact (by repeat (first | (with_reducible first | exact HB.out | apply qc0 | apply qa0 | apply qb0 | refine qg0 ?_ GE158.out) | exact HB.out)))⟩; clear hw; clear HO164; clear BK158; clear HB; have HO164 := n0_; have BK158 := n1_; have HB := n2_; clear n0_ n1_ n2_; have hcz44_0 : w43.cell? ⟨gb158, 0, none⟩ = some (.string ((rd_T117 l0 a1).f0)) := (qe0 BK158.out 0).trans rfl; have hcz44_1 : w43.cell? ⟨gb158, 1, none⟩ = some (.string a2) := (qe0 BK158.out 1).trans rfl; have hcz44_2 : w43.cell? ⟨gb158, 2, none⟩ = some (.string ((rd_T117 l0 a1).f2)) := (qe0 BK158.out 2).trans rfl; have hcz44_3 : w43.cell? ⟨gb158, 3, none⟩ = some (.int .i64 ((rd_T117 l0 a1).f3)) := (qe0 BK158.out 3).trans rfl; have hcz44_4 : w43.cell? ⟨gb158, 4, none⟩ = some (.int .i64 a3) := (qe0 BK158.out 4).trans rfl; have hcz44_5 : w43.cell? ⟨gb158, 5, none⟩ = some (.int .i64 0) := (qe0 BK158.out 5).trans rfl; have hfz44_0 := qd0 BK158.out 0; have hfz44_1 := qd0 BK158.out 1; have hfz44_2 := qd0 BK158.out 2; have hfz44_3 := qd0 BK158.out 3; have hfz44_4 := qd0 BK158.out 4; have hfz44_5 := qd0 BK158.out 5) | ((with_reducible refine qo0 (f := 156) rfl ?_); refine qz0 (some 77) rfl rfl Try.func156 (by kernel_rfl) rfl #[.slice (some ⟨go29, 0, none⟩) t162.length co35, .agg #[.string ((rd_T117 l0 a1).f0), .string a2, .string ((rd_T117 l0 a1).f2), .int .i64 ((rd_T117 l0 a1).f3), .int .i64 a3, .int .i64 0]] rfl (by (try simp only [List.map_toArray, List.map_cons, List.map_nil]); first | done | rfl | (simp only [List.length_drop, List.length_take]; rfl)) ?_; (with_reducible refine (impl_bring.calls kj6 (fun k_ => some k_ = (.slice (some ⟨go29, 0, none⟩) t162.length co35 : Value).ownBlock) (.slice (some ⟨go29, 0, none⟩) t162.length co35) y166 ((rd_T117 l0 a1).f0) a2 ((rd_T117 l0 a1).f2) ((rd_T117 l0 a1).f3) a3 0 t167 true w _ ?side1 ?side2 A30.out).mono ?_); (case side1 => repeat (first | (with_reducible first | exact HB.out | apply qc0 | apply qa0 | apply qb0 | refine qg0 ?_ GE158.out) | exact HB.out)); (case side2 => exact Kd.R_tight rfl HO164.out); rintro e w45 ⟨v168, rfl, ho0, hb, hkp⟩; refine ⟨_, rfl, ?_⟩; have n0_ := Aside0.mk (blk_kept (by (with_reducible repeat (first | refine qm0 ?_ _ | refine qp0 ?_ | refine qn0 ?_ _)); exact BK158.out) hkp (fun hs_ => (fun e_ => (Kd.R_away HO164.out (fun _ hk => hk)) e_) hs_)); have n1_ := Aside0.mk (Kd.qv0 (ok' := fun k_ => k_ ≠ gb158) ho0 (fun k_ hk_ => Or.elim hk_ (fun hs_ => fun e_ => (Kd.R_away HO164.out (fun _ hk => hk)) (by rw [← e_]; exact hs_)) (fun hn_ => (Kd.freshB (g := gb158) (o := .cells #[.string ((rd_T117 l0 a1).f0), .string a2, .string ((rd_T117 l0 a1).f2), .int .i64 ((rd_T117 l0 a1).f3), .int .i64 a3, .int .i64 0] 117 (0, 0)) (by (with_reducible repeat (first | refine qm0 ?_ _ | refine qp0 ?_ | refine qn0 ?_ _)); exact BK158.out) k_ hn_)))); have n2_ := Aside0.mk (hb); clear BK158; clear HB; clear HO164; have BK158 := n0_; have HO169 := n1_; have HB := n2_; clear n0_ n1_ n2_; (try clear hb); (try clear hkp); (try clear ho0)))
     go_ret2
     exact ⟨_, by first | rfl | (simp [errW_none, errW_some] <;> rfl) | (simp [*, errW_none, errW_some] <;> rfl), by (with_reducible repeat (first | apply Kd.qi0 | apply Kd.qh0 | apply Kd.qj0)); exact Kd.qv0 HO169.out (fun _ hk => trivial), by repeat (first | (with_reducible first | exact HB.out | apply qc0 | apply qa0 | apply qb0 | refine qg0 ?_ GE158.out) | exact HB.out)⟩
    replace c31 := Bool.eq_false_iff.mpr c31
    subst c31
    have H1 : ((impl_copyStock.f l0).bind fun t171 => (some (t171, 4))) = some (r1, r2) := by rw [if_neg (show ¬ (false = true) by decide)] at H; exact H
    clear H
    have H := H1
    clear H1
    replace H := Option.bind_eq_some_iff.mp H
    obtain ⟨t171, A460, H⟩ := H
    replace H : (some (t171, 4)) = some (r1, r2) := H
    have A46 := Aside0.mk A460
    clear A460
    simp only [Option.some.injEq, Prod.mk.injEq] at H
    obtain ⟨rfl, rfl⟩ := H
    have p157 : 0 ≤ (a1 : Int) := of_decide_eq_true (by first | (with_reducible assumption) | assumption)
    have q157 : a1 < (l0.length : Int) := of_decide_eq_true (by first | (with_reducible assumption) | assumption)
    obtain ⟨ad157, e157, hx157_0, hx157_1, hx157_2, hx157_3, hx157_4, hx157_5⟩ := at_T117 HR0.out a1 p157 q157
    cases e157
    replace hx157_0 := (HB.out.cell (World.block_lt_of_cell? w _ hx157_0)).trans hx157_0
    replace hx157_1 := (HB.out.cell (World.block_lt_of_cell? w _ hx157_1)).trans hx157_1
    replace hx157_2 := (HB.out.cell (World.block_lt_of_cell? w _ hx157_2)).trans hx157_2
    replace hx157_3 := (HB.out.cell (World.block_lt_of_cell? w _ hx157_3)).trans hx157_3
    replace hx157_4 := (HB.out.cell (World.block_lt_of_cell? w _ hx157_4)).trans hx157_4
    replace hx157_5 := (HB.out.cell (World.block_lt_of_cell? w _ hx157_5)).trans hx157_5
    replace p157 := eq_true p157
    replace q157 := eq_true q157
    go_wp2_with (first | ((with_reducible refine gate_dst (N := 10) rfl ?_); (try (refine gate_guard (by rfl) ?_; dsimp only)); refine qh1 ?hg (N := 10) ?hd (cs := #[.string (⟨#[]⟩ : ByteArray), .string (⟨#[]⟩ : ByteArray), .string (⟨#[]⟩ : ByteArray), .int .i64 0, .int .i64 0, .int .i64 0]) (t := 117) ?hr ?_; (case hd => rfl); (case hg => rfl); (case hr => first | (go_simp; done) | (go_simp; rfl)); intro gb158 hg w47 hbox hb; have n0_ := Aside0.mk (qk0 (by repeat (first | (with_reducible first | exact HB.out | apply qc0 | apply qa0 | apply qb0) | exact HB.out)) hb); have n1_ := Aside0.mk (hbox); have n2_ := Aside0.mk ((by rw [hg]; exact (ql0 (by repeat (first | (with_reducible first | exact HB.out | apply qc0 | apply qa0 | apply qb0) | exact HB.out))) : w.heap.size ≤ gb158)); have n3_ := Aside0.mk ((by rw [hg]; exact (ql0 (by repeat (first | (with_reducible first | exact HB.out | apply qc0 | apply qa0 | apply qb0) | exact HB.out))) : w.heap.size ≤ gb158)); clear HB; have HB := n0_; have BK158 := n1_; have GW158 := n2_; have GE158 := n3_; clear n0_ n1_ n2_ n3_; clear hb hbox hg; have hcz48_0 : w47.cell? ⟨gb158, 0, none⟩ = some (.string (⟨#[]⟩ : ByteArray)) := (qe0 BK158.out 0).trans rfl; have hcz48_1 : w47.cell? ⟨gb158, 1, none⟩ = some (.string (⟨#[]⟩ : ByteArray)) := (qe0 BK158.out 1).trans rfl; have hcz48_2 : w47.cell? ⟨gb158, 2, none⟩ = some (.string (⟨#[]⟩ : ByteArray)) := (qe0 BK158.out 2).trans rfl; have hcz48_3 : w47.cell? ⟨gb158, 3, none⟩ = some (.int .i64 0) := (qe0 BK158.out 3).trans rfl; have hcz48_4 : w47.cell? ⟨gb158, 4, none⟩ = some (.int .i64 0) := (qe0 BK158.out 4).trans rfl; have hcz48_5 : w47.cell? ⟨gb158, 5, none⟩ = some (.int .i64 0) := (qe0 BK158.out 5).trans rfl; have hfz48_0 := qd0 BK158.out 0; have hfz48_1 := qd0 BK158.out 1; have hfz48_2 := qd0 BK158.out 2; have hfz48_3 := qd0 BK158.out 3; have hfz48_4 := qd0 BK158.out 4; have hfz48_5 := qd0 BK158.out 5) | ((with_reducible refine qo0 (f := 155) rfl ?_); refine qz0 (some 59) rfl rfl Try.func155 (by kernel_rfl) rfl #[.slice (some ad157) l0.length c0] rfl (by (try simp only [List.map_toArray, List.map_cons, List.map_nil]); first | done | rfl | (simp only [List.length_drop, List.length_take]; rfl)) ?_; (with_reducible refine (impl_copyStock.calls _ _ l0 t162 _ ?side1 ?side2 A27.out).mono ?_); (case side1 => exact Kd.qp1 HR0.out (by repeat (first | (with_reducible first | exact HB.out | apply qc0 | apply qa0 | apply qb0 | refine qg0 ?_ GE158.out) | exact HB.out))); (case side2 => exact HC0.out); rintro e w49 ⟨v163, rfl, ho0, hb⟩; refine ⟨_, rfl, ?_⟩; have n0_ := Aside0.mk (Kd.qb1 (Kd.R_newB ho0 (g := gb158) (o := .cells #[.string ((rd_T117 l0 a1).f0), .string ((rd_T117 l0 a1).f1), .string ((rd_T117 l0 a1).f2), .int .i64 ((rd_T117 l0 a1).f3), .int .i64 ((rd_T117 l0 a1).f4), .int .i64 ((rd_T117 l0 a1).f5)] 117 (0, 0)) (by (with_reducible repeat (first | refine qm0 ?_ _ | refine qp0 ?_ | refine qn0 ?_ _)); refine qx0 (cs := #[.string ((rd_T117 l0 a1).f0), .string ((rd_T117 l0 a1).f1), .string ((rd_T117 l0 a1).f2), .int .i64 ((rd_T117 l0 a1).f3), .int .i64 ((rd_T117 l0 a1).f4), .int .i64 0]) ?_ 5 _ rfl; (with_reducible repeat (first | refine qm0 ?_ _ | refine qp0 ?_ | refine qn0 ?_ _)); refine qx0 (cs := #[.string ((rd_T117 l0 a1).f0), .string ((rd_T117 l0 a1).f1), .string ((rd_T117 l0 a1).f2), .int .i64 ((rd_T117 l0 a1).f3), .int .i64 0, .int .i64 0]) ?_ 4 _ rfl; (with_reducible repeat (first | refine qm0 ?_ _ | refine qp0 ?_ | refine qn0 ?_ _)); refine qx0 (cs := #[.string ((rd_T117 l0 a1).f0), .string ((rd_T117 l0 a1).f1), .string ((rd_T117 l0 a1).f2), .int .i64 0, .int .i64 0, .int .i64 0]) ?_ 3 _ rfl; (with_reducible repeat (first | refine qm0 ?_ _ | refine qp0 ?_ | refine qn0 ?_ _)); refine qx0 (cs := #[.string ((rd_T117 l0 a1).f0), .string ((rd_T117 l0 a1).f1), .string (⟨#[]⟩ : ByteArray), .int .i64 0, .int .i64 0, .int .i64 0]) ?_ 2 _ rfl; (with_reducible repeat (first | refine qm0 ?_ _ | refine qp0 ?_ | refine qn0 ?_ _)); refine qx0 (cs := #[.string ((rd_T117 l0 a1).f0), .string (⟨#[]⟩ : ByteArray), .string (⟨#[]⟩ : ByteArray), .int .i64 0, .int .i64 0, .int .i64 0]) ?_ 1 _ rfl; (with_reducible repeat (first | refine qm0 ?_ _ | refine qp0 ?_ | refine qn0 ?_ _)); refine qx0 (cs := #[.string (⟨#[]⟩ : ByteArray), .string (⟨#[]⟩ : ByteArray), .string (⟨#[]⟩ : ByteArray), .int .i64 0, .int .i64 0, .int .i64 0]) ?_ 0 _ rfl; (with_reducible repeat (first | refine qm0 ?_ _ | refine qp0 ?_ | refine qn0 ?_ _)); exact BK158.out)) (ql0 (by repeat (first | (with_reducible first | exact HB.out | apply qc0 | apply qa0 | apply qb0 | refine qg0 ?_ GE158.out) | exact HB.out)))); have n1_ := Aside0.mk (ql1 (g := gb158) (o := .cells #[.string ((rd_T117 l0 a1).f0), .string ((rd_T117 l0 a1).f1), .string ((rd_T117 l0 a1).f2), .int .i64 ((rd_T117 l0 a1).f3), .int .i64 ((rd_T117 l0 a1).f4), .int .i64 ((rd_T117 l0 a1).f5)] 117 (0, 0)) (by (with_reducible repeat (first | refine qm0 ?_ _ | refine qp0 ?_ | refine qn0 ?_ _)); refine qx0 (cs := #[.string ((rd_T117 l0 a1).f0), .string ((rd_T117 l0 a1).f1), .string ((rd_T117 l0 a1).f2), .int .i64 ((rd_T117 l0 a1).f3), .int .i64 ((rd_T117 l0 a1).f4), .int .i64 0]) ?_ 5 _ rfl; (with_reducible repeat (first | refine qm0 ?_ _ | refine qp0 ?_ | refine qn0 ?_ _)); refine qx0 (cs := #[.string ((rd_T117 l0 a1).f0), .string ((rd_T117 l0 a1).f1), .string ((rd_T117 l0 a1).f2), .int .i64 ((rd_T117 l0 a1).f3), .int .i64 0, .int .i64 0]) ?_ 4 _ rfl; (with_reducible repeat (first | refine qm0 ?_ _ | refine qp0 ?_ | refine qn0 ?_ _)); refine qx0 (cs := #[.string ((rd_T117 l0 a1).f0), .string ((rd_T117 l0 a1).f1), .string ((rd_T117 l0 a1).f2), .int .i64 0, .int .i64 0, .int .i64 0]) ?_ 3 _ rfl; (with_reducible repeat (first | refine qm0 ?_ _ | refine qp0 ?_ | refine qn0 ?_ _)); refine qx0 (cs := #[.string ((rd_T117 l0 a1).f0), .string ((rd_T117 l0 a1).f1), .string (⟨#[]⟩ : ByteArray), .int .i64 0, .int .i64 0, .int .i64 0]) ?_ 2 _ rfl; (with_reducible repeat (first | refine qm0 ?_ _ | refine qp0 ?_ | refine qn0 ?_ _)); refine qx0 (cs := #[.string ((rd_T117 l0 a1).f0), .string (⟨#[]⟩ : ByteArray), .string (⟨#[]⟩ : ByteArray), .int .i64 0, .int .i64 0, .int .i64 0]) ?_ 1 _ rfl; (with_reducible repeat (first | refine qm0 ?_ _ | refine qp0 ?_ | refine qn0 ?_ _)); refine qx0 (cs := #[.string (⟨#[]⟩ : ByteArray), .string (⟨#[]⟩ : ByteArray), .string (⟨#[]⟩ : ByteArray), .int .i64 0, .int .i64 0, .int .i64 0]) ?_ 0 _ rfl; (with_reducible repeat (first | refine qm0 ?_ _ | refine qp0 ?_ | refine qn0 ?_ _)); exact BK158.out) hb); have n2_ := Aside0.mk (qk0 (by repeat (first | (with_reducible first | exact HB.out | apply qc0 | apply qa0 | apply qb0 | refine qg0 ?_ GE158.out) | exact HB.out)) hb); clear BK158; clear HB; have HO164 := n0_; have BK158 := n1_; have HB := n2_; clear n0_ n1_ n2_; (try clear hb); (try clear hb2); (try clear hk); (try clear hi); (try clear ho0); obtain ⟨Ao50, co50, eo50⟩ := Kd.qe1 HO164.out; subst eo50; have p165 : 0 ≤ (a1 : Int) := of_decide_eq_true (by first | (with_reducible assumption) | assumption); have q165 : a1 < (t162.length : Int) := of_decide_eq_true (by first | (with_reducible assumption) | assumption); obtain ⟨ad165, e165, hx165_0, hx165_1, hx165_2, hx165_3, hx165_4, hx165_5⟩ := at_T117 (Kd.qf0 HO164.out).2.2 a1 p165 q165; cases e165; replace p165 := eq_true p165; replace q165 := eq_true q165; have p29 : 0 ≤ (a1 : Int) := of_decide_eq_true (by first | (with_reducible assumption) | assumption); have q29 : (a1 : Int) < ((t162.length : Int) : Int) := of_decide_eq_true (by first | (with_reducible assumption) | assumption); obtain ⟨go29, co29, eo29, gb29, gl29, cl29, HG29⟩ := Kd.R_form HO164.out (by omega); (first | cases eo29 | (injection eo29 with ea_ en_ ec_; (first | subst ea_ | (injection ea_ with ea_; subst ea_)); subst ec_; clear en_)); have GB29 := Aside0.mk gb29; have GG29 := Aside0.mk HG29; clear gb29 gl29 HG29; (first | simp only [add_plain] at hx165_0 | skip); (first | simp only [add_plain] at hx165_1 | skip); (first | simp only [add_plain] at hx165_2 | skip); (first | simp only [add_plain] at hx165_3 | skip); (first | simp only [add_plain] at hx165_4 | skip); (first | simp only [add_plain] at hx165_5 | skip); obtain ⟨ce29, hcl29, hM29, hcc29, hfr29⟩ := Kd.qt1 HO164.out z117 (a1 : Int) p29 q29; obtain rfl := k117_openM hM29; have hx29_0 : w49.cell? ⟨go29, (a1 : Int).toNat * 6, none⟩ = some (.string ((rd_T117 t162 a1).f0)) := hcc29 0 _ rfl; have hx29_1 : w49.cell? ⟨go29, (a1 : Int).toNat * 6 + 1, none⟩ = some (.string ((rd_T117 t162 a1).f1)) := hcc29 1 _ rfl; have hx29_2 : w49.cell? ⟨go29, (a1 : Int).toNat * 6 + 2, none⟩ = some (.string ((rd_T117 t162 a1).f2)) := hcc29 2 _ rfl; have hx29_3 : w49.cell? ⟨go29, (a1 : Int).toNat * 6 + 3, none⟩ = some (.int .i64 ((rd_T117 t162 a1).f3)) := hcc29 3 _ rfl; have hx29_4 : w49.cell? ⟨go29, (a1 : Int).toNat * 6 + 4, none⟩ = some (.int .i64 ((rd_T117 t162 a1).f4)) := hcc29 4 _ rfl; have hx29_5 : w49.cell? ⟨go29, (a1 : Int).toNat * 6 + 5, none⟩ = some (.int .i64 ((rd_T117 t162 a1).f5)) := hcc29 5 _ rfl; have hf29_0 : w49.frozen? ⟨go29, (a1 : Int).toNat * 6, none⟩ = false := hfr29 0; have hf29_1 : w49.frozen? ⟨go29, (a1 : Int).toNat * 6 + 1, none⟩ = false := hfr29 1; have hf29_2 : w49.frozen? ⟨go29, (a1 : Int).toNat * 6 + 2, none⟩ = false := hfr29 2; have hf29_3 : w49.frozen? ⟨go29, (a1 : Int).toNat * 6 + 3, none⟩ = false := hfr29 3; have hf29_4 : w49.frozen? ⟨go29, (a1 : Int).toNat * 6 + 4, none⟩ = false := hfr29 4; have hf29_5 : w49.frozen? ⟨go29, (a1 : Int).toNat * 6 + 5, none⟩ = false := hfr29 5; clear hcl29 hcc29 hfr29 hM29; replace p29 := eq_true p29; replace q29 := eq_true q29; have n_ := Aside0.mk (Kd.qv0 (ok' := (fun k_ => k_ ≠ gb158)) HO164.out (fun k_ hk => hk.2)); clear HO164; have HO164 := n_; clear n_; have HX51 := Aside0.mk (show Kd.R k117 117 w49 w.heap.size (fun k_ => k_ ≠ gb158) (.slice (some ⟨go29, 0, none⟩) t162.length co50) t162 from (by (with_reducible repeat (first | apply Kd.qi0 | apply Kd.qh0 | apply Kd.qj0)); exact HO164.out)); obtain ⟨ce51, hcl51, hM51, hcc51, hfr51⟩ := Kd.qt1 HX51.out z117 (a1 : Int) (of_decide_eq_true (by first | (with_reducible assumption) | assumption)) (by have h_ : (a1 : Int) < ((t162.length : Int) : Int) := of_decide_eq_true (by first | (with_reducible assumption) | assumption); first | exact h_ | (have e_ := (Kd.qf0 HO164.out).1; omega) | simpa using h_); obtain rfl := k117_openM hM51; have HP51 := Kd.R_seg HX51.out (a1 : Int) (of_decide_eq_true (by first | (with_reducible assumption) | assumption)) (by have h_ : (a1 : Int) < ((t162.length : Int) : Int) := of_decide_eq_true (by first | (with_reducible assumption) | assumption); first | exact h_ | (have e_ := (Kd.qf0 HO164.out).1; omega) | simpa using h_) (seg := [.int .i64 (wrap64 (((rd_T117 t162 a1).f4) - a3))]) (j := 4) hcl51 hcc51 (show 5 ≤ 6 from by decide) (x' := (⟨(rd_T117 t162 a1).f0, (rd_T117 t162 a1).f1, (rd_T117 t162 a1).f2, (rd_T117 t162 a1).f3, wrap64 (((rd_T117 t162 a1).f4) - a3), (rd_T117 t162 a1).f5⟩ : S117)) (k117_mkM _ _ _ (⟨(rd_T117 t162 a1).f0, (rd_T117 t162 a1).f1, (rd_T117 t162 a1).f2, (rd_T117 t162 a1).f3, wrap64 (((rd_T117 t162 a1).f4) - a3), (rd_T117 t162 a1).f5⟩ : S117) ) (fun _ hk => hk); have hx51_4 := hcc51 4 _ rfl; (try simp only [show (k117).sz = 6 from rfl, Nat.mul_one, Nat.add_zero] at hx51_4); have hf51_4 := hfr51 4; (try simp only [show (k117).sz = 6 from rfl, Nat.mul_one, Nat.add_zero] at hf51_4); clear hcl51 hcc51 hfr51 hM51) | ((with_reducible refine gate_store (t := 3) (p := 68) rfl ?_); refine store_event (t := 3) (p := 68) (v := ?vo_w52) (w1 := (w49.setCell ⟨go29, (a1 : Int).toNat * 6 + 4, none⟩ (.int .i64 (wrap64 (((rd_T117 t162 a1).f4) - a3))))) ?hg ?ho ?hn ?hr ?_; (case ho => rfl); (case hg => rfl); (case hn => rfl); (case hr => first | (go_simp; done) | (go_simp; rfl)); intro w52 hw; have hg : w49.grownBy w52 (some go29) := (by rw [hw]; exact HP51.2); have hp_ : Kd.R k117 117 w52 w.heap.size (fun k_ => k_ ≠ gb158) (.slice (some ⟨go29, 0, none⟩) t162.length co50) y166 := (by rw [hw, Ny166.out]; exact HP51.1); clear HP51; have n0_ := Aside0.mk (blk_grown (g := gb158) (o := .cells #[.string ((rd_T117 l0 a1).f0), .string ((rd_T117 l0 a1).f1), .string ((rd_T117 l0 a1).f2), .int .i64 ((rd_T117 l0 a1).f3), .int .i64 ((rd_T117 l0 a1).f4), .int .i64 ((rd_T117 l0 a1).f5)] 117 (0, 0)) (by (with_reducible repeat (first | refine qm0 ?_ _ | refine qp0 ?_ | refine qn0 ?_ _)); exact BK158.out) hg (Kd.R_away HO164.out (fun _ hk => hk))); have n1_ := Aside0.mk (hp_); have n2_ := Aside0.mk ((by rw [hw]; exact qg0 (HB.out) GB29.out : Below w.heap.size w w52)); clear BK158; clear HO164; clear HB; have BK158 := n0_; have HO164 := n1_; have HB := n2_; clear n0_ n1_ n2_; clear hg hw hp_; have hcz53_0 : w52.cell? ⟨gb158, 0, none⟩ = some (.string ((rd_T117 l0 a1).f0)) := (qe0 BK158.out 0).trans rfl; have hcz53_1 : w52.cell? ⟨gb158, 1, none⟩ = some (.string ((rd_T117 l0 a1).f1)) := (qe0 BK158.out 1).trans rfl; have hcz53_2 : w52.cell? ⟨gb158, 2, none⟩ = some (.string ((rd_T117 l0 a1).f2)) := (qe0 BK158.out 2).trans rfl; have hcz53_3 : w52.cell? ⟨gb158, 3, none⟩ = some (.int .i64 ((rd_T117 l0 a1).f3)) := (qe0 BK158.out 3).trans rfl; have hcz53_4 : w52.cell? ⟨gb158, 4, none⟩ = some (.int .i64 ((rd_T117 l0 a1).f4)) := (qe0 BK158.out 4).trans rfl; have hcz53_5 : w52.cell? ⟨gb158, 5, none⟩ = some (.int .i64 ((rd_T117 l0 a1).f5)) := (qe0 BK158.out 5).trans rfl; have hfz53_0 := qd0 BK158.out 0; have hfz53_1 := qd0 BK158.out 1; have hfz53_2 := qd0 BK158.out 2; have hfz53_3 := qd0 BK158.out 3; have hfz53_4 := qd0 BK158.out 4; have hfz53_5 := qd0 BK158.out 5) | ((with_reducible refine gate_store (t := 9) (p := 71) rfl ?_); refine store_event (t := 9) (p := 71) (v := ?vo_w54) (w1 := (w52.setCell ⟨gb158, 1, none⟩ (.string a2))) ?hg ?ho ?hn ?hr ?_; (case ho => rfl); (case hg => rfl); (case hn => rfl); (case hr => first | (go_simp; done) | (go_simp; rfl)); intro w54 hw; have n0_ : Aside0 (Kd.R k117 117 w54 w.heap.size (fun k_ => k_ ≠ gb158) (.slice (some ⟨go29, 0, none⟩) t162.length co50) y166) := ⟨(by rw [hw]; exact (by (with_reducible repeat (first | apply Kd.qi0 | apply Kd.qh0 | apply Kd.qj0)); exact Kd.qv0 (Kd.R_far (p := ⟨gb158, 1, none⟩) (Kd.qv0 HO164.out (fun k_ hk => (⟨hk, hk⟩ : _ ∧ k_ ≠ gb158))) (fun _ hk => hk.2) (.string a2)) (fun _ hk => hk.1)))⟩; have n1_ : Aside0 (w54.heap[gb158]? = some (.cells #[.string ((rd_T117 l0 a1).f0), .string a2, .string ((rd_T117 l0 a1).f2), .int .i64 ((rd_T117 l0 a1).f3), .int .i64 ((rd_T117 l0 a1).f4), .int .i64 ((rd_T117 l0 a1).f5)] 117 (0, 0))) := ⟨(by rw [hw]; exact (by (with_reducible repeat (first | refine qm0 ?_ _ | refine qp0 ?_ | refine qn0 ?_ _)); refine qx0 (cs := #[.string ((rd_T117 l0 a1).f0), .string ((rd_T117 l0 a1).f1), .string ((rd_T117 l0 a1).f2), .int .i64 ((rd_T117 l0 a1).f3), .int .i64 ((rd_T117 l0 a1).f4), .int .i64 ((rd_T117 l0 a1).f5)]) ?_ 1 _ rfl; (with_reducible repeat (first | refine qm0 ?_ _ | refine qp0 ?_ | refine qn0 ?_ _)); exact BK158.out))⟩; have n2_ : Aside0 (Below w.heap.size w w54) := ⟨(by rw [hw]; exact (by repeat (first | (with_reducible first | exact HB.out | apply qc0 | apply qa0 | apply qb0 | refine qg0 ?_ GE158.out) | exact HB.out)))⟩; clear hw; clear HO164; clear BK158; clear HB; have HO164 := n0_; have BK158 := n1_; have HB := n2_; clear n0_ n1_ n2_; have hcz55_0 : w54.cell? ⟨gb158, 0, none⟩ = some (.string ((rd_T117 l0 a1).f0)) := (qe0 BK158.out 0).trans rfl; have hcz55_1 : w54.cell? ⟨gb158, 1, none⟩ = some (.string a2) := (qe0 BK158.out 1).trans rfl; have hcz55_2 : w54.cell? ⟨gb158, 2, none⟩ = some (.string ((rd_T117 l0 a1).f2)) := (qe0 BK158.out 2).trans rfl; have hcz55_3 : w54.cell? ⟨gb158, 3, none⟩ = some (.int .i64 ((rd_T117 l0 a1).f3)) := (qe0 BK158.out 3).trans rfl; have hcz55_4 : w54.cell? ⟨gb158, 4, none⟩ = some (.int .i64 ((rd_T117 l0 a1).f4)) := (qe0 BK158.out 4).trans rfl; have hcz55_5 : w54.cell? ⟨gb158, 5, none⟩ = some (.int .i64 ((rd_T117 l0 a1).f5)) := (qe0 BK158.out 5).trans rfl; have hfz55_0 := qd0 BK158.out 0; have hfz55_1 := qd0 BK158.out 1; have hfz55_2 := qd0 BK158.out 2; have hfz55_3 := qd0 BK158.out 3; have hfz55_4 := qd0 BK158.out 4; have hfz55_5 := qd0 BK158.out 5) | ((with_reducible refine gate_store (t := 3) (p := 72) rfl ?_); refine store_event (t := 3) (p := 72) (v := ?vo_w56) (w1 := (w54.setCell ⟨gb158, 4, none⟩ (.int .i64 a3))) ?hg ?ho ?hn ?hr ?_; (case ho => rfl); (case hg => rfl); (case hn => rfl); (case hr => first | (go_simp; done) | (go_simp; rfl)); intro w56 hw; have n0_ : Aside0 (Kd.R k117 117 w56 w.heap.size (fun k_ => k_ ≠ gb158) (.slice (some ⟨go29, 0, none⟩) t162.length co50) y166) := ⟨(by rw [hw]; exact (by (with_reducible repeat (first | apply Kd.qi0 | apply Kd.qh0 | apply Kd.qj0)); exact Kd.qv0 (Kd.R_far (p := ⟨gb158, 4, none⟩) (Kd.qv0 HO164.out (fun k_ hk => (⟨hk, hk⟩ : _ ∧ k_ ≠ gb158))) (fun _ hk => hk.2) (.int .i64 a3)) (fun _ hk => hk.1)))⟩; have n1_ : Aside0 (w56.heap[gb158]? = some (.cells #[.string ((rd_T117 l0 a1).f0), .string a2, .string ((rd_T117 l0 a1).f2), .int .i64 ((rd_T117 l0 a1).f3), .int .i64 a3, .int .i64 ((rd_T117 l0 a1).f5)] 117 (0, 0))) := ⟨(by rw [hw]; exact (by (with_reducible repeat (first | refine qm0 ?_ _ | refine qp0 ?_ | refine qn0 ?_ _)); refine qx0 (cs := #[.string ((rd_T117 l0 a1).f0), .string a2, .string ((rd_T117 l0 a1).f2), .int .i64 ((rd_T117 l0 a1).f3), .int .i64 ((rd_T117 l0 a1).f4), .int .i64 ((rd_T117 l0 a1).f5)]) ?_ 4 _ rfl; (with_reducible repeat (first | refine qm0 ?_ _ | refine qp0 ?_ | refine qn0 ?_ _)); exact BK158.out))⟩; have n2_ : Aside0 (Below w.heap.size w w56) := ⟨(by rw [hw]; exact (by repeat (first | (with_reducible first | exact HB.out | apply qc0 | apply qa0 | apply qb0 | refine qg0 ?_ GE158.out) | exact HB.out)))⟩; clear hw; clear HO164; clear BK158; clear HB; have HO164 := n0_; have BK158 := n1_; have HB := n2_; clear n0_ n1_ n2_; have hcz57_0 : w56.cell? ⟨gb158, 0, none⟩ = some (.string ((rd_T117 l0 a1).f0)) := (qe0 BK158.out 0).trans rfl; have hcz57_1 : w56.cell? ⟨gb158, 1, none⟩ = some (.string a2) := (qe0 BK158.out 1).trans rfl; have hcz57_2 : w56.cell? ⟨gb158, 2, none⟩ = some (.string ((rd_T117 l0 a1).f2)) := (qe0 BK158.out 2).trans rfl; have hcz57_3 : w56.cell? ⟨gb158, 3, none⟩ = some (.int .i64 ((rd_T117 l0 a1).f3)) := (qe0 BK158.out 3).trans rfl; have hcz57_4 : w56.cell? ⟨gb158, 4, none⟩ = some (.int .i64 a3) := (qe0 BK158.out 4).trans rfl; have hcz57_5 : w56.cell? ⟨gb158, 5, none⟩ = some (.int .i64 ((rd_T117 l0 a1).f5)) := (qe0 BK158.out 5).trans rfl; have hfz57_0 := qd0 BK158.out 0; have hfz57_1 := qd0 BK158.out 1; have hfz57_2 := qd0 BK158.out 2; have hfz57_3 := qd0 BK158.out 3; have hfz57_4 := qd0 BK158.out 4; have hfz57_5 := qd0 BK158.out 5) | ((with_reducible refine gate_store (t := 3) (p := 73) rfl ?_); refine store_event (t := 3) (p := 73) (v := ?vo_w58) (w1 := (w56.setCell ⟨gb158, 5, none⟩ (.int .i64 0))) ?hg ?ho ?hn ?hr ?_; (case ho => rfl); (case hg => rfl); (case hn => rfl); (case hr => first | (go_simp; done) | (go_simp; rfl)); intro w58 hw; have n0_ : Aside0 (Kd.R k117 117 w58 w.heap.size (fun k_ => k_ ≠ gb158) (.slice (some ⟨go29, 0, none⟩) t162.length co50) y166) := ⟨(by rw [hw]; exact (by (with_reducible repeat (first | apply Kd.qi0 | apply Kd.qh0 | apply Kd.qj0)); exact Kd.qv0 (Kd.R_far (p := ⟨gb158, 5, none⟩) (Kd.qv0 HO164.out (fun k_ hk => (⟨hk, hk⟩ : _ ∧ k_ ≠ gb158))) (fun _ hk => hk.2) (.int .i64 0)) (fun _ hk => hk.1)))⟩; have n1_ : Aside0 (w58.heap[gb158]? = some (.cells #[.string ((rd_T117 l0 a1).f0), .string a2, .string ((rd_T117 l0 a1).f2), .int .i64 ((rd_T117 l0 a1).f3), .int .i64 a3, .int .i64 0] 117 (0, 0))) := ⟨(by rw [hw]; exact (by (with_reducible repeat (first | refine qm0 ?_ _ | refine qp0 ?_ | refine qn0 ?_ _)); refine qx0 (cs := #[.string ((rd_T117 l0 a1).f0), .string a2, .string ((rd_T117 l0 a1).f2), .int .i64 ((rd_T117 l0 a1).f3), .int .i64 a3, .int .i64 ((rd_T117 l0 a1).f5)]) ?_ 5 _ rfl; (with_reducible repeat (first | refine qm0 ?_ _ | refine qp0 ?_ | refine qn0 ?_ _)); exact BK158.out))⟩; have n2_ : Aside0 (Below w.heap.size w w58) := ⟨(by rw [hw]; exact (by repeat (first | (with_reducible first | exact HB.out | apply qc0 | apply qa0 | apply qb0 | refine qg0 ?_ GE158.out) | exact HB.out)))⟩; clear hw; clear HO164; clear BK158; clear HB; have HO164 := n0_; have BK158 := n1_; have HB := n2_; clear n0_ n1_ n2_; have hcz59_0 : w58.cell? ⟨gb158, 0, none⟩ = some (.string ((rd_T117 l0 a1).f0)) := (qe0 BK158.out 0).trans rfl; have hcz59_1 : w58.cell? ⟨gb158, 1, none⟩ = some (.string a2) := (qe0 BK158.out 1).trans rfl; have hcz59_2 : w58.cell? ⟨gb158, 2, none⟩ = some (.string ((rd_T117 l0 a1).f2)) := (qe0 BK158.out 2).trans rfl; have hcz59_3 : w58.cell? ⟨gb158, 3, none⟩ = some (.int .i64 ((rd_T117 l0 a1).f3)) := (qe0 BK158.out 3).trans rfl; have hcz59_4 : w58.cell? ⟨gb158, 4, none⟩ = some (.int .i64 a3) := (qe0 BK158.out 4).trans rfl; have hcz59_5 : w58.cell? ⟨gb158, 5, none⟩ = some (.int .i64 0) := (qe0 BK158.out 5).trans rfl; have hfz59_0 := qd0 BK158.out 0; have hfz59_1 := qd0 BK158.out 1; have hfz59_2 := qd0 BK158.out 2; have hfz59_3 := qd0 BK158.out 3; have hfz59_4 := qd0 BK158.out 4; have hfz59_5 := qd0 BK158.out 5) | ((with_reducible refine qo0 (f := 156) rfl ?_); refine qz0 (some 77) rfl rfl Try.func156 (by kernel_rfl) rfl #[.slice (some ⟨go29, 0, none⟩) t162.length co50, .agg #[.string ((rd_T117 l0 a1).f0), .string a2, .string ((rd_T117 l0 a1).f2), .int .i64 ((rd_T117 l0 a1).f3), .int .i64 a3, .int .i64 0]] rfl (by (try simp only [List.map_toArray, List.map_cons, List.map_nil]); first | done | rfl | (simp only [List.length_drop, List.length_take]; rfl)) ?_; (with_reducible refine (impl_bring.calls kj6 (fun k_ => some k_ = (.slice (some ⟨go29, 0, none⟩) t162.length co50 : Value).ownBlock) (.slice (some ⟨go29, 0, none⟩) t162.length co50) y166 ((rd_T117 l0 a1).f0) a2 ((rd_T117 l0 a1).f2) ((rd_T117 l0 a1).f3) a3 0 t167 false w _ ?side1 ?side2 A30.out).mono ?_); (case side1 => repeat (first | (with_reducible first | exact HB.out | apply qc0 | apply qa0 | apply qb0 | refine qg0 ?_ GE158.out) | exact HB.out)); (case side2 => exact Kd.R_tight rfl HO164.out); rintro e w60 ⟨v168, rfl, ho0, hb, hkp⟩; refine ⟨_, rfl, ?_⟩; have n0_ := Aside0.mk (blk_kept (by (with_reducible repeat (first | refine qm0 ?_ _ | refine qp0 ?_ | refine qn0 ?_ _)); exact BK158.out) hkp (fun hs_ => (fun e_ => (Kd.R_away HO164.out (fun _ hk => hk)) e_) hs_)); have n1_ := Aside0.mk (Kd.qv0 (ok' := fun k_ => k_ ≠ gb158) ho0 (fun k_ hk_ => Or.elim hk_ (fun hs_ => fun e_ => (Kd.R_away HO164.out (fun _ hk => hk)) (by rw [← e_]; exact hs_)) (fun hn_ => (Kd.freshB (g := gb158) (o := .cells #[.string ((rd_T117 l0 a1).f0), .string a2, .string ((rd_T117 l0 a1).f2), .int .i64 ((rd_T117 l0 a1).f3), .int .i64 a3, .int .i64 0] 117 (0, 0)) (by (with_reducible repeat (first | refine qm0 ?_ _ | refine qp0 ?_ | refine qn0 ?_ _)); exact BK158.out) k_ hn_)))); have n2_ := Aside0.mk (hb); clear BK158; clear HB; clear HO164; have BK158 := n0_; have HO169 := n1_; have HB := n2_; clear n0_ n1_ n2_; (try clear hb); (try clear hkp); (try clear ho0)) | ((with_reducible refine qo0 (f := 155) rfl ?_); refine qz0 (some 83) rfl rfl Try.func155 (by kernel_rfl) rfl #[.slice (some ad157) l0.length c0] rfl (by (try simp only [List.map_toArray, List.map_cons, List.map_nil]); first | done | rfl | (simp only [List.length_drop, List.length_take]; rfl)) ?_; (with_reducible refine (impl_copyStock.calls _ _ l0 t171 _ ?side1 ?side2 A46.out).mono ?_); (case side1 => repeat (first | exact (Kd.qp1 HR0.out HB.out) | (with_reducible refine Kd.qu0 ?_ _) | (with_reducible refine Kd.qt0 ?_ _) | (with_reducible refine Kd.qy0 ?_))); (case side2 => exact HC0.out); rintro e w61 ⟨v172, rfl, ho0, hb⟩; refine ⟨_, rfl, ?_⟩; have n0_ := Aside0.mk (Kd.qd1 (by (with_reducible repeat (first | apply Kd.qi0 | apply Kd.qh0 | apply Kd.qj0)); exact HO169.out) (Kd.qj1 ho0) hb); have n1_ := Aside0.mk (Kd.qb1 (Kd.R_newB (Kd.qi1 ho0 (Kd.R_lt (by (with_reducible repeat (first | apply Kd.qi0 | apply Kd.qh0 | apply Kd.qj0)); exact HO169.out))) (g := gb158) (o := .cells #[.string ((rd_T117 l0 a1).f0), .string a2, .string ((rd_T117 l0 a1).f2), .int .i64 ((rd_T117 l0 a1).f3), .int .i64 a3, .int .i64 0] 117 (0, 0)) (by (with_reducible repeat (first | refine qm0 ?_ _ | refine qp0 ?_ | refine qn0 ?_ _)); exact BK158.out)) (ql0 (by repeat (first | (with_reducible first | exact HB.out | apply qc0 | apply qa0 | apply qb0 | refine qg0 ?_ GE158.out) | exact HB.out)))); have n2_ := Aside0.mk (ql1 (g := gb158) (o := .cells #[.string ((rd_T117 l0 a1).f0), .string a2, .string ((rd_T117 l0 a1).f2), .int .i64 ((rd_T117 l0 a1).f3), .int .i64 a3, .int .i64 0] 117 (0, 0)) (by (with_reducible repeat (first | refine qm0 ?_ _ | refine qp0 ?_ | refine qn0 ?_ _)); exact BK158.out) hb); have n3_ := Aside0.mk (qk0 (by repeat (first | (with_reducible first | exact HB.out | apply qc0 | apply qa0 | apply qb0 | refine qg0 ?_ GE158.out) | exact HB.out)) hb); clear HO169; clear BK158; clear HB; have HO169 := n0_; have HO173 := n1_; have BK158 := n2_; have HB := n3_; clear n0_ n1_ n2_ n3_; (try clear hb); (try clear hb2); (try clear hk); (try clear hi); (try clear ho0)))
    go_ret2
    exact ⟨_, by first | rfl | (simp [errW_none, errW_some] <;> rfl) | (simp [*, errW_none, errW_some] <;> rfl), by (with_reducible repeat (first | apply Kd.qi0 | apply Kd.qh0 | apply Kd.qj0)); exact Kd.qv0 HO173.out (fun _ hk => trivial), by repeat (first | (with_reducible first | exact HB.out | apply qc0 | apply qa0 | apply qb0 | refine qg0 ?_ GE158.out) | exact HB.out)⟩
 replace c6 := Bool.eq_false_iff.mpr c6
 subst c6
 have H1 : (some (([] : List (S117)), 1)) = some (r1, r2) := by rw [if_neg (show ¬ (false = true) by decide)] at H; exact H
 clear H
 have H := H1
 clear H1
 simp only [Option.some.injEq, Prod.mk.injEq] at H
 obtain ⟨rfl, rfl⟩ := H
 go_enter Try.func71, Try.ntmps71
 go_wp2_with (first | ((with_reducible refine qo0 (f := 74) rfl ?_); refine qz0 (some 14) rfl rfl Try.func74 (by kernel_rfl) rfl #[.slice A0 l0.length c0] rfl (by (try simp only [List.map_toArray, List.map_cons, List.map_nil]); first | done | rfl | (simp only [List.length_drop, List.length_take]; rfl)) ?_; (with_reducible refine (impl_StockOk.calls k _ _ l0 false _ ?side1 ?side2 A5.out).mono ?_); (case side1 => repeat (first | exact HR0.out | (with_reducible refine Kd.qu0 ?_ _) | (with_reducible refine Kd.qt0 ?_ _) | (with_reducible refine Kd.qy0 ?_))); (case side2 => exact HC0.out); rintro e w62 ⟨rfl, hb⟩; refine ⟨_, rfl, ?_⟩; have n0_ := Aside0.mk (qk0 (by repeat (first | (with_reducible first | exact HB.out | apply qc0 | apply qa0 | apply qb0) | exact HB.out)) hb); clear HB; have HB := n0_; clear n0_; (try clear hb); (try clear hb2); (try clear hk); (try clear hi)))
 go_ret2
 exact ⟨_, by first | rfl | (simp [errW_none, errW_some] <;> rfl) | (simp [*, errW_none, errW_some] <;> rfl), by first | exact Kd.R_nil _ _ _ _ _ | exact Kd.N_nil _ _ _ _ _ | exact Kd.V_nil _ _ _ _ _ | exact Kd.Q_nil _ _ _ _ _ | exact Kd.S_nil _ _ _ _ _, by repeat (first | (with_reducible first | exact HB.out | apply qc0 | apply qa0 | apply qb0) | exact HB.out)⟩

/-- A state of type 236 at block g of W; what its slices lead to came in by w0. -/
def IsS236 (w0 W : World) (g : Nat) (f0 : List Int) (f1 : Int) (f2 : Int) : Prop := ∃ A0 c0, W.heap[g]? = some (.cells #[.slice A0 f0.length c0, .int .i64 f1, .int .i64 f2] 236 (0, 0)) ∧ w0.heap.size ≤ g ∧ Kd.C (Kd.int .u8) w0 A0 f0.length f0
theorem IsS236.grown {w0 W : World} {g : Nat} {f0 : List Int} {f1 : Int} {f2 : Int} {W1 : World} {row : Option Nat} (h : IsS236 w0 W g f0 f1 f2) (hw : W.grownBy W1 row) (hne : some g ≠ row) : IsS236 w0 W1 g f0 f1 f2 := by
 obtain ⟨A0, c0, hb, hg, hr0⟩ := h
 exact ⟨A0, c0, blk_grown hb hw hne, hg, hr0⟩
theorem IsS236.kept {w0 W : World} {g : Nat} {f0 : List Int} {f1 : Int} {f2 : Int} {W1 : World} {S : Nat → Prop} (h : IsS236 w0 W g f0 f1 f2) (hk : Kept W W1 S) (hne : ¬ S g) : IsS236 w0 W1 g f0 f1 f2 := by
 obtain ⟨A0, c0, hb, hg, hr0⟩ := h
 exact ⟨A0, c0, blk_kept hb hk hne, hg, hr0⟩
theorem IsS236.below {w0 W : World} {g : Nat} {f0 : List Int} {f1 : Int} {f2 : Int} {W1 : World} (h : IsS236 w0 W g f0 f1 f2) (hw : Below W.heap.size W W1) : IsS236 w0 W1 g f0 f1 f2 := h.grown (grown_of_below hw none) (by simp)
theorem IsS236.alloc {w0 W : World} {g : Nat} {f0 : List Int} {f1 : Int} {f2 : Int} (h : IsS236 w0 W g f0 f1 f2) (o : Obj) : IsS236 w0 (W.alloc o) g f0 f1 f2 := h.below (qc0 (Below.refl _ _) o)
theorem IsS236.drewN {w0 W : World} {g : Nat} {f0 : List Int} {f1 : Int} {f2 : Int} (h : IsS236 w0 W g f0 f1 f2) (m : Nat) : IsS236 w0 (W.drewN m) g f0 f1 f2 := h
theorem IsS236.drew {w0 W : World} {g : Nat} {f0 : List Int} {f1 : Int} {f2 : Int} (h : IsS236 w0 W g f0 f1 f2) : IsS236 w0 W.drew g f0 f1 f2 := h
theorem IsS236.at_ {w0 W : World} {g : Nat} {f0 : List Int} {f1 : Int} {f2 : Int} {w' : World} {m : Nat} (hq : W.drewN m = w') (h : IsS236 w0 W g f0 f1 f2) : IsS236 w0 w' g f0 f1 f2 := by subst hq; exact IsS236.drewN h m
theorem IsS236.apart {w0 W : World} {g : Nat} {f0 : List Int} {f1 : Int} {f2 : Int} {α : Type} {d : Kd α} {e : Nat} {base : Nat} {ok : Nat → Prop} {v : Value} {xs : List α} (h : IsS236 w0 W g f0 f1 f2) (ho : d.R e W base ok v xs) (ht : ∀ q, q ∈ e :: d.E → q ≠ 236) : d.R e W base (fun k => ok k ∧ k ≠ g) v xs := by
 obtain ⟨A0, c0, hb, hg, hr0⟩ := h
 exact Kd.R_types ho hb ht
theorem IsS236.own_ne {w0 W : World} {g : Nat} {f0 : List Int} {f1 : Int} {f2 : Int} {α : Type} {d : Kd α} {e : Nat} {base : Nat} {ok : Nat → Prop} {v : Value} {xs : List α} (h : IsS236 w0 W g f0 f1 f2) (ho : d.R e W base ok v xs) (ht : e ≠ 236) : some g ≠ v.ownBlock := by
 obtain ⟨A0, c0, hb, hg, hr0⟩ := h
 exact Kd.R_ne ho hb ht
theorem IsS236.lt {w0 W : World} {g : Nat} {f0 : List Int} {f1 : Int} {f2 : Int} (h : IsS236 w0 W g f0 f1 f2) : g < W.heap.size := by
 obtain ⟨A0, c0, hb, hg, hr0⟩ := h
 exact blk_lt hb
theorem IsS236.ge {w0 W : World} {g : Nat} {f0 : List Int} {f1 : Int} {f2 : Int} (h : IsS236 w0 W g f0 f1 f2) : w0.heap.size ≤ g := by
 obtain ⟨A0, c0, hb, hg, hr0⟩ := h
 exact hg
theorem IsS236.far {w0 W : World} {g : Nat} {f0 : List Int} {f1 : Int} {f2 : Int} {p : Addr} (h : IsS236 w0 W g f0 f1 f2) (hne : g ≠ p.block) (u : Value) : IsS236 w0 (W.setCell p u) g f0 f1 f2 := by
 obtain ⟨A0, c0, hb, hg, hr0⟩ := h
 exact ⟨A0, c0, blk_far hb hne u, hg, hr0⟩
theorem cellS236_0 {W : World} {g : Nat} {A0 : Option Addr} {c0 : Nat} {f0 : List Int} {f1 : Int} {f2 : Int} (h : W.heap[g]? = some (.cells #[.slice A0 f0.length c0, .int .i64 f1, .int .i64 f2] 236 (0, 0))) : W.cell? ⟨g, 0, none⟩ = some (.slice A0 f0.length c0) := (qe0 h 0).trans rfl
theorem cellS236_1 {W : World} {g : Nat} {A0 : Option Addr} {c0 : Nat} {f0 : List Int} {f1 : Int} {f2 : Int} (h : W.heap[g]? = some (.cells #[.slice A0 f0.length c0, .int .i64 f1, .int .i64 f2] 236 (0, 0))) : W.cell? ⟨g, 1, none⟩ = some (.int .i64 f1) := (qe0 h 1).trans rfl
theorem IsS236.set_1 {w0 W : World} {g : Nat} {f0 : List Int} {f1 : Int} {f2 : Int} (h : IsS236 w0 W g f0 f1 f2) (x : Int) : IsS236 w0 (W.setCell ⟨g, 1, none⟩ (.int .i64 x)) g f0 x f2 := by
 obtain ⟨A0, c0, hb, hg, hr0⟩ := h
 exact ⟨A0, c0, by simpa using blk_set hb 1 (.int .i64 x), hg, hr0⟩
theorem cellS236_2 {W : World} {g : Nat} {A0 : Option Addr} {c0 : Nat} {f0 : List Int} {f1 : Int} {f2 : Int} (h : W.heap[g]? = some (.cells #[.slice A0 f0.length c0, .int .i64 f1, .int .i64 f2] 236 (0, 0))) : W.cell? ⟨g, 2, none⟩ = some (.int .i64 f2) := (qe0 h 2).trans rfl
theorem IsS236.set_2 {w0 W : World} {g : Nat} {f0 : List Int} {f1 : Int} {f2 : Int} (h : IsS236 w0 W g f0 f1 f2) (x : Int) : IsS236 w0 (W.setCell ⟨g, 2, none⟩ (.int .i64 x)) g f0 f1 x := by
 obtain ⟨A0, c0, hb, hg, hr0⟩ := h
 exact ⟨A0, c0, by simpa using blk_set hb 2 (.int .i64 x), hg, hr0⟩
/-! ### spec_l1New: function 83 -/
def spec_l1New.l0 : Nat → List Int → Int → Int → Option (List Int × Int × Int)
 | 0, _, _, _ => none
 | k + 1, x0, x3, x4 => if x4 < (x0.length : Int) then (if x4 < 4000 then (if 0 ≤ x4 then (spec_l1New.l0 k x0 (Go.bits .and .i64 (wrap64 ((wrap64 ((wrap64 (x3 * 131)) + (wrap64 (rd x0 x4)))) + 7)) 1073741823) (wrap64 (x4 + 1))) else (none)) else (some (x0, 0, x3))) else (some (x0, 0, x3))
def spec_l1New.f (k : Nat) (l0 : List Int) : Option (List Int × Int × Int) := spec_l1New.l0 k l0 (wrap64 (71933 + (l0.length : Int))) 0
theorem spec_l1New.mono_l : ∀ k, (∀ y0 y1 y2, LeO (spec_l1New.l0 k y0 y1 y2) (spec_l1New.l0 (k + 1) y0 y1 y2))
 | 0 => fun _ _ _ r h => by simp [spec_l1New.l0] at h
 | k + 1 => by
  have ih0 := spec_l1New.mono_l k
  ·intro y0 y1 y2
   unfold spec_l1New.l0
   repeat' first
   | (with_reducible exact ih0 _ _ _)
   | (with_reducible exact LeO.refl _)
   | (with_reducible exact LeO.none _)
   | (with_reducible refine LeO.ite ?_ ?_)
   | (with_reducible refine LeO.bind ?_ (fun _ => ?_))
   | exact ih0 _ _ _
   | exact LeO.none _
   | refine LeO.ite ?_ ?_
   | refine LeO.bind ?_ (fun _ => ?_)
theorem spec_l1New.mono : ∀ a0 k, LeO (spec_l1New.f k a0) (spec_l1New.f (k + 1) a0) := by
 intro a0 k
 have ih0 := spec_l1New.mono_l k
 unfold spec_l1New.f
 repeat' first
   | (with_reducible exact ih0 _ _ _)
   | (with_reducible exact LeO.refl _)
   | (with_reducible exact LeO.none _)
   | (with_reducible refine LeO.ite ?_ ?_)
   | (with_reducible refine LeO.bind ?_ (fun _ => ?_))
   | exact ih0 _ _ _
   | exact LeO.none _
   | refine LeO.ite ?_ ?_
   | refine LeO.bind ?_ (fun _ => ?_)
set_option maxHeartbeats 8000000 in
set_option maxRecDepth 100000 in
theorem spec_l1New.calls (k : Nat) (A0 : Option Addr) (c0 : Nat) (l0 : List Int) (r1 : List Int) (r2 : Int) (r3 : Int) (w0 w : World) (hB : Below w0.heap.size w0 w) (hr0 : Kd.C (Kd.int .u8) w0 A0 l0.length l0) (hc0 : l0.length ≤ c0) (h : spec_l1New.f k l0 = some (r1, r2, r3)) :
  Calls Try.prog 83 #[.slice A0 l0.length c0] w fun e w' => ∃ g_ : Nat, e = .returned (.pointer (some ⟨g_, 0, none⟩)) ∧ IsS236 w0 w' g_ r1 r2 r3 ∧ Below w0.heap.size w0 w' ∧ Below w.heap.size w w' := by
 have hu236 := Try.underlying236
 have HR0 := Aside0.mk hr0
 have HC0 := Aside0.mk hc0
 clear hr0 hc0
 have HBW := Aside0.mk (Below.refl w.heap.size w)
 have HW0 := Aside0.mk hB.size
 have HB := Aside0.mk hB
 clear hB
 have H : (spec_l1New.l0 k l0 (wrap64 (71933 + (l0.length : Int))) 0) = some (r1, r2, r3) := h
 clear h
 have H' := Aside0.mk H
 clear H
 go_enter Try.func83, Try.ntmps83
 go_wp2
 go_loopg [3, 4] k (fun kq v3 v4 w' => ∃ (x3_1 : Int) (x4_1 : Int), v3 = .int .i64 x3_1 ∧ v4 = .int .i64 x4_1 ∧ Aside0 (spec_l1New.l0 kq l0 x3_1 x4_1 = some (r1, r2, r3)) ∧ Aside0 (kq ≤ k) ∧ Aside0 (Below w.heap.size w w') ∧ Aside0 (Below w0.heap.size w0 w'))
 case atStart => exact ⟨(wrap64 (71933 + (l0.length : Int))), (0), (by first | rfl | (simp; done) | (simp [*]; done)), (by first | rfl | (simp; done) | (simp [*]; done)), H', ⟨Nat.le_refl _⟩, ⟨by repeat (first | (with_reducible first | exact HBW.out | apply qc0 | apply qa0 | apply qb0) | exact HBW.out)⟩, ⟨by repeat (first | (with_reducible first | exact HB.out | apply qc0 | apply qa0 | apply qb0) | exact HB.out)⟩⟩
 case round =>
  clear H'
  obtain ⟨x3_1, x4_1, rfl, rfl, HA, HK1, HBW, HB⟩ := hrel
  cases gk with
  | zero => exact absurd HA.out (by simp [spec_l1New.l0])
  | succ k1 =>
   have H := HA.out
   clear HA
   simp only [spec_l1New.l0] at H
   by_cases c2 : x4_1 < (l0.length : Int)
   ·rw [if_pos c2] at H
    have c2b0 : decide (x4_1 < (l0.length : Int)) = true := decide_eq_true c2
    clear c2
    by_cases c3 : x4_1 < 4000
    ·rw [if_pos c3] at H
     have c3b0 : decide (x4_1 < 4000) = true := decide_eq_true c3
     clear c3
     by_cases c4 : 0 ≤ x4_1
     case neg => rw [if_neg c4] at H; exact absurd H (by simp)
     rw [if_pos c4] at H
     have c4b0 : decide (0 ≤ x4_1) = true := decide_eq_true c4
     clear c4
     have H' := Aside0.mk H
     clear H
     have p174 : 0 ≤ (x4_1 : Int) := of_decide_eq_true (by first | (with_reducible assumption) | assumption)
     have q174 : x4_1 < (l0.length : Int) := of_decide_eq_true (by first | (with_reducible assumption) | assumption)
     obtain ⟨ad174, e174, hx174_0⟩ := Kd.at_int HR0.out x4_1 p174 q174
     cases e174
     replace hx174_0 := pw_cell_below HB.out hx174_0
     replace p174 := eq_true p174
     replace q174 := eq_true q174
     go_wp2
     go_roundg k1
     case measure => have := HK1.out; omega
     case rel => exact ⟨(Go.bits .and .i64 (wrap64 ((wrap64 ((wrap64 (x3_1 * 131)) + (wrap64 (rd l0 x4_1)))) + 7)) 1073741823), (wrap64 (x4_1 + 1)), (by first | rfl | (simp; done) | (simp [*]; done)), (by first | rfl | (simp; done) | (simp [*]; done)), H', ⟨by have := HK1.out; omega⟩, ⟨by repeat (first | (with_reducible first | exact HBW.out | apply qc0 | apply qa0 | apply qb0) | exact HBW.out)⟩, ⟨by repeat (first | (with_reducible first | exact HB.out | apply qc0 | apply qa0 | apply qb0) | exact HB.out)⟩⟩
    rw [if_neg c3] at H
    have c3b0 : decide (x4_1 < 4000) = false := decide_eq_false c3
    clear c3
    simp only [Option.some.injEq, Prod.mk.injEq] at H
    obtain ⟨rfl, rfl, rfl⟩ := H
    go_wp2_with (first | ((with_reducible refine gate_dst (N := 31) rfl ?_); refine qh1 ?hg (N := 31) ?hd (cs := #[.slice A0 l0.length c0, .int .i64 0, .int .i64 x3_1]) (t := 236) ?hr ?_; (case hd => rfl); (case hg => rfl); (case hr => first | (go_simp; done) | (go_simp; rfl)); intro gb175 hg w5 hbox hb; have n0_ := Aside0.mk (qk0 HBW.out hb); have n1_ := Aside0.mk (qk0 (by repeat (first | (with_reducible first | exact HB.out | apply qc0 | apply qa0 | apply qb0) | exact HB.out)) hb); have n2_ := Aside0.mk (hbox); have n3_ := Aside0.mk ((by rw [hg]; exact (ql0 (by repeat (first | (with_reducible first | exact HBW.out | apply qc0 | apply qa0 | apply qb0) | exact HBW.out))) : w.heap.size ≤ gb175)); have n4_ := Aside0.mk ((Nat.le_trans HW0.out (by rw [hg]; exact (ql0 (by repeat (first | (with_reducible first | exact HBW.out | apply qc0 | apply qa0 | apply qb0) | exact HBW.out))) : w.heap.size ≤ gb175) : w0.heap.size ≤ gb175)); clear HBW; clear HB; have HBW := n0_; have HB := n1_; have BK175 := n2_; have GW175 := n3_; have GE175 := n4_; clear n0_ n1_ n2_ n3_ n4_; clear hb hbox hg))
    go_ret
    exact ⟨_, rfl, (show IsS236 w0 _ gb175 l0 0 x3_1 from ⟨_, _, by (with_reducible repeat (first | refine qm0 ?_ _ | refine qp0 ?_ | refine qn0 ?_ _)); exact BK175.out, GE175.out, HR0.out⟩), by repeat (first | (with_reducible first | exact HB.out | apply qc0 | apply qa0 | apply qb0 | refine qg0 ?_ GE175.out) | exact HB.out), by repeat (first | (with_reducible first | exact HBW.out | apply qc0 | apply qa0 | apply qb0 | refine qg0 ?_ GW175.out) | exact HBW.out)⟩
   rw [if_neg c2] at H
   have c2b0 : decide (x4_1 < (l0.length : Int)) = false := decide_eq_false c2
   clear c2
   simp only [Option.some.injEq, Prod.mk.injEq] at H
   obtain ⟨rfl, rfl, rfl⟩ := H
   go_wp2_with (first | ((with_reducible refine gate_dst (N := 31) rfl ?_); refine qh1 ?hg (N := 31) ?hd (cs := #[.slice A0 l0.length c0, .int .i64 0, .int .i64 x3_1]) (t := 236) ?hr ?_; (case hd => rfl); (case hg => rfl); (case hr => first | (go_simp; done) | (go_simp; rfl)); intro gb176 hg w6 hbox hb; have n0_ := Aside0.mk (qk0 HBW.out hb); have n1_ := Aside0.mk (qk0 (by repeat (first | (with_reducible first | exact HB.out | apply qc0 | apply qa0 | apply qb0) | exact HB.out)) hb); have n2_ := Aside0.mk (hbox); have n3_ := Aside0.mk ((by rw [hg]; exact (ql0 (by repeat (first | (with_reducible first | exact HBW.out | apply qc0 | apply qa0 | apply qb0) | exact HBW.out))) : w.heap.size ≤ gb176)); have n4_ := Aside0.mk ((Nat.le_trans HW0.out (by rw [hg]; exact (ql0 (by repeat (first | (with_reducible first | exact HBW.out | apply qc0 | apply qa0 | apply qb0) | exact HBW.out))) : w.heap.size ≤ gb176) : w0.heap.size ≤ gb176)); clear HBW; clear HB; have HBW := n0_; have HB := n1_; have BK176 := n2_; have GW176 := n3_; have GE176 := n4_; clear n0_ n1_ n2_ n3_ n4_; clear hb hbox hg))
   go_ret
   exact ⟨_, rfl, (show IsS236 w0 _ gb176 l0 0 x3_1 from ⟨_, _, by (with_reducible repeat (first | refine qm0 ?_ _ | refine qp0 ?_ | refine qn0 ?_ _)); exact BK176.out, GE176.out, HR0.out⟩), by repeat (first | (with_reducible first | exact HB.out | apply qc0 | apply qa0 | apply qb0 | refine qg0 ?_ GE176.out) | exact HB.out), by repeat (first | (with_reducible first | exact HBW.out | apply qc0 | apply qa0 | apply qb0 | refine qg0 ?_ GW176.out) | exact HBW.out)⟩

/-! ### spec_l1Byte: function 170 -/
def spec_l1Byte.f (s0_0 : List Int) (s0_1 : Int) (s0_2 : Int) : Option (Int × Int × Int) := if s0_1 < (s0_0.length : Int) then (if 0 ≤ s0_1 then (some (Go.bits .and .i64 (wrap64 ((Go.bits .and .i64 (Go.bits .xor .i64 ((wrap64 ((wrap64 (s0_2 * 6364136223846793005)) + 1442695040888963407)) / 8589934592) ((wrap64 ((wrap64 (s0_2 * 6364136223846793005)) + 1442695040888963407)) / 35184372088832)) 255) + (wrap64 (rd s0_0 s0_1)))) 255, wrap64 (s0_1 + 1), wrap64 ((wrap64 (s0_2 * 6364136223846793005)) + 1442695040888963407))) else (none)) else (some (Go.bits .and .i64 (Go.bits .xor .i64 ((wrap64 ((wrap64 (s0_2 * 6364136223846793005)) + 1442695040888963407)) / 8589934592) ((wrap64 ((wrap64 (s0_2 * 6364136223846793005)) + 1442695040888963407)) / 35184372088832)) 255, s0_1, wrap64 ((wrap64 (s0_2 * 6364136223846793005)) + 1442695040888963407)))
set_option maxHeartbeats 8000000 in
set_option maxRecDepth 100000 in
theorem spec_l1Byte.calls (g : Nat) (s0_0 : List Int) (s0_1 : Int) (s0_2 : Int) (r1 : Int) (r2 : Int) (r3 : Int) (w0 w : World) (hI : IsS236 w0 w g s0_0 s0_1 s0_2) (hB : Below w0.heap.size w0 w) (h : spec_l1Byte.f s0_0 s0_1 s0_2 = some (r1, r2, r3)) :
  Calls Try.prog 170 #[.pointer (some ⟨g, 0, none⟩)] w fun e w' => e = .returned (.int .i64 r1) ∧ IsS236 w0 w' g s0_0 r2 r3 ∧ Below w0.heap.size w0 w' ∧ qq0 w w' g none := by
 have HI0 := Aside0.mk hI
 have HK := Aside0.mk (qq0.refl w g none)
 have HL := Aside0.mk hB.size
 clear hI
 have HW0 := Aside0.mk hB.size
 have HB := Aside0.mk hB
 clear hB
 have H : (if s0_1 < (s0_0.length : Int) then (if 0 ≤ s0_1 then (some (Go.bits .and .i64 (wrap64 ((Go.bits .and .i64 (Go.bits .xor .i64 ((wrap64 ((wrap64 (s0_2 * 6364136223846793005)) + 1442695040888963407)) / 8589934592) ((wrap64 ((wrap64 (s0_2 * 6364136223846793005)) + 1442695040888963407)) / 35184372088832)) 255) + (wrap64 (rd s0_0 s0_1)))) 255, wrap64 (s0_1 + 1), wrap64 ((wrap64 (s0_2 * 6364136223846793005)) + 1442695040888963407))) else (none)) else (some (Go.bits .and .i64 (Go.bits .xor .i64 ((wrap64 ((wrap64 (s0_2 * 6364136223846793005)) + 1442695040888963407)) / 8589934592) ((wrap64 ((wrap64 (s0_2 * 6364136223846793005)) + 1442695040888963407)) / 35184372088832)) 255, s0_1, wrap64 ((wrap64 (s0_2 * 6364136223846793005)) + 1442695040888963407)))) = some (r1, r2, r3) := h
 clear h
 by_cases c2 : s0_1 < (s0_0.length : Int)
 ·rw [if_pos c2] at H
  have c2b0 : decide (s0_1 < (s0_0.length : Int)) = true := decide_eq_true c2
  clear c2
  by_cases c3 : 0 ≤ s0_1
  case neg => rw [if_neg c3] at H; exact absurd H (by simp)
  rw [if_pos c3] at H
  have c3b0 : decide (0 ≤ s0_1) = true := decide_eq_true c3
  clear c3
  simp only [Option.some.injEq, Prod.mk.injEq] at H
  obtain ⟨rfl, rfl, rfl⟩ := H
  obtain ⟨ASz4_0, cSz4_0, HGz4, hgz4, HSz4_0⟩ := HI0.out
  have hcz4_0 := cellS236_0 HGz4
  have hcz4_1 := cellS236_1 HGz4
  have hcz4_2 := cellS236_2 HGz4
  have hfz4_1 := qd0 HGz4 1
  have hfz4_2 := qd0 HGz4 2
  clear HGz4 hgz4
  have p177 : 0 ≤ (s0_1 : Int) := of_decide_eq_true (by first | (with_reducible assumption) | assumption)
  have q177 : s0_1 < (s0_0.length : Int) := of_decide_eq_true (by first | (with_reducible assumption) | assumption)
  obtain ⟨ad177, e177, hx177_0⟩ := Kd.at_int HSz4_0 s0_1 p177 q177
  cases e177
  have hn177_0 : ad177.block ≠ g := Nat.ne_of_lt (Nat.lt_of_lt_of_le (by have := World.block_lt_of_cell? _ _ hx177_0; first | rwa [add_block] at this | exact this) (IsS236.ge HI0.out))
  replace hx177_0 := pw_cell_below HB.out hx177_0
  replace hx177_0 := (cell_far (p := ⟨g, 2, none⟩) (by first | (rw [add_block]; exact hn177_0) | (show (Addr.add _ _).block ≠ _; rw [add_block]; exact hn177_0) | exact hn177_0) (.int .i64 (wrap64 ((wrap64 (s0_2 * 6364136223846793005)) + 1442695040888963407)))).trans hx177_0
  (try have hy177_0 := fun (n_ : Nat) => (show (((w.drewN n_).setCell ⟨g, 2, none⟩ (.int .i64 (wrap64 ((wrap64 (s0_2 * 6364136223846793005)) + 1442695040888963407))))).cell? _ = some _ from hx177_0))
  clear hn177_0
  replace p177 := eq_true p177
  replace q177 := eq_true q177
  go_enter Try.func170, Try.ntmps170
  go_wp2
  repeat (go_quiet (fail); try go_wp2)
  go_ret
  exact ⟨by first | rfl | (simp [errW_none, errW_some] <;> rfl) | (simp [*, errW_none, errW_some] <;> rfl), by repeat (first | (with_reducible first | exact HI0.out | apply IsS236.alloc | apply IsS236.drewN | apply IsS236.drew | apply IsS236.set_1 | apply IsS236.set_2) | exact HI0.out), by repeat (first | (with_reducible first | exact HB.out | apply qc0 | apply qa0 | apply qb0 | refine qg0 ?_ (IsS236.ge HI0.out)) | exact HB.out), by repeat (first | (with_reducible first | exact HK.out | apply qq0.set_ | apply qr0 | apply qw0 | apply qs0) | exact HK.out)⟩
 rw [if_neg c2] at H
 have c2b0 : decide (s0_1 < (s0_0.length : Int)) = false := decide_eq_false c2
 clear c2
 simp only [Option.some.injEq, Prod.mk.injEq] at H
 obtain ⟨rfl, rfl, rfl⟩ := H
 obtain ⟨ASz5_0, cSz5_0, HGz5, hgz5, HSz5_0⟩ := HI0.out
 have hcz5_0 := cellS236_0 HGz5
 have hcz5_1 := cellS236_1 HGz5
 have hcz5_2 := cellS236_2 HGz5
 have hfz5_1 := qd0 HGz5 1
 have hfz5_2 := qd0 HGz5 2
 clear HGz5 hgz5
 go_enter Try.func170, Try.ntmps170
 go_wp2
 repeat (go_quiet (fail); try go_wp2)
 go_ret
 exact ⟨by first | rfl | (simp [errW_none, errW_some] <;> rfl) | (simp [*, errW_none, errW_some] <;> rfl), by repeat (first | (with_reducible first | exact HI0.out | apply IsS236.alloc | apply IsS236.drewN | apply IsS236.drew | apply IsS236.set_1 | apply IsS236.set_2) | exact HI0.out), by repeat (first | (with_reducible first | exact HB.out | apply qc0 | apply qa0 | apply qb0 | refine qg0 ?_ (IsS236.ge HI0.out)) | exact HB.out), by repeat (first | (with_reducible first | exact HK.out | apply qq0.set_ | apply qr0 | apply qw0 | apply qs0) | exact HK.out)⟩

/-! ### spec_l1Below: function 86 -/
def spec_l1Below.f (s0_0 : List Int) (s0_1 : Int) (s0_2 : Int) (a1 : Int) : Option (Int × Int × Int) := if a1 ≤ 0 then (some (0, s0_1, s0_2)) else (if a1 ≤ 256 then ((spec_l1Byte.f s0_0 s0_1 s0_2).bind fun bt178 => (if a1 = 0 then (none) else (some (Int.tmod bt178.1 a1, bt178.2.1, bt178.2.2)))) else ((spec_l1Byte.f s0_0 s0_1 s0_2).bind fun bt181 => ((spec_l1Byte.f s0_0 bt181.2.1 bt181.2.2).bind fun bt184 => ((spec_l1Byte.f s0_0 bt184.2.1 bt184.2.2).bind fun bt187 => ((spec_l1Byte.f s0_0 bt187.2.1 bt187.2.2).bind fun bt190 => (if a1 = 0 then (none) else (some (Int.tmod (wrap64 ((wrap64 ((wrap64 ((wrap64 (bt181.1 * 16777216)) + (wrap64 (bt184.1 * 65536)))) + (wrap64 (bt187.1 * 256)))) + bt190.1)) a1, bt190.2.1, bt190.2.2))))))))
set_option maxHeartbeats 8000000 in
set_option maxRecDepth 100000 in
theorem spec_l1Below.calls (g : Nat) (s0_0 : List Int) (s0_1 : Int) (s0_2 : Int) (a1 : Int) (r1 : Int) (r2 : Int) (r3 : Int) (w0 w : World) (hI : IsS236 w0 w g s0_0 s0_1 s0_2) (hB : Below w0.heap.size w0 w) (h : spec_l1Below.f s0_0 s0_1 s0_2 a1 = some (r1, r2, r3)) :
  Calls Try.prog 86 #[.pointer (some ⟨g, 0, none⟩), .int .i64 a1] w fun e w' => e = .returned (.int .i64 r1) ∧ IsS236 w0 w' g s0_0 r2 r3 ∧ Below w0.heap.size w0 w' ∧ qq0 w w' g none := by
 have HI0 := Aside0.mk hI
 have HK := Aside0.mk (qq0.refl w g none)
 have HL := Aside0.mk hB.size
 clear hI
 have HW0 := Aside0.mk hB.size
 have HB := Aside0.mk hB
 clear hB
 have H : (if a1 ≤ 0 then (some (0, s0_1, s0_2)) else (if a1 ≤ 256 then ((spec_l1Byte.f s0_0 s0_1 s0_2).bind fun bt178 => (if a1 = 0 then (none) else (some (Int.tmod bt178.1 a1, bt178.2.1, bt178.2.2)))) else ((spec_l1Byte.f s0_0 s0_1 s0_2).bind fun bt181 => ((spec_l1Byte.f s0_0 bt181.2.1 bt181.2.2).bind fun bt184 => ((spec_l1Byte.f s0_0 bt184.2.1 bt184.2.2).bind fun bt187 => ((spec_l1Byte.f s0_0 bt187.2.1 bt187.2.2).bind fun bt190 => (if a1 = 0 then (none) else (some (Int.tmod (wrap64 ((wrap64 ((wrap64 ((wrap64 (bt181.1 * 16777216)) + (wrap64 (bt184.1 * 65536)))) + (wrap64 (bt187.1 * 256)))) + bt190.1)) a1, bt190.2.1, bt190.2.2))))))))) = some (r1, r2, r3) := h
 clear h
 by_cases c3 : a1 ≤ 0
 ·rw [if_pos c3] at H
  have c3b0 : decide (a1 ≤ 0) = true := decide_eq_true c3
  clear c3
  simp only [Option.some.injEq, Prod.mk.injEq] at H
  obtain ⟨rfl, rfl, rfl⟩ := H
  go_enter Try.func86, Try.ntmps86
  go_wp2
  go_ret
  exact ⟨by first | rfl | (simp [errW_none, errW_some] <;> rfl) | (simp [*, errW_none, errW_some] <;> rfl), by repeat (first | (with_reducible first | exact HI0.out | apply IsS236.alloc | apply IsS236.drewN | apply IsS236.drew | apply IsS236.set_1 | apply IsS236.set_2) | exact HI0.out), by repeat (first | (with_reducible first | exact HB.out | apply qc0 | apply qa0 | apply qb0 | refine qg0 ?_ (IsS236.ge HI0.out)) | exact HB.out), by repeat (first | (with_reducible first | exact HK.out | apply qq0.set_ | apply qr0 | apply qw0 | apply qs0) | exact HK.out)⟩
 rw [if_neg c3] at H
 have c3b0 : decide (a1 ≤ 0) = false := decide_eq_false c3
 clear c3
 by_cases c4 : a1 ≤ 256
 ·rw [if_pos c4] at H
  have c4b0 : decide (a1 ≤ 256) = true := decide_eq_true c4
  clear c4
  replace H := Option.bind_eq_some_iff.mp H
  obtain ⟨⟨t178, t179, t180⟩, A50, H⟩ := H
  replace H : (if a1 = 0 then (none) else (some (Int.tmod t178 a1, t179, t180))) = some (r1, r2, r3) := H
  have A5 := Aside0.mk A50
  clear A50
  by_cases c6 : a1 = 0
  ·rw [if_pos c6] at H
   exact absurd H (by simp)
  rw [if_neg c6] at H
  have c6b0 : (a1 == 0) = false := beq_eq_false_iff_ne.mpr c6
  have c6b1 : (a1 != 0) = true := bne_iff_ne.mpr c6
  simp only [Option.some.injEq, Prod.mk.injEq] at H
  obtain ⟨rfl, rfl, rfl⟩ := H
  go_enter Try.func86, Try.ntmps86
  go_wp2_with (first | ((with_reducible refine qo0 (f := 170) rfl ?_); refine qz0 (some 14) rfl rfl Try.func170 (by kernel_rfl) rfl #[.pointer (some ⟨g, 0, none⟩)] rfl (by (try simp only [List.map_toArray, List.map_cons, List.map_nil]); first | done | rfl | (simp only [List.length_drop, List.length_take]; rfl)) ?_; (with_reducible refine (spec_l1Byte.calls g s0_0 s0_1 s0_2 t178 t179 t180 w0 _ ?side1 ?side2 A5.out).mono ?_); (case side1 => repeat (first | (with_reducible first | exact HI0.out | apply IsS236.alloc | apply IsS236.drewN | apply IsS236.drew | apply IsS236.set_1 | apply IsS236.set_2) | exact HI0.out)); (case side2 => repeat (first | (with_reducible first | exact HB.out | apply qc0 | apply qa0 | apply qb0 | refine qg0 ?_ (IsS236.ge HI0.out)) | exact HB.out)); rintro e w7 ⟨rfl, hi, hb, hk⟩; refine ⟨_, rfl, ?_⟩; have n0_ := Aside0.mk (qq0.trans (by repeat (first | (with_reducible first | exact HK.out | apply qq0.set_ | apply qr0 | apply qw0 | apply qs0) | exact HK.out)) hk (.inl rfl)); have n1_ := Aside0.mk (hb); have n2_ := Aside0.mk (hi); clear HK; clear HB; clear HI0; have HK := n0_; have HB := n1_; have HI0 := n2_; clear n0_ n1_ n2_; (try clear hb); (try clear hb2); (try clear hk); (try clear hi)))
  go_ret
  exact ⟨by first | rfl | (simp [errW_none, errW_some] <;> rfl) | (simp [*, errW_none, errW_some] <;> rfl), by repeat (first | (with_reducible first | exact HI0.out | apply IsS236.alloc | apply IsS236.drewN | apply IsS236.drew | apply IsS236.set_1 | apply IsS236.set_2) | exact HI0.out), by repeat (first | (with_reducible first | exact HB.out | apply qc0 | apply qa0 | apply qb0 | refine qg0 ?_ (IsS236.ge HI0.out)) | exact HB.out), by repeat (first | (with_reducible first | exact HK.out | apply qq0.set_ | apply qr0 | apply qw0 | apply qs0) | exact HK.out)⟩
 rw [if_neg c4] at H
 have c4b0 : decide (a1 ≤ 256) = false := decide_eq_false c4
 clear c4
 replace H := Option.bind_eq_some_iff.mp H
 obtain ⟨⟨t181, t182, t183⟩, A80, H⟩ := H
 replace H : ((spec_l1Byte.f s0_0 t182 t183).bind fun bt184 => ((spec_l1Byte.f s0_0 bt184.2.1 bt184.2.2).bind fun bt187 => ((spec_l1Byte.f s0_0 bt187.2.1 bt187.2.2).bind fun bt190 => (if a1 = 0 then (none) else (some (Int.tmod (wrap64 ((wrap64 ((wrap64 ((wrap64 (t181 * 16777216)) + (wrap64 (bt184.1 * 65536)))) + (wrap64 (bt187.1 * 256)))) + bt190.1)) a1, bt190.2.1, bt190.2.2)))))) = some (r1, r2, r3) := H
 have A8 := Aside0.mk A80
 clear A80
 replace H := Option.bind_eq_some_iff.mp H
 obtain ⟨⟨t184, t185, t186⟩, A90, H⟩ := H
 replace H : ((spec_l1Byte.f s0_0 t185 t186).bind fun bt187 => ((spec_l1Byte.f s0_0 bt187.2.1 bt187.2.2).bind fun bt190 => (if a1 = 0 then (none) else (some (Int.tmod (wrap64 ((wrap64 ((wrap64 ((wrap64 (t181 * 16777216)) + (wrap64 (t184 * 65536)))) + (wrap64 (bt187.1 * 256)))) + bt190.1)) a1, bt190.2.1, bt190.2.2))))) = some (r1, r2, r3) := H
 have A9 := Aside0.mk A90
 clear A90
 replace H := Option.bind_eq_some_iff.mp H
 obtain ⟨⟨t187, t188, t189⟩, A100, H⟩ := H
 replace H : ((spec_l1Byte.f s0_0 t188 t189).bind fun bt190 => (if a1 = 0 then (none) else (some (Int.tmod (wrap64 ((wrap64 ((wrap64 ((wrap64 (t181 * 16777216)) + (wrap64 (t184 * 65536)))) + (wrap64 (t187 * 256)))) + bt190.1)) a1, bt190.2.1, bt190.2.2)))) = some (r1, r2, r3) := H
 have A10 := Aside0.mk A100
 clear A100
 replace H := Option.bind_eq_some_iff.mp H
 obtain ⟨⟨t190, t191, t192⟩, A110, H⟩ := H
 replace H : (if a1 = 0 then (none) else (some (Int.tmod (wrap64 ((wrap64 ((wrap64 ((wrap64 (t181 * 16777216)) + (wrap64 (t184 * 65536)))) + (wrap64 (t187 * 256)))) + t190)) a1, t191, t192))) = some (r1, r2, r3) := H
 have A11 := Aside0.mk A110
 clear A110
 by_cases c12 : a1 = 0
 ·rw [if_pos c12] at H
  exact absurd H (by simp)
 rw [if_neg c12] at H
 have c12b0 : (a1 == 0) = false := beq_eq_false_iff_ne.mpr c12
 have c12b1 : (a1 != 0) = true := bne_iff_ne.mpr c12
 simp only [Option.some.injEq, Prod.mk.injEq] at H
 obtain ⟨rfl, rfl, rfl⟩ := H
 go_enter Try.func86, Try.ntmps86
 go_wp2_with (first | ((with_reducible refine qo0 (f := 170) rfl ?_); refine qz0 (some 18) rfl rfl Try.func170 (by kernel_rfl) rfl #[.pointer (some ⟨g, 0, none⟩)] rfl (by (try simp only [List.map_toArray, List.map_cons, List.map_nil]); first | done | rfl | (simp only [List.length_drop, List.length_take]; rfl)) ?_; (with_reducible refine (spec_l1Byte.calls g s0_0 s0_1 s0_2 t181 t182 t183 w0 _ ?side1 ?side2 A8.out).mono ?_); (case side1 => repeat (first | (with_reducible first | exact HI0.out | apply IsS236.alloc | apply IsS236.drewN | apply IsS236.drew | apply IsS236.set_1 | apply IsS236.set_2) | exact HI0.out)); (case side2 => repeat (first | (with_reducible first | exact HB.out | apply qc0 | apply qa0 | apply qb0 | refine qg0 ?_ (IsS236.ge HI0.out)) | exact HB.out)); rintro e w13 ⟨rfl, hi, hb, hk⟩; refine ⟨_, rfl, ?_⟩; have n0_ := Aside0.mk (qq0.trans (by repeat (first | (with_reducible first | exact HK.out | apply qq0.set_ | apply qr0 | apply qw0 | apply qs0) | exact HK.out)) hk (.inl rfl)); have n1_ := Aside0.mk (hb); have n2_ := Aside0.mk (hi); clear HK; clear HB; clear HI0; have HK := n0_; have HB := n1_; have HI0 := n2_; clear n0_ n1_ n2_; (try clear hb); (try clear hb2); (try clear hk); (try clear hi)) | ((with_reducible refine qo0 (f := 170) rfl ?_); refine qz0 (some 20) rfl rfl Try.func170 (by kernel_rfl) rfl #[.pointer (some ⟨g, 0, none⟩)] rfl (by (try simp only [List.map_toArray, List.map_cons, List.map_nil]); first | done | rfl | (simp only [List.length_drop, List.length_take]; rfl)) ?_; (with_reducible refine (spec_l1Byte.calls g s0_0 t182 t183 t184 t185 t186 w0 _ ?side1 ?side2 A9.out).mono ?_); (case side1 => repeat (first | (with_reducible first | exact HI0.out | apply IsS236.alloc | apply IsS236.drewN | apply IsS236.drew | apply IsS236.set_1 | apply IsS236.set_2) | exact HI0.out)); (case side2 => repeat (first | (with_reducible first | exact HB.out | apply qc0 | apply qa0 | apply qb0 | refine qg0 ?_ (IsS236.ge HI0.out)) | exact HB.out)); rintro e w14 ⟨rfl, hi, hb, hk⟩; refine ⟨_, rfl, ?_⟩; have n0_ := Aside0.mk (qq0.trans (by repeat (first | (with_reducible first | exact HK.out | apply qq0.set_ | apply qr0 | apply qw0 | apply qs0) | exact HK.out)) hk (.inl rfl)); have n1_ := Aside0.mk (hb); have n2_ := Aside0.mk (hi); clear HK; clear HB; clear HI0; have HK := n0_; have HB := n1_; have HI0 := n2_; clear n0_ n1_ n2_; (try clear hb); (try clear hb2); (try clear hk); (try clear hi)) | ((with_reducible refine qo0 (f := 170) rfl ?_); refine qz0 (some 22) rfl rfl Try.func170 (by kernel_rfl) rfl #[.pointer (some ⟨g, 0, none⟩)] rfl (by (try simp only [List.map_toArray, List.map_cons, List.map_nil]); first | done | rfl | (simp only [List.length_drop, List.length_take]; rfl)) ?_; (with_reducible refine (spec_l1Byte.calls g s0_0 t185 t186 t187 t188 t189 w0 _ ?side1 ?side2 A10.out).mono ?_); (case side1 => repeat (first | (with_reducible first | exact HI0.out | apply IsS236.alloc | apply IsS236.drewN | apply IsS236.drew | apply IsS236.set_1 | apply IsS236.set_2) | exact HI0.out)); (case side2 => repeat (first | (with_reducible first | exact HB.out | apply qc0 | apply qa0 | apply qb0 | refine qg0 ?_ (IsS236.ge HI0.out)) | exact HB.out)); rintro e w15 ⟨rfl, hi, hb, hk⟩; refine ⟨_, rfl, ?_⟩; have n0_ := Aside0.mk (qq0.trans (by repeat (first | (with_reducible first | exact HK.out | apply qq0.set_ | apply qr0 | apply qw0 | apply qs0) | exact HK.out)) hk (.inl rfl)); have n1_ := Aside0.mk (hb); have n2_ := Aside0.mk (hi); clear HK; clear HB; clear HI0; have HK := n0_; have HB := n1_; have HI0 := n2_; clear n0_ n1_ n2_; (try clear hb); (try clear hb2); (try clear hk); (try clear hi)) | ((with_reducible refine qo0 (f := 170) rfl ?_); refine qz0 (some 24) rfl rfl Try.func170 (by kernel_rfl) rfl #[.pointer (some ⟨g, 0, none⟩)] rfl (by (try simp only [List.map_toArray, List.map_cons, List.map_nil]); first | done | rfl | (simp only [List.length_drop, List.length_take]; rfl)) ?_; (with_reducible refine (spec_l1Byte.calls g s0_0 t188 t189 t190 t191 t192 w0 _ ?side1 ?side2 A11.out).mono ?_); (case side1 => repeat (first | (with_reducible first | exact HI0.out | apply IsS236.alloc | apply IsS236.drewN | apply IsS236.drew | apply IsS236.set_1 | apply IsS236.set_2) | exact HI0.out)); (case side2 => repeat (first | (with_reducible first | exact HB.out | apply qc0 | apply qa0 | apply qb0 | refine qg0 ?_ (IsS236.ge HI0.out)) | exact HB.out)); rintro e w16 ⟨rfl, hi, hb, hk⟩; refine ⟨_, rfl, ?_⟩; have n0_ := Aside0.mk (qq0.trans (by repeat (first | (with_reducible first | exact HK.out | apply qq0.set_ | apply qr0 | apply qw0 | apply qs0) | exact HK.out)) hk (.inl rfl)); have n1_ := Aside0.mk (hb); have n2_ := Aside0.mk (hi); clear HK; clear HB; clear HI0; have HK := n0_; have HB := n1_; have HI0 := n2_; clear n0_ n1_ n2_; (try clear hb); (try clear hb2); (try clear hk); (try clear hi)))
 go_ret
 exact ⟨by first | rfl | (simp [errW_none, errW_some] <;> rfl) | (simp [*, errW_none, errW_some] <;> rfl), by repeat (first | (with_reducible first | exact HI0.out | apply IsS236.alloc | apply IsS236.drewN | apply IsS236.drew | apply IsS236.set_1 | apply IsS236.set_2) | exact HI0.out), by repeat (first | (with_reducible first | exact HB.out | apply qc0 | apply qa0 | apply qb0 | refine qg0 ?_ (IsS236.ge HI0.out)) | exact HB.out), by repeat (first | (with_reducible first | exact HK.out | apply qq0.set_ | apply qr0 | apply qw0 | apply qs0) | exact HK.out)⟩

/-! ### spec_l1PickInt: function 87 -/
def spec_l1PickInt.f (s0_0 : List Int) (s0_1 : Int) (s0_2 : Int) (l1 : List Int) : Option (Int × Int × Int) := (spec_l1Below.f s0_0 s0_1 s0_2 (l1.length : Int)).bind fun bt193 => (if 0 ≤ bt193.1 then (if bt193.1 < (l1.length : Int) then (some (rd l1 bt193.1, bt193.2.1, bt193.2.2)) else (none)) else (none))
set_option maxHeartbeats 8000000 in
set_option maxRecDepth 100000 in
theorem spec_l1PickInt.calls (g : Nat) (s0_0 : List Int) (s0_1 : Int) (s0_2 : Int) (A1 : Option Addr) (c1 : Nat) (l1 : List Int) (r1 : Int) (r2 : Int) (r3 : Int) (w0 w : World) (hI : IsS236 w0 w g s0_0 s0_1 s0_2) (hB : Below w0.heap.size w0 w) (hr1 : Kd.C (Kd.int .i64) w A1 l1.length l1) (hc1 : l1.length ≤ c1) (hf1 : ∀ ad, A1 = some ad → 0 < l1.length → ad.block ≠ g) (h : spec_l1PickInt.f s0_0 s0_1 s0_2 l1 = some (r1, r2, r3)) :
  Calls Try.prog 87 #[.pointer (some ⟨g, 0, none⟩), .slice A1 l1.length c1] w fun e w' => e = .returned (.int .i64 r1) ∧ IsS236 w0 w' g s0_0 r2 r3 ∧ Below w0.heap.size w0 w' ∧ qq0 w w' g none := by
 have HR1 := Aside0.mk hr1
 have HC1 := Aside0.mk hc1
 clear hr1 hc1
 have HI0 := Aside0.mk hI
 have HK := Aside0.mk (qq0.refl w g none)
 have HL := Aside0.mk hB.size
 clear hI
 have HW0 := Aside0.mk hB.size
 have HB := Aside0.mk hB
 clear hB
 have H : ((spec_l1Below.f s0_0 s0_1 s0_2 (l1.length : Int)).bind fun bt193 => (if 0 ≤ bt193.1 then (if bt193.1 < (l1.length : Int) then (some (rd l1 bt193.1, bt193.2.1, bt193.2.2)) else (none)) else (none))) = some (r1, r2, r3) := h
 clear h
 replace H := Option.bind_eq_some_iff.mp H
 obtain ⟨⟨t193, t194, t195⟩, A30, H⟩ := H
 replace H : (if 0 ≤ t193 then (if t193 < (l1.length : Int) then (some (rd l1 t193, t194, t195)) else (none)) else (none)) = some (r1, r2, r3) := H
 have A3 := Aside0.mk A30
 clear A30
 by_cases c4 : 0 ≤ t193
 case neg => rw [if_neg c4] at H; exact absurd H (by simp)
 rw [if_pos c4] at H
 have c4b0 : decide (0 ≤ t193) = true := decide_eq_true c4
 clear c4
 by_cases c5 : t193 < (l1.length : Int)
 case neg => rw [if_neg c5] at H; exact absurd H (by simp)
 rw [if_pos c5] at H
 have c5b0 : decide (t193 < (l1.length : Int)) = true := decide_eq_true c5
 clear c5
 simp only [Option.some.injEq, Prod.mk.injEq] at H
 obtain ⟨rfl, rfl, rfl⟩ := H
 go_enter Try.func87, Try.ntmps87
 go_wp2_with (first | ((with_reducible refine qo0 (f := 86) rfl ?_); refine qz0 (some 9) rfl rfl Try.func86 (by kernel_rfl) rfl #[.pointer (some ⟨g, 0, none⟩), .int .i64 (l1.length : Int)] rfl (by (try simp only [List.map_toArray, List.map_cons, List.map_nil]); first | done | rfl | (simp only [List.length_drop, List.length_take]; rfl)) ?_; (with_reducible refine (spec_l1Below.calls g s0_0 s0_1 s0_2 (l1.length : Int) t193 t194 t195 w0 _ ?side1 ?side2 A3.out).mono ?_); (case side1 => repeat (first | (with_reducible first | exact HI0.out | apply IsS236.alloc | apply IsS236.drewN | apply IsS236.drew | apply IsS236.set_1 | apply IsS236.set_2) | exact HI0.out)); (case side2 => repeat (first | (with_reducible first | exact HB.out | apply qc0 | apply qa0 | apply qb0 | refine qg0 ?_ (IsS236.ge HI0.out)) | exact HB.out)); rintro e w6 ⟨rfl, hi, hb, hk⟩; refine ⟨_, rfl, ?_⟩; have n0_ := Aside0.mk (qq0.trans (by repeat (first | (with_reducible first | exact HK.out | apply qq0.set_ | apply qr0 | apply qw0 | apply qs0) | exact HK.out)) hk (.inl rfl)); have n1_ := Aside0.mk (hb); have n2_ := Aside0.mk (hi); clear HK; clear HB; clear HI0; have HK := n0_; have HB := n1_; have HI0 := n2_; clear n0_ n1_ n2_; (try clear hb); (try clear hb2); (try clear hk); (try clear hi); have p196 : 0 ≤ (t193 : Int) := of_decide_eq_true (by first | (with_reducible assumption) | assumption); have q196 : t193 < (l1.length : Int) := of_decide_eq_true (by first | (with_reducible assumption) | assumption); obtain ⟨ad196, e196, hx196_0⟩ := Kd.at_int HR1.out t193 p196 q196; cases e196; replace hx196_0 := keep_cell HK.out hx196_0 (by first | (rw [add_block]; exact hf1 _ rfl (by omega)) | exact hf1 _ rfl (by omega) | exact hf1 ad196 rfl (by omega)); replace p196 := eq_true p196; replace q196 := eq_true q196))
 go_ret
 exact ⟨by first | rfl | (simp [errW_none, errW_some] <;> rfl) | (simp [*, errW_none, errW_some] <;> rfl), by repeat (first | (with_reducible first | exact HI0.out | apply IsS236.alloc | apply IsS236.drewN | apply IsS236.drew | apply IsS236.set_1 | apply IsS236.set_2) | exact HI0.out), by repeat (first | (with_reducible first | exact HB.out | apply qc0 | apply qa0 | apply qb0 | refine qg0 ?_ (IsS236.ge HI0.out)) | exact HB.out), by repeat (first | (with_reducible first | exact HK.out | apply qq0.set_ | apply qr0 | apply qw0 | apply qs0) | exact HK.out)⟩

/-! ### spec_l1Once: function 88 -/
def spec_l1Once.f (s0_0 : List Int) (s0_1 : Int) (s0_2 : Int) (a1 : Int) : Option (Bool × Int × Int) := (spec_l1Below.f s0_0 s0_1 s0_2 a1).bind fun bt197 => (some ((bt197.1 == 0), bt197.2.1, bt197.2.2))
set_option maxHeartbeats 8000000 in
set_option maxRecDepth 100000 in
theorem spec_l1Once.calls (g : Nat) (s0_0 : List Int) (s0_1 : Int) (s0_2 : Int) (a1 : Int) (r1 : Bool) (r2 : Int) (r3 : Int) (w0 w : World) (hI : IsS236 w0 w g s0_0 s0_1 s0_2) (hB : Below w0.heap.size w0 w) (h : spec_l1Once.f s0_0 s0_1 s0_2 a1 = some (r1, r2, r3)) :
  Calls Try.prog 88 #[.pointer (some ⟨g, 0, none⟩), .int .i64 a1] w fun e w' => e = .returned (.bool r1) ∧ IsS236 w0 w' g s0_0 r2 r3 ∧ Below w0.heap.size w0 w' ∧ qq0 w w' g none := by
 have HI0 := Aside0.mk hI
 have HK := Aside0.mk (qq0.refl w g none)
 have HL := Aside0.mk hB.size
 clear hI
 have HW0 := Aside0.mk hB.size
 have HB := Aside0.mk hB
 clear hB
 have H : ((spec_l1Below.f s0_0 s0_1 s0_2 a1).bind fun bt197 => (some ((bt197.1 == 0), bt197.2.1, bt197.2.2))) = some (r1, r2, r3) := h
 clear h
 replace H := Option.bind_eq_some_iff.mp H
 obtain ⟨⟨t197, t198, t199⟩, A30, H⟩ := H
 replace H : (some ((t197 == 0), t198, t199)) = some (r1, r2, r3) := H
 have A3 := Aside0.mk A30
 clear A30
 simp only [Option.some.injEq, Prod.mk.injEq] at H
 obtain ⟨rfl, rfl, rfl⟩ := H
 go_enter Try.func88, Try.ntmps88
 go_wp2_with (first | ((with_reducible refine qo0 (f := 86) rfl ?_); refine qz0 (some 7) rfl rfl Try.func86 (by kernel_rfl) rfl #[.pointer (some ⟨g, 0, none⟩), .int .i64 a1] rfl (by (try simp only [List.map_toArray, List.map_cons, List.map_nil]); first | done | rfl | (simp only [List.length_drop, List.length_take]; rfl)) ?_; (with_reducible refine (spec_l1Below.calls g s0_0 s0_1 s0_2 a1 t197 t198 t199 w0 _ ?side1 ?side2 A3.out).mono ?_); (case side1 => repeat (first | (with_reducible first | exact HI0.out | apply IsS236.alloc | apply IsS236.drewN | apply IsS236.drew | apply IsS236.set_1 | apply IsS236.set_2) | exact HI0.out)); (case side2 => repeat (first | (with_reducible first | exact HB.out | apply qc0 | apply qa0 | apply qb0 | refine qg0 ?_ (IsS236.ge HI0.out)) | exact HB.out)); rintro e w4 ⟨rfl, hi, hb, hk⟩; refine ⟨_, rfl, ?_⟩; have n0_ := Aside0.mk (qq0.trans (by repeat (first | (with_reducible first | exact HK.out | apply qq0.set_ | apply qr0 | apply qw0 | apply qs0) | exact HK.out)) hk (.inl rfl)); have n1_ := Aside0.mk (hb); have n2_ := Aside0.mk (hi); clear HK; clear HB; clear HI0; have HK := n0_; have HB := n1_; have HI0 := n2_; clear n0_ n1_ n2_; (try clear hb); (try clear hb2); (try clear hk); (try clear hi)))
 go_ret
 exact ⟨by first | rfl | (simp [errW_none, errW_some] <;> rfl) | (simp [*, errW_none, errW_some] <;> rfl), by repeat (first | (with_reducible first | exact HI0.out | apply IsS236.alloc | apply IsS236.drewN | apply IsS236.drew | apply IsS236.set_1 | apply IsS236.set_2) | exact HI0.out), by repeat (first | (with_reducible first | exact HB.out | apply qc0 | apply qa0 | apply qb0 | refine qg0 ?_ (IsS236.ge HI0.out)) | exact HB.out), by repeat (first | (with_reducible first | exact HK.out | apply qq0.set_ | apply qr0 | apply qw0 | apply qs0) | exact HK.out)⟩

/-! ### spec_l1Spoil: function 85 -/
def spec_l1Spoil.f (s0_0 : List Int) (s0_1 : Int) (s0_2 : Int) (a1 : Int) (l2 : List Int) : Option (Int × Int × Int) := (spec_l1Once.f s0_0 s0_1 s0_2 40).bind fun bt200 => (if bt200.1 = true then ((spec_l1PickInt.f s0_0 bt200.2.1 bt200.2.2 l2).bind fun bt203 => (some (bt203.1, bt203.2.1, bt203.2.2))) else (some (a1, bt200.2.1, bt200.2.2)))
set_option maxHeartbeats 8000000 in
set_option maxRecDepth 100000 in
theorem spec_l1Spoil.calls (g : Nat) (s0_0 : List Int) (s0_1 : Int) (s0_2 : Int) (a1 : Int) (A2 : Option Addr) (c2 : Nat) (l2 : List Int) (r1 : Int) (r2 : Int) (r3 : Int) (w0 w : World) (hI : IsS236 w0 w g s0_0 s0_1 s0_2) (hB : Below w0.heap.size w0 w) (hr2 : Kd.C (Kd.int .i64) w A2 l2.length l2) (hc2 : l2.length ≤ c2) (hf2 : ∀ ad, A2 = some ad → 0 < l2.length → ad.block ≠ g) (h : spec_l1Spoil.f s0_0 s0_1 s0_2 a1 l2 = some (r1, r2, r3)) :
  Calls Try.prog 85 #[.pointer (some ⟨g, 0, none⟩), .int .i64 a1, .slice A2 l2.length c2] w fun e w' => e = .returned (.int .i64 r1) ∧ IsS236 w0 w' g s0_0 r2 r3 ∧ Below w0.heap.size w0 w' ∧ qq0 w w' g none := by
 have HR2 := Aside0.mk hr2
 have HC2 := Aside0.mk hc2
 clear hr2 hc2
 have HI0 := Aside0.mk hI
 have HK := Aside0.mk (qq0.refl w g none)
 have HL := Aside0.mk hB.size
 clear hI
 have HW0 := Aside0.mk hB.size
 have HB := Aside0.mk hB
 clear hB
 have H : ((spec_l1Once.f s0_0 s0_1 s0_2 40).bind fun bt200 => (if bt200.1 = true then ((spec_l1PickInt.f s0_0 bt200.2.1 bt200.2.2 l2).bind fun bt203 => (some (bt203.1, bt203.2.1, bt203.2.2))) else (some (a1, bt200.2.1, bt200.2.2)))) = some (r1, r2, r3) := h
 clear h
 replace H := Option.bind_eq_some_iff.mp H
 obtain ⟨⟨t200, t201, t202⟩, A40, H⟩ := H
 replace H : (if t200 = true then ((spec_l1PickInt.f s0_0 t201 t202 l2).bind fun bt203 => (some (bt203.1, bt203.2.1, bt203.2.2))) else (some (a1, t201, t202))) = some (r1, r2, r3) := H
 have A4 := Aside0.mk A40
 clear A40
 by_cases c5 : t200 = true
 ·subst c5
  have H1 : ((spec_l1PickInt.f s0_0 t201 t202 l2).bind fun bt203 => (some (bt203.1, bt203.2.1, bt203.2.2))) = some (r1, r2, r3) := by rw [if_pos rfl] at H; exact H
  clear H
  have H := H1
  clear H1
  replace H := Option.bind_eq_some_iff.mp H
  obtain ⟨⟨t203, t204, t205⟩, A60, H⟩ := H
  replace H : (some (t203, t204, t205)) = some (r1, r2, r3) := H
  have A6 := Aside0.mk A60
  clear A60
  simp only [Option.some.injEq, Prod.mk.injEq] at H
  obtain ⟨rfl, rfl, rfl⟩ := H
  go_enter Try.func85, Try.ntmps85
  go_wp2_with (first | ((with_reducible refine qo0 (f := 88) rfl ?_); refine qz0 (some 8) rfl rfl Try.func88 (by kernel_rfl) rfl #[.pointer (some ⟨g, 0, none⟩), .int .i64 40] rfl (by (try simp only [List.map_toArray, List.map_cons, List.map_nil]); first | done | rfl | (simp only [List.length_drop, List.length_take]; rfl)) ?_; (with_reducible refine (spec_l1Once.calls g s0_0 s0_1 s0_2 40 true t201 t202 w0 _ ?side1 ?side2 A4.out).mono ?_); (case side1 => repeat (first | (with_reducible first | exact HI0.out | apply IsS236.alloc | apply IsS236.drewN | apply IsS236.drew | apply IsS236.set_1 | apply IsS236.set_2) | exact HI0.out)); (case side2 => repeat (first | (with_reducible first | exact HB.out | apply qc0 | apply qa0 | apply qb0 | refine qg0 ?_ (IsS236.ge HI0.out)) | exact HB.out)); rintro e w7 ⟨rfl, hi, hb, hk⟩; refine ⟨_, rfl, ?_⟩; have n0_ := Aside0.mk (qq0.trans (by repeat (first | (with_reducible first | exact HK.out | apply qq0.set_ | apply qr0 | apply qw0 | apply qs0) | exact HK.out)) hk (.inl rfl)); have n1_ := Aside0.mk (hb); have n2_ := Aside0.mk (hi); clear HK; clear HB; clear HI0; have HK := n0_; have HB := n1_; have HI0 := n2_; clear n0_ n1_ n2_; (try clear hb); (try clear hb2); (try clear hk); (try clear hi)) | ((with_reducible refine qo0 (f := 87) rfl ?_); refine qz0 (some 11) rfl rfl Try.func87 (by kernel_rfl) rfl #[.pointer (some ⟨g, 0, none⟩), .slice A2 l2.length c2] rfl (by (try simp only [List.map_toArray, List.map_cons, List.map_nil]); first | done | rfl | (simp only [List.length_drop, List.length_take]; rfl)) ?_; (with_reducible refine (spec_l1PickInt.calls g s0_0 t201 t202 _ _ l2 t203 t204 t205 w0 _ ?side1 ?side2 ?side3 ?side4 ?side5 A6.out).mono ?_); (case side1 => repeat (first | (with_reducible first | exact HI0.out | apply IsS236.alloc | apply IsS236.drewN | apply IsS236.drew | apply IsS236.set_1 | apply IsS236.set_2) | exact HI0.out)); (case side2 => repeat (first | (with_reducible first | exact HB.out | apply qc0 | apply qa0 | apply qb0 | refine qg0 ?_ (IsS236.ge HI0.out)) | exact HB.out)); (case side3 => exact Kd.C_keep 0 HR2.out (by repeat (first | (with_reducible first | exact HK.out | apply qq0.set_ | apply qr0 | apply qw0 | apply qs0) | exact HK.out)) hf2); (case side4 => exact HC2.out); (case side5 => exact hf2); rintro e w8 ⟨rfl, hi, hb, hk⟩; refine ⟨_, rfl, ?_⟩; have n0_ := Aside0.mk (qq0.trans (by repeat (first | (with_reducible first | exact HK.out | apply qq0.set_ | apply qr0 | apply qw0 | apply qs0) | exact HK.out)) hk (.inl rfl)); have n1_ := Aside0.mk (hb); have n2_ := Aside0.mk (hi); clear HK; clear HB; clear HI0; have HK := n0_; have HB := n1_; have HI0 := n2_; clear n0_ n1_ n2_; (try clear hb); (try clear hb2); (try clear hk); (try clear hi)))
  go_ret
  exact ⟨by first | rfl | (simp [errW_none, errW_some] <;> rfl) | (simp [*, errW_none, errW_some] <;> rfl), by repeat (first | (with_reducible first | exact HI0.out | apply IsS236.alloc | apply IsS236.drewN | apply IsS236.drew | apply IsS236.set_1 | apply IsS236.set_2) | exact HI0.out), by repeat (first | (with_reducible first | exact HB.out | apply qc0 | apply qa0 | apply qb0 | refine qg0 ?_ (IsS236.ge HI0.out)) | exact HB.out), by repeat (first | (with_reducible first | exact HK.out | apply qq0.set_ | apply qr0 | apply qw0 | apply qs0) | exact HK.out)⟩
 replace c5 := Bool.eq_false_iff.mpr c5
 subst c5
 have H1 : (some (a1, t201, t202)) = some (r1, r2, r3) := by rw [if_neg (show ¬ (false = true) by decide)] at H; exact H
 clear H
 have H := H1
 clear H1
 simp only [Option.some.injEq, Prod.mk.injEq] at H
 obtain ⟨rfl, rfl, rfl⟩ := H
 go_enter Try.func85, Try.ntmps85
 go_wp2_with (first | ((with_reducible refine qo0 (f := 88) rfl ?_); refine qz0 (some 8) rfl rfl Try.func88 (by kernel_rfl) rfl #[.pointer (some ⟨g, 0, none⟩), .int .i64 40] rfl (by (try simp only [List.map_toArray, List.map_cons, List.map_nil]); first | done | rfl | (simp only [List.length_drop, List.length_take]; rfl)) ?_; (with_reducible refine (spec_l1Once.calls g s0_0 s0_1 s0_2 40 false t201 t202 w0 _ ?side1 ?side2 A4.out).mono ?_); (case side1 => repeat (first | (with_reducible first | exact HI0.out | apply IsS236.alloc | apply IsS236.drewN | apply IsS236.drew | apply IsS236.set_1 | apply IsS236.set_2) | exact HI0.out)); (case side2 => repeat (first | (with_reducible first | exact HB.out | apply qc0 | apply qa0 | apply qb0 | refine qg0 ?_ (IsS236.ge HI0.out)) | exact HB.out)); rintro e w9 ⟨rfl, hi, hb, hk⟩; refine ⟨_, rfl, ?_⟩; have n0_ := Aside0.mk (qq0.trans (by repeat (first | (with_reducible first | exact HK.out | apply qq0.set_ | apply qr0 | apply qw0 | apply qs0) | exact HK.out)) hk (.inl rfl)); have n1_ := Aside0.mk (hb); have n2_ := Aside0.mk (hi); clear HK; clear HB; clear HI0; have HK := n0_; have HB := n1_; have HI0 := n2_; clear n0_ n1_ n2_; (try clear hb); (try clear hb2); (try clear hk); (try clear hi)))
 go_ret
 exact ⟨by first | rfl | (simp [errW_none, errW_some] <;> rfl) | (simp [*, errW_none, errW_some] <;> rfl), by repeat (first | (with_reducible first | exact HI0.out | apply IsS236.alloc | apply IsS236.drewN | apply IsS236.drew | apply IsS236.set_1 | apply IsS236.set_2) | exact HI0.out), by repeat (first | (with_reducible first | exact HB.out | apply qc0 | apply qa0 | apply qb0 | refine qg0 ?_ (IsS236.ge HI0.out)) | exact HB.out), by repeat (first | (with_reducible first | exact HK.out | apply qq0.set_ | apply qr0 | apply qw0 | apply qs0) | exact HK.out)⟩

/-! ### spec_l1Pick: function 89 -/
def spec_l1Pick.f (s0_0 : List Int) (s0_1 : Int) (s0_2 : Int) (l1 : List ByteArray) : Option (ByteArray × Int × Int) := (spec_l1Below.f s0_0 s0_1 s0_2 (l1.length : Int)).bind fun bt206 => (if 0 ≤ bt206.1 then (if bt206.1 < (l1.length : Int) then (some (rdOf ByteArray.empty l1 bt206.1, bt206.2.1, bt206.2.2)) else (none)) else (none))
set_option maxHeartbeats 8000000 in
set_option maxRecDepth 100000 in
theorem spec_l1Pick.calls (g : Nat) (s0_0 : List Int) (s0_1 : Int) (s0_2 : Int) (A1 : Option Addr) (c1 : Nat) (l1 : List ByteArray) (r1 : ByteArray) (r2 : Int) (r3 : Int) (w0 w : World) (hI : IsS236 w0 w g s0_0 s0_1 s0_2) (hB : Below w0.heap.size w0 w) (hr1 : Kd.C Kd.string w A1 l1.length l1) (hc1 : l1.length ≤ c1) (hf1 : ∀ ad, A1 = some ad → 0 < l1.length → ad.block ≠ g) (h : spec_l1Pick.f s0_0 s0_1 s0_2 l1 = some (r1, r2, r3)) :
  Calls Try.prog 89 #[.pointer (some ⟨g, 0, none⟩), .slice A1 l1.length c1] w fun e w' => e = .returned (.string r1) ∧ IsS236 w0 w' g s0_0 r2 r3 ∧ Below w0.heap.size w0 w' ∧ qq0 w w' g none := by
 have HR1 := Aside0.mk hr1
 have HC1 := Aside0.mk hc1
 clear hr1 hc1
 have HI0 := Aside0.mk hI
 have HK := Aside0.mk (qq0.refl w g none)
 have HL := Aside0.mk hB.size
 clear hI
 have HW0 := Aside0.mk hB.size
 have HB := Aside0.mk hB
 clear hB
 have H : ((spec_l1Below.f s0_0 s0_1 s0_2 (l1.length : Int)).bind fun bt206 => (if 0 ≤ bt206.1 then (if bt206.1 < (l1.length : Int) then (some (rdOf ByteArray.empty l1 bt206.1, bt206.2.1, bt206.2.2)) else (none)) else (none))) = some (r1, r2, r3) := h
 clear h
 replace H := Option.bind_eq_some_iff.mp H
 obtain ⟨⟨t206, t207, t208⟩, A30, H⟩ := H
 replace H : (if 0 ≤ t206 then (if t206 < (l1.length : Int) then (some (rdOf ByteArray.empty l1 t206, t207, t208)) else (none)) else (none)) = some (r1, r2, r3) := H
 have A3 := Aside0.mk A30
 clear A30
 by_cases c4 : 0 ≤ t206
 case neg => rw [if_neg c4] at H; exact absurd H (by simp)
 rw [if_pos c4] at H
 have c4b0 : decide (0 ≤ t206) = true := decide_eq_true c4
 clear c4
 by_cases c5 : t206 < (l1.length : Int)
 case neg => rw [if_neg c5] at H; exact absurd H (by simp)
 rw [if_pos c5] at H
 have c5b0 : decide (t206 < (l1.length : Int)) = true := decide_eq_true c5
 clear c5
 simp only [Option.some.injEq, Prod.mk.injEq] at H
 obtain ⟨rfl, rfl, rfl⟩ := H
 go_enter Try.func89, Try.ntmps89
 go_wp2_with (first | ((with_reducible refine qo0 (f := 86) rfl ?_); refine qz0 (some 9) rfl rfl Try.func86 (by kernel_rfl) rfl #[.pointer (some ⟨g, 0, none⟩), .int .i64 (l1.length : Int)] rfl (by (try simp only [List.map_toArray, List.map_cons, List.map_nil]); first | done | rfl | (simp only [List.length_drop, List.length_take]; rfl)) ?_; (with_reducible refine (spec_l1Below.calls g s0_0 s0_1 s0_2 (l1.length : Int) t206 t207 t208 w0 _ ?side1 ?side2 A3.out).mono ?_); (case side1 => repeat (first | (with_reducible first | exact HI0.out | apply IsS236.alloc | apply IsS236.drewN | apply IsS236.drew | apply IsS236.set_1 | apply IsS236.set_2) | exact HI0.out)); (case side2 => repeat (first | (with_reducible first | exact HB.out | apply qc0 | apply qa0 | apply qb0 | refine qg0 ?_ (IsS236.ge HI0.out)) | exact HB.out)); rintro e w6 ⟨rfl, hi, hb, hk⟩; refine ⟨_, rfl, ?_⟩; have n0_ := Aside0.mk (qq0.trans (by repeat (first | (with_reducible first | exact HK.out | apply qq0.set_ | apply qr0 | apply qw0 | apply qs0) | exact HK.out)) hk (.inl rfl)); have n1_ := Aside0.mk (hb); have n2_ := Aside0.mk (hi); clear HK; clear HB; clear HI0; have HK := n0_; have HB := n1_; have HI0 := n2_; clear n0_ n1_ n2_; (try clear hb); (try clear hb2); (try clear hk); (try clear hi); have p209 : 0 ≤ (t206 : Int) := of_decide_eq_true (by first | (with_reducible assumption) | assumption); have q209 : t206 < (l1.length : Int) := of_decide_eq_true (by first | (with_reducible assumption) | assumption); obtain ⟨ad209, e209, hx209_0⟩ := Kd.at_string HR1.out t206 p209 q209; cases e209; replace hx209_0 := keep_cell HK.out hx209_0 (by first | (rw [add_block]; exact hf1 _ rfl (by omega)) | exact hf1 _ rfl (by omega) | exact hf1 ad209 rfl (by omega)); replace p209 := eq_true p209; replace q209 := eq_true q209))
 go_ret
 exact ⟨by first | rfl | (simp [errW_none, errW_some] <;> rfl) | (simp [*, errW_none, errW_some] <;> rfl), by repeat (first | (with_reducible first | exact HI0.out | apply IsS236.alloc | apply IsS236.drewN | apply IsS236.drew | apply IsS236.set_1 | apply IsS236.set_2) | exact HI0.out), by repeat (first | (with_reducible first | exact HB.out | apply qc0 | apply qa0 | apply qb0 | refine qg0 ?_ (IsS236.ge HI0.out)) | exact HB.out), by repeat (first | (with_reducible first | exact HK.out | apply qq0.set_ | apply qr0 | apply qw0 | apply qs0) | exact HK.out)⟩

/-! ### spec_l1In: function 92 -/
def spec_l1In.f (a0 : Int) (a1 : Int) (a2 : Int) : Option (Bool) := if a0 ≥ a1 then (some (decide (a0 ≤ a2))) else (some false)
set_option maxHeartbeats 8000000 in
set_option maxRecDepth 100000 in
theorem spec_l1In.calls (a0 : Int) (a1 : Int) (a2 : Int) (r : Bool) (w : World) (h : spec_l1In.f a0 a1 a2 = some r) :
  Calls Try.prog 92 #[.int .i64 a0, .int .i64 a1, .int .i64 a2] w fun e w' => e = .returned (.bool r) ∧ Drawn0 w w' := by
 have H : (if a0 ≥ a1 then (some (decide (a0 ≤ a2))) else (some false)) = some r := h
 clear h
 by_cases c4 : a0 ≥ a1
 ·rw [if_pos c4] at H
  have c4b0 : decide (a1 ≤ a0) = true := decide_eq_true c4
  clear c4
  obtain rfl := Option.some.inj H
  go_enter Try.func92, Try.ntmps92
  go_wp2
  go_ret
  exact ⟨by first | rfl | (simp; done) | (simp [*]; done), by repeat (first | exact Drawn0.refl _ | apply Drawn0.step)⟩
 rw [if_neg c4] at H
 have c4b0 : decide (a1 ≤ a0) = false := decide_eq_false c4
 clear c4
 obtain rfl := Option.some.inj H
 go_enter Try.func92, Try.ntmps92
 go_wp2
 go_ret
 exact ⟨by first | rfl | (simp; done) | (simp [*]; done), by repeat (first | exact Drawn0.refl _ | apply Drawn0.step)⟩

/-! ### spec_l1DrawName: function 217 -/
def spec_l1DrawName.f (s0_0 : List Int) (s0_1 : Int) (s0_2 : Int) : Option (ByteArray × Int × Int) := (spec_l1Pick.f s0_0 s0_1 s0_2 (([(⟨#[98, 97, 110, 107]⟩ : ByteArray), (⟨#[99, 97, 115, 104]⟩ : ByteArray), (⟨#[115, 97, 108, 101, 115]⟩ : ByteArray), (⟨#[115, 116, 111, 99, 107]⟩ : ByteArray), (⟨#[97]⟩ : ByteArray), (⟨#[98]⟩ : ByteArray), (⟨#[99, 45, 49]⟩ : ByteArray), (⟨#[100, 117, 101, 115]⟩ : ByteArray), (⟨#[116, 97, 120, 46, 100, 117, 101]⟩ : ByteArray), (⟨#[82, 50]⟩ : ByteArray), (⟨#[103, 111, 111, 100, 115]⟩ : ByteArray), (⟨#[119, 97, 103, 101, 115]⟩ : ByteArray), (⟨#[114, 101, 110, 116]⟩ : ByteArray), (⟨#[120, 95, 121]⟩ : ByteArray), (⟨#[112, 108, 97, 110, 116]⟩ : ByteArray)] : List ByteArray))).bind fun bt213 => (some (bt213.1, bt213.2.1, bt213.2.2))
set_option maxHeartbeats 8000000 in
set_option maxRecDepth 100000 in
theorem spec_l1DrawName.calls (g : Nat) (s0_0 : List Int) (s0_1 : Int) (s0_2 : Int) (r1 : ByteArray) (r2 : Int) (r3 : Int) (w0 w : World) (hI : IsS236 w0 w g s0_0 s0_1 s0_2) (hB : Below w0.heap.size w0 w) (h : spec_l1DrawName.f s0_0 s0_1 s0_2 = some (r1, r2, r3)) :
  Calls Try.prog 217 #[.pointer (some ⟨g, 0, none⟩)] w fun e w' => e = .returned (.string r1) ∧ IsS236 w0 w' g s0_0 r2 r3 ∧ Below w0.heap.size w0 w' ∧ qq0 w w' g none := by
 have HI0 := Aside0.mk hI
 have HK := Aside0.mk (qq0.refl w g none)
 have HL := Aside0.mk hB.size
 clear hI
 have HW0 := Aside0.mk hB.size
 have HB := Aside0.mk hB
 clear hB
 have H : ((spec_l1Pick.f s0_0 s0_1 s0_2 (([(⟨#[98, 97, 110, 107]⟩ : ByteArray), (⟨#[99, 97, 115, 104]⟩ : ByteArray), (⟨#[115, 97, 108, 101, 115]⟩ : ByteArray), (⟨#[115, 116, 111, 99, 107]⟩ : ByteArray), (⟨#[97]⟩ : ByteArray), (⟨#[98]⟩ : ByteArray), (⟨#[99, 45, 49]⟩ : ByteArray), (⟨#[100, 117, 101, 115]⟩ : ByteArray), (⟨#[116, 97, 120, 46, 100, 117, 101]⟩ : ByteArray), (⟨#[82, 50]⟩ : ByteArray), (⟨#[103, 111, 111, 100, 115]⟩ : ByteArray), (⟨#[119, 97, 103, 101, 115]⟩ : ByteArray), (⟨#[114, 101, 110, 116]⟩ : ByteArray), (⟨#[120, 95, 121]⟩ : ByteArray), (⟨#[112, 108, 97, 110, 116]⟩ : ByteArray)] : List ByteArray))).bind fun bt213 => (some (bt213.1, bt213.2.1, bt213.2.2))) = some (r1, r2, r3) := h
 clear h
 obtain ⟨y210, hy210⟩ : ∃ y_ : List ByteArray, y_ = (([(⟨#[98, 97, 110, 107]⟩ : ByteArray), (⟨#[99, 97, 115, 104]⟩ : ByteArray), (⟨#[115, 97, 108, 101, 115]⟩ : ByteArray), (⟨#[115, 116, 111, 99, 107]⟩ : ByteArray), (⟨#[97]⟩ : ByteArray), (⟨#[98]⟩ : ByteArray), (⟨#[99, 45, 49]⟩ : ByteArray), (⟨#[100, 117, 101, 115]⟩ : ByteArray), (⟨#[116, 97, 120, 46, 100, 117, 101]⟩ : ByteArray), (⟨#[82, 50]⟩ : ByteArray), (⟨#[103, 111, 111, 100, 115]⟩ : ByteArray), (⟨#[119, 97, 103, 101, 115]⟩ : ByteArray), (⟨#[114, 101, 110, 116]⟩ : ByteArray), (⟨#[120, 95, 121]⟩ : ByteArray), (⟨#[112, 108, 97, 110, 116]⟩ : ByteArray)] : List ByteArray)) := ⟨_, rfl⟩
 replace H : ((spec_l1Pick.f s0_0 s0_1 s0_2 y210).bind fun bt213 => (some (bt213.1, bt213.2.1, bt213.2.2))) = some (r1, r2, r3) := by first | (rw [hy210]; with_reducible exact H) | (have H2_ := (Option.bind_some _ _).symm.trans H; rw [hy210]; with_reducible exact H2_) | (have H2_ := (Option.bind_some _ _).symm.trans H; with_reducible exact H2_) | with_reducible exact H | (rw [hy210]; exact H) | exact H
 have Ny210 := Aside0.mk hy210
 clear hy210
 replace H := Option.bind_eq_some_iff.mp H
 obtain ⟨⟨t213, t214, t215⟩, A20, H⟩ := H
 replace H : (some (t213, t214, t215)) = some (r1, r2, r3) := H
 have A2 := Aside0.mk A20
 clear A20
 simp only [Option.some.injEq, Prod.mk.injEq] at H
 obtain ⟨rfl, rfl, rfl⟩ := H
 go_enter Try.func217, Try.ntmps217
 go_wp2_with (first | ((with_reducible refine gate_dst (N := 4) rfl ?_); refine Kd.R_lit Kd.string _ 9 ?hg (N := 4) ?hd (xs := ([(⟨#[98, 97, 110, 107]⟩ : ByteArray), (⟨#[99, 97, 115, 104]⟩ : ByteArray), (⟨#[115, 97, 108, 101, 115]⟩ : ByteArray), (⟨#[115, 116, 111, 99, 107]⟩ : ByteArray), (⟨#[97]⟩ : ByteArray), (⟨#[98]⟩ : ByteArray), (⟨#[99, 45, 49]⟩ : ByteArray), (⟨#[100, 117, 101, 115]⟩ : ByteArray), (⟨#[116, 97, 120, 46, 100, 117, 101]⟩ : ByteArray), (⟨#[82, 50]⟩ : ByteArray), (⟨#[103, 111, 111, 100, 115]⟩ : ByteArray), (⟨#[119, 97, 103, 101, 115]⟩ : ByteArray), (⟨#[114, 101, 110, 116]⟩ : ByteArray), (⟨#[120, 95, 121]⟩ : ByteArray), (⟨#[112, 108, 97, 110, 116]⟩ : ByteArray)] : List ByteArray)) (inner := [.string (⟨#[98, 97, 110, 107]⟩ : ByteArray), .string (⟨#[99, 97, 115, 104]⟩ : ByteArray), .string (⟨#[115, 97, 108, 101, 115]⟩ : ByteArray), .string (⟨#[115, 116, 111, 99, 107]⟩ : ByteArray), .string (⟨#[97]⟩ : ByteArray), .string (⟨#[98]⟩ : ByteArray), .string (⟨#[99, 45, 49]⟩ : ByteArray), .string (⟨#[100, 117, 101, 115]⟩ : ByteArray), .string (⟨#[116, 97, 120, 46, 100, 117, 101]⟩ : ByteArray), .string (⟨#[82, 50]⟩ : ByteArray), .string (⟨#[103, 111, 111, 100, 115]⟩ : ByteArray), .string (⟨#[119, 97, 103, 101, 115]⟩ : ByteArray), .string (⟨#[114, 101, 110, 116]⟩ : ByteArray), .string (⟨#[120, 95, 121]⟩ : ByteArray), .string (⟨#[112, 108, 97, 110, 116]⟩ : ByteArray)]) (ok := fun _ => True) (okp := fun _ => True) ?hr ?hp (fun _ hk => hk) trivial (Below.refl _ _) (Nat.le_refl _) (by simp) ?_; (case hd => rfl); (case hg => rfl); (case hr => first | (go_simp; done) | (go_simp; rfl)); (case hp => exact (Reps.one (show Kd.M Kd.string _ _ _ (⟨#[98, 97, 110, 107]⟩ : ByteArray) [.string (⟨#[98, 97, 110, 107]⟩ : ByteArray)] from rfl) (Reps.one (show Kd.M Kd.string _ _ _ (⟨#[99, 97, 115, 104]⟩ : ByteArray) [.string (⟨#[99, 97, 115, 104]⟩ : ByteArray)] from rfl) (Reps.one (show Kd.M Kd.string _ _ _ (⟨#[115, 97, 108, 101, 115]⟩ : ByteArray) [.string (⟨#[115, 97, 108, 101, 115]⟩ : ByteArray)] from rfl) (Reps.one (show Kd.M Kd.string _ _ _ (⟨#[115, 116, 111, 99, 107]⟩ : ByteArray) [.string (⟨#[115, 116, 111, 99, 107]⟩ : ByteArray)] from rfl) (Reps.one (show Kd.M Kd.string _ _ _ (⟨#[97]⟩ : ByteArray) [.string (⟨#[97]⟩ : ByteArray)] from rfl) (Reps.one (show Kd.M Kd.string _ _ _ (⟨#[98]⟩ : ByteArray) [.string (⟨#[98]⟩ : ByteArray)] from rfl) (Reps.one (show Kd.M Kd.string _ _ _ (⟨#[99, 45, 49]⟩ : ByteArray) [.string (⟨#[99, 45, 49]⟩ : ByteArray)] from rfl) (Reps.one (show Kd.M Kd.string _ _ _ (⟨#[100, 117, 101, 115]⟩ : ByteArray) [.string (⟨#[100, 117, 101, 115]⟩ : ByteArray)] from rfl) (Reps.one (show Kd.M Kd.string _ _ _ (⟨#[116, 97, 120, 46, 100, 117, 101]⟩ : ByteArray) [.string (⟨#[116, 97, 120, 46, 100, 117, 101]⟩ : ByteArray)] from rfl) (Reps.one (show Kd.M Kd.string _ _ _ (⟨#[82, 50]⟩ : ByteArray) [.string (⟨#[82, 50]⟩ : ByteArray)] from rfl) (Reps.one (show Kd.M Kd.string _ _ _ (⟨#[103, 111, 111, 100, 115]⟩ : ByteArray) [.string (⟨#[103, 111, 111, 100, 115]⟩ : ByteArray)] from rfl) (Reps.one (show Kd.M Kd.string _ _ _ (⟨#[119, 97, 103, 101, 115]⟩ : ByteArray) [.string (⟨#[119, 97, 103, 101, 115]⟩ : ByteArray)] from rfl) (Reps.one (show Kd.M Kd.string _ _ _ (⟨#[114, 101, 110, 116]⟩ : ByteArray) [.string (⟨#[114, 101, 110, 116]⟩ : ByteArray)] from rfl) (Reps.one (show Kd.M Kd.string _ _ _ (⟨#[120, 95, 121]⟩ : ByteArray) [.string (⟨#[120, 95, 121]⟩ : ByteArray)] from rfl) (Reps.one (show Kd.M Kd.string _ _ _ (⟨#[112, 108, 97, 110, 116]⟩ : ByteArray) [.string (⟨#[112, 108, 97, 110, 116]⟩ : ByteArray)] from rfl) (Reps.none _ _))))))))))))))))); intro v211 w3 ho4 hb hg_ hnew_; clear hg_ hnew_; (first | rw [← Ny210.out] at ho4 | (simp only [Int.reduceToNat] at ho4; rw [← Ny210.out] at ho4)); have n0_ := Aside0.mk (Kd.qb1 ho4 (keep_size (w := w) (g := g) (row := none) (by repeat (first | (with_reducible first | exact HK.out | apply qq0.set_ | apply qr0 | apply qw0 | apply qs0) | exact HK.out)))); have n1_ := Aside0.mk (IsS236.below (by repeat (first | (with_reducible first | exact HI0.out | apply IsS236.alloc | apply IsS236.drewN | apply IsS236.drew | apply IsS236.set_1 | apply IsS236.set_2) | exact HI0.out)) hb); have n2_ := Aside0.mk (qq0.trans (by repeat (first | (with_reducible first | exact HK.out | apply qq0.set_ | apply qr0 | apply qw0 | apply qs0) | exact HK.out)) (qq0.of_below hb g none) (.inl rfl)); have n3_ := Aside0.mk (qk0 (by repeat (first | (with_reducible first | exact HB.out | apply qc0 | apply qa0 | apply qb0 | refine qg0 ?_ (IsS236.ge HI0.out)) | exact HB.out)) hb); clear HI0; clear HK; clear HB; have HO212 := n0_; have HI0 := n1_; have HK := n2_; have HB := n3_; clear n0_ n1_ n2_ n3_; clear hb ho4; obtain ⟨Ao5, co5, eo5⟩ := Kd.qe1 HO212.out; subst eo5) | ((with_reducible refine qo0 (f := 89) rfl ?_); refine qz0 (some 5) rfl rfl Try.func89 (by kernel_rfl) rfl #[.pointer (some ⟨g, 0, none⟩), .slice Ao5 y210.length co5] rfl (by (try simp only [List.map_toArray, List.map_cons, List.map_nil]); first | done | rfl | (simp only [List.length_drop, List.length_take]; rfl)) ?_; (with_reducible refine (spec_l1Pick.calls g s0_0 s0_1 s0_2 _ _ y210 t213 t214 t215 w0 _ ?side1 ?side2 ?side3 ?side4 ?side5 A2.out).mono ?_); (case side1 => repeat (first | (with_reducible first | exact HI0.out | apply IsS236.alloc | apply IsS236.drewN | apply IsS236.drew | apply IsS236.set_1 | apply IsS236.set_2) | exact HI0.out)); (case side2 => repeat (first | (with_reducible first | exact HB.out | apply qc0 | apply qa0 | apply qb0 | refine qg0 ?_ (IsS236.ge HI0.out)) | exact HB.out)); (case side3 => repeat (first | exact (Kd.qf0 HO212.out).2.2 | (with_reducible refine Kd.qu0 ?_ _) | (with_reducible refine Kd.qt0 ?_ _) | (with_reducible refine Kd.qy0 ?_))); (case side4 => exact (Kd.qf0 HO212.out).2.1); (case side5 => exact far_slice (IsS236.own_ne HI0.out HO212.out (by decide))); rintro e w6 ⟨rfl, hi, hb, hk⟩; refine ⟨_, rfl, ?_⟩; have n0_ := Aside0.mk (Kd.qv0 (Kd.qf1 (IsS236.apart (show IsS236 w0 _ g s0_0 s0_1 s0_2 from by repeat (first | (with_reducible first | exact HI0.out | apply IsS236.alloc | apply IsS236.drewN | apply IsS236.drew | apply IsS236.set_1 | apply IsS236.set_2) | exact HI0.out)) (by (with_reducible repeat (first | apply Kd.qi0 | apply Kd.qh0 | apply Kd.qj0)); exact HO212.out) (by decide)) hk (fun _ h => h.2)) (fun _ h => h.1)); have n1_ := Aside0.mk (qq0.trans (by repeat (first | (with_reducible first | exact HK.out | apply qq0.set_ | apply qr0 | apply qw0 | apply qs0) | exact HK.out)) hk (.inl rfl)); have n2_ := Aside0.mk (hb); have n3_ := Aside0.mk (hi); clear HO212; clear HK; clear HB; clear HI0; have HO212 := n0_; have HK := n1_; have HB := n2_; have HI0 := n3_; clear n0_ n1_ n2_ n3_; (try clear hb); (try clear hb2); (try clear hk); (try clear hi)))
 go_ret
 exact ⟨by first | rfl | (simp [errW_none, errW_some] <;> rfl) | (simp [*, errW_none, errW_some] <;> rfl), by repeat (first | (with_reducible first | exact HI0.out | apply IsS236.alloc | apply IsS236.drewN | apply IsS236.drew | apply IsS236.set_1 | apply IsS236.set_2) | exact HI0.out), by repeat (first | (with_reducible first | exact HB.out | apply qc0 | apply qa0 | apply qb0 | refine qg0 ?_ (IsS236.ge HI0.out)) | exact HB.out), by repeat (first | (with_reducible first | exact HK.out | apply qq0.set_ | apply qr0 | apply qw0 | apply qs0) | exact HK.out)⟩

end Go.Proofs.Ytinibkdbfpafcaa.PFnMoved
