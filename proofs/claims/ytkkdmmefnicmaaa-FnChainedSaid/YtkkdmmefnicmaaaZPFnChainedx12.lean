/- Lines by a program (a changed copy of the kit's print: this repo's wip/tools): Go functions as Lean functions, and proofs that the calls answer so. -/
import Derived.Test.YtkkdmmefnicmaaaZPFnChainedx0
import Derived.Test.YtkkdmmefnicmaaaZPFnChainedx1
import Derived.Test.YtkkdmmefnicmaaaZPFnChainedx2
import Derived.Test.YtkkdmmefnicmaaaZPFnChainedx10
import Derived.Test.YtkkdmmefnicmaaaZPFnChainedx11
namespace Go.Proofs.Ytkkdmmefnicmaaa.PFnChained
open Go.RowKit Go.Proofs.YtkkdmmefnicmaaaW.PrintWords Go.Proofs.YtkkdmmefnicmaaaW.PrintLast Go.Proofs.YtkkdmmefnicmaaaW.PrintMore
/-- Closing blocks told once. -/
theorem z12_0 {P : Prop} (h : P := by repeat (first | (with_reducible first | exact HB.out | apply qj0 | apply qh0 | apply qi0 | refine qk0 ?_ GE459.out) | exact HB.out)) : P := h
theorem z12_1 {P : Prop} (h : P := by repeat (first | (with_reducible first | exact HB.out | apply qj0 | apply qh0 | apply qi0) | exact HB.out)) : P := h
theorem z12_2 {P : Prop} (h : P := by (try simp only [List.map_toArray, List.map_cons, List.map_nil]); first | done | rfl | (simp only [List.length_drop, List.length_take]; rfl)) : P := h
theorem z12_3 {P : Prop} (h : P := by (with_reducible repeat (first | refine qe0 ?_ _ | refine qf0 ?_ | refine qd0 ?_ _)); refine qo0 (cs := #[.int .i64 ((rd_T98 t448 (ji28)).f0), .int .i64 ((rd_T98 t448 (ji28)).f1), .string ((rd_T98 t448 (ji28)).f2), .slice A458_3 ((rd_T98 t448 (ji28)).f3).length c458_3]) ?_ 3 _ rfl; (with_reducible repeat (first | refine qe0 ?_ _ | refine qf0 ?_ | refine qd0 ?_ _)); exact BK459.out) : P := h
theorem z12_4 {P : Prop} (h : P := by (with_reducible repeat (first | apply Kd.N_alloc | apply Kd.qv1 | apply Kd.qf2)); exact HO_3.out) : P := h
theorem z12_5 {P : Prop} (h : P := by first | (with_reducible assumption) | assumption) : P := h
theorem z12_6 {P : Prop} (h : P := by (with_reducible repeat (first | refine qe0 ?_ _ | refine qf0 ?_ | refine qd0 ?_ _)); exact BK459.out) : P := h
theorem z12_7 {P : Prop} (h : P := by (with_reducible repeat (first | apply Kd.V_alloc | apply Kd.V_drewN | apply Kd.V_drew)); exact (Kd.V_mono (Kd.V_far (p := ⟨gb459, 3, none⟩) (Kd.V_far (p := ⟨gb459, 2, none⟩) (Kd.V_far (p := ⟨gb459, 1, none⟩) (Kd.V_far (p := ⟨gb459, 0, none⟩) (Kd.V_mono HL458_3.out (fun k_ hk => (⟨hk, hk.2⟩ : _ ∧ k_ ≠ gb459))) (fun _ hk => hk.2) (.int .i64 ((rd_T98 t448 (ji28)).f0))) (fun _ hk => hk.2) (.int .i64 ((rd_T98 t448 (ji28)).f1))) (fun _ hk => hk.2) (.string ((rd_T98 t448 (ji28)).f2))) (fun _ hk => hk.2) (.slice A458_3 ((rd_T98 t448 (ji28)).f3).length c458_3)) (fun _ h_ => h_.1))) : P := h
theorem z12_8 {P : Prop} (h : P := by (with_reducible repeat (first | apply Kd.N_alloc | apply Kd.qv1 | apply Kd.qf2)); exact Kd.qe2 (Kd.N_far (p := ⟨gb459, 3, none⟩) (Kd.qe2 HO_3.out (fun k_ hk => (⟨hk, hk.1⟩ : _ ∧ k_ ≠ gb459))) (fun _ hk => hk.2) (.slice Ao41 y463.length co41)) (fun _ hk => ⟨hk.1.2, hk.1.1⟩)) : P := h
theorem z12_9 {P : Prop} (h : P := by (with_reducible repeat (first | apply Kd.qr0 | apply Kd.qp0 | apply Kd.qu0)); exact Kd.qm0 (Kd.R_far (p := ⟨gb459, 3, none⟩) (Kd.qi1 HO465.out BK459.out (by decide)) (fun _ hk => hk.2) (.slice Ao41 y463.length co41)) (fun _ hk => trivial)) : P := h
theorem z12_10 {P : Prop} (h : P := by kernel_rfl) : P := h
theorem z12_11 {P : Prop} (h : P := by (with_reducible repeat (first | apply Kd.V_alloc | apply Kd.V_drewN | apply Kd.V_drew)); exact Kd.V_mono (Kd.V_far (p := ⟨gb459, 3, none⟩) (Kd.V_mono HL458_3.out (fun k_ hk => (⟨hk, hk.1.2⟩ : _ ∧ k_ ≠ gb459))) (fun _ hk => hk.2) (.slice Ao41 y463.length co41)) (fun _ hk => ⟨hk.1.1.1, ⟨hk.1.2, hk.1.1.2⟩⟩)) : P := h
theorem z12_12 {P : Prop} (h : P := by repeat (first | exact (Kd.C_below HR0.out HB.out) | (with_reducible refine Kd.qx1 ?_ _) | (with_reducible refine Kd.qw1 ?_ _) | (with_reducible refine Kd.qg2 ?_))) : P := h
theorem z12_13 {P : Prop} (h : P := by (with_reducible repeat (first | apply Kd.N_alloc | apply Kd.qv1 | apply Kd.qf2)); exact HO450.out) : P := h
theorem z12_14 {P : Prop} (h : P := by first | rfl | (simp [errW_none, errW_some] <;> rfl) | (simp only [← hji28]; first | rfl | (simp [errW_none, errW_some] <;> rfl)) | (simp [*, errW_none, errW_some] <;> rfl)) : P := h
theorem z12_15 {P : Prop} (h : P := by rw [← hq_]; exact (by repeat (first | (with_reducible first | exact HB.out | apply qj0 | apply qh0 | apply qi0 | refine qk0 ?_ GE459.out) | exact HB.out))) : P := h
theorem z12_16 {P : Prop} (h : P := by rw [← hq_]; exact (by (with_reducible repeat (first | apply Kd.V_alloc | apply Kd.V_drewN | apply Kd.V_drew)); exact Kd.V_mono HL458_3.out (fun _ hk => ⟨hk.2.1, ⟨hk.1, hk.2.2⟩⟩))) : P := h
theorem z12_17 {P : Prop} (h : P := by rw [← hq_]; exact (by (with_reducible repeat (first | apply Kd.N_alloc | apply Kd.qv1 | apply Kd.qf2)); exact HO_3.out)) : P := h
theorem z12_19 {P : Prop} (h : P := by repeat (first | exact HR0.out | (with_reducible refine Kd.qx1 ?_ _) | (with_reducible refine Kd.qw1 ?_ _) | (with_reducible refine Kd.qg2 ?_))) : P := h
theorem z12_20 {P : Prop} (h : P := by (with_reducible repeat (first | apply Kd.qr0 | apply Kd.qp0 | apply Kd.qu0)); exact HO_460003.out) : P := h
theorem z12_21 {P : Prop} (h : P := by have := HJ5.out; have := HJ22.out; first | omega | exact Nat.le_refl _) : P := h
theorem z12_22 {P : Prop} (h : P := by rw [← hq_]; exact (by (with_reducible repeat (first | refine qe0 ?_ _ | refine qf0 ?_ | refine qd0 ?_ _)); exact BK459.out)) : P := h
theorem z12_23 {P : Prop} (h : P := by (with_reducible repeat (first | apply Kd.qr0 | apply Kd.qp0 | apply Kd.qu0)); exact HO465.out) : P := h
theorem z12_24 {P : Prop} (h : P := by repeat (first | (with_reducible exact HR458_3.out) | (with_reducible refine Kd.qx1 ?_ _) | (with_reducible refine Kd.qw1 ?_ _) | (with_reducible refine Kd.qg2 ?_) | exact HR458_3.out)) : P := h
theorem z12_25 {P : Prop} (h : P := by rw [← hq_]; exact (by (with_reducible repeat (first | apply Kd.qr0 | apply Kd.qp0 | apply Kd.qu0)); exact HO465.out)) : P := h
theorem z12_26 {P : Prop} (h : P := by repeat (first | exact (Kd.N_reads' HO450.out).2.2 | (with_reducible refine Kd.qx1 ?_ _) | (with_reducible refine Kd.qw1 ?_ _) | (with_reducible refine Kd.qg2 ?_))) : P := h
theorem z12_27 {P : Prop} (h : P := by repeat (first | exact (Kd.N_reads' HO454.out).2.2 | (with_reducible refine Kd.qx1 ?_ _) | (with_reducible refine Kd.qw1 ?_ _) | (with_reducible refine Kd.qg2 ?_))) : P := h
theorem z12_28 {P : Prop} (h : P := by rw [hg]; exact (qv0 (by repeat (first | (with_reducible first | exact HB.out | apply qj0 | apply qh0 | apply qi0) | exact HB.out)))) : P := h
theorem z12_29 {P : Prop} (h : P := by (with_reducible repeat (first | apply Kd.N_alloc | apply Kd.qv1 | apply Kd.qf2)); exact HO454.out) : P := h
theorem z12_30 {P : Prop} (h : P := by first | rfl | (simp [errW_none, errW_some] <;> rfl) | (simp [*, errW_none, errW_some] <;> rfl)) : P := h
theorem z12_31 {P : Prop} (h : P := by first | (go_simp; done) | (go_simp; rfl)) : P := h
theorem z12_32 {P : Prop} (h : P := by (with_reducible repeat (first | apply Kd.N_alloc | apply Kd.qv1 | apply Kd.qf2)); exact Kd.qe2 HO450.out (fun _ hk => trivial)) : P := h
theorem z12_33 {P : Prop} (h : P := by first | rfl | (simp; done) | (simp [*]; done)) : P := h
/-- Runs of true and false, by turns. -/
def rb12l : Bool → List Nat → List Bool
 | _, [] => []
 | b, n :: r => List.replicate n b ++ rb12l (!b) r
def rb12 (l : List Nat) : Array Bool := (rb12l true l).toArray
attribute [local go_sem] max2_int min2_int max_two min_two max_three min_three max_four min_four   -- for this text's walks alone
set_option linter.unusedVariables false
set_option linter.unusedSimpArgs false

/-! ### laws_FnChained: function 11 -/
mutual
def laws_FnChained.j0 : Nat → List Int → List (S98) → Int → Bool → Option (Bool)
 | 0, _, _, _, _ => none
 | k + 1, x0, x3, x4, x26 => if x26 = true then (some false) else (if (x3.length : Int) = 0 then (laws_FnChained.j1 k x0 x3 x4 true) else (laws_FnChained.j1 k x0 x3 x4 (x4 == 0)))
def laws_FnChained.j1 : Nat → List Int → List (S98) → Int → Bool → Option (Bool)
 | 0, _, _, _, _ => none
 | k + 1, x0, x3, x4, x33 => if x33 = true then (some true) else ((laws_at.f x0 2).bind fun t457 => (if (x3.length : Int) = 0 then (none) else (if 0 ≤ (Int.tmod t457 (x3.length : Int)) then (if (Int.tmod t457 (x3.length : Int)) < (x3.length : Int) then ((some (([] : List (S100)) : List (S100))).bind fun y460 => (if y460.length + ((rd_T98 x3 (Int.tmod t457 (x3.length : Int))).f3).length < 3518437208883 then ((some (y460 ++ ((rd_T98 x3 (Int.tmod t457 (x3.length : Int))).f3) : List (S100))).bind fun y463 => ((laws_at.f x0 3).bind fun t466 => ((laws_at.f x0 4).bind fun t467 => (if (Int.tmod t467 5) = 0 then (laws_FnChained.j2 k x3 x4 (Int.tmod t457 (x3.length : Int)) (wrap64 (((rd_T98 x3 (Int.tmod t457 (x3.length : Int))).f0) + (wrap64 (1 + t466)))) ((rd_T98 x3 (Int.tmod t457 (x3.length : Int))).f1) ((rd_T98 x3 (Int.tmod t457 (x3.length : Int))).f2) y463) else (if (Int.tmod t467 5) = 1 then (laws_FnChained.j2 k x3 x4 (Int.tmod t457 (x3.length : Int)) ((rd_T98 x3 (Int.tmod t457 (x3.length : Int))).f0) (wrap64 (((rd_T98 x3 (Int.tmod t457 (x3.length : Int))).f1) + (wrap64 (1 + t466)))) ((rd_T98 x3 (Int.tmod t457 (x3.length : Int))).f2) y463) else (if (Int.tmod t467 5) = 2 then (if (((rd_T98 x3 (Int.tmod t457 (x3.length : Int))).f2).size : Int) = 0 then (some true) else ((laws_at.f x0 5).bind fun t468 => (if 0 ≤ (Int.tmod t468 (((rd_T98 x3 (Int.tmod t457 (x3.length : Int))).f2).size : Int)) then (if (Int.tmod t468 (((rd_T98 x3 (Int.tmod t457 (x3.length : Int))).f2).size : Int)) ≤ (((rd_T98 x3 (Int.tmod t457 (x3.length : Int))).f2).size : Int) then (if (Int.tmod t468 (((rd_T98 x3 (Int.tmod t457 (x3.length : Int))).f2).size : Int)) < (((rd_T98 x3 (Int.tmod t457 (x3.length : Int))).f2).size : Int) then ((laws_at.f x0 6).bind fun t469 => ((some (([Go.bits .xor .u8 (bt ((rd_T98 x3 (Int.tmod t457 (x3.length : Int))).f2) (Int.tmod t468 (((rd_T98 x3 (Int.tmod t457 (x3.length : Int))).f2).size : Int))) ((wrap64 (1 + (Int.tmod t469 200))) % 256)] : List Int) : List Int)).bind fun y470 => (if (((rd_T98 x3 (Int.tmod t457 (x3.length : Int))).f2).extract 0 ((Int.tmod t468 (((rd_T98 x3 (Int.tmod t457 (x3.length : Int))).f2).size : Int)) : Int).toNat).size + (strOfNums y470).size ≤ 9223372036854775807 then (if 0 ≤ (wrap64 ((Int.tmod t468 (((rd_T98 x3 (Int.tmod t457 (x3.length : Int))).f2).size : Int)) + 1)) then (if (wrap64 ((Int.tmod t468 (((rd_T98 x3 (Int.tmod t457 (x3.length : Int))).f2).size : Int)) + 1)) ≤ (((rd_T98 x3 (Int.tmod t457 (x3.length : Int))).f2).size : Int) then (if ((((rd_T98 x3 (Int.tmod t457 (x3.length : Int))).f2).extract 0 ((Int.tmod t468 (((rd_T98 x3 (Int.tmod t457 (x3.length : Int))).f2).size : Int)) : Int).toNat) ++ (strOfNums y470)).size + (((rd_T98 x3 (Int.tmod t457 (x3.length : Int))).f2).extract ((wrap64 ((Int.tmod t468 (((rd_T98 x3 (Int.tmod t457 (x3.length : Int))).f2).size : Int)) + 1)) : Int).toNat ((rd_T98 x3 (Int.tmod t457 (x3.length : Int))).f2).size).size ≤ 9223372036854775807 then (laws_FnChained.j2 k x3 x4 (Int.tmod t457 (x3.length : Int)) ((rd_T98 x3 (Int.tmod t457 (x3.length : Int))).f0) ((rd_T98 x3 (Int.tmod t457 (x3.length : Int))).f1) (((((rd_T98 x3 (Int.tmod t457 (x3.length : Int))).f2).extract 0 ((Int.tmod t468 (((rd_T98 x3 (Int.tmod t457 (x3.length : Int))).f2).size : Int)) : Int).toNat) ++ (strOfNums y470)) ++ (((rd_T98 x3 (Int.tmod t457 (x3.length : Int))).f2).extract ((wrap64 ((Int.tmod t468 (((rd_T98 x3 (Int.tmod t457 (x3.length : Int))).f2).size : Int)) + 1)) : Int).toNat ((rd_T98 x3 (Int.tmod t457 (x3.length : Int))).f2).size)) y463) else (none)) else (none)) else (none)) else (none)))) else (none)) else (none)) else (none)))) else (if (Int.tmod t467 5) = 3 then (if (y463.length : Int) = 0 then (some true) else ((laws_at.f x0 5).bind fun t473 => (if 0 ≤ (Int.tmod t473 (y463.length : Int)) then (if (Int.tmod t473 (y463.length : Int)) < (y463.length : Int) then (laws_FnChained.j2 k x3 x4 (Int.tmod t457 (x3.length : Int)) ((rd_T98 x3 (Int.tmod t457 (x3.length : Int))).f0) ((rd_T98 x3 (Int.tmod t457 (x3.length : Int))).f1) ((rd_T98 x3 (Int.tmod t457 (x3.length : Int))).f2) (y463.set ((Int.tmod t473 (y463.length : Int)) : Int).toNat (⟨(rd_T100 y463 (Int.tmod t473 (y463.length : Int))).f0, (rd_T100 y463 (Int.tmod t473 (y463.length : Int))).f1, (rd_T100 y463 (Int.tmod t473 (y463.length : Int))).f2, wrap64 (((rd_T100 y463 (Int.tmod t473 (y463.length : Int))).f3) + (wrap64 (1 + t466))), (rd_T100 y463 (Int.tmod t473 (y463.length : Int))).f4⟩ : S100))) else (none)) else (none)))) else (if (Int.tmod t467 5) = 4 then (if (y463.length : Int) = 0 then (some true) else ((laws_at.f x0 5).bind fun t476 => (if 0 ≤ (Int.tmod t476 (y463.length : Int)) then (if (Int.tmod t476 (y463.length : Int)) < (y463.length : Int) then (laws_FnChained.j2 k x3 x4 (Int.tmod t457 (x3.length : Int)) ((rd_T98 x3 (Int.tmod t457 (x3.length : Int))).f0) ((rd_T98 x3 (Int.tmod t457 (x3.length : Int))).f1) ((rd_T98 x3 (Int.tmod t457 (x3.length : Int))).f2) (y463.set ((Int.tmod t476 (y463.length : Int)) : Int).toNat (⟨wrap64 (((rd_T100 y463 (Int.tmod t476 (y463.length : Int))).f0) + (wrap64 (1 + t466))), (rd_T100 y463 (Int.tmod t476 (y463.length : Int))).f1, (rd_T100 y463 (Int.tmod t476 (y463.length : Int))).f2, (rd_T100 y463 (Int.tmod t476 (y463.length : Int))).f3, (rd_T100 y463 (Int.tmod t476 (y463.length : Int))).f4⟩ : S100))) else (none)) else (none)))) else (laws_FnChained.j2 k x3 x4 (Int.tmod t457 (x3.length : Int)) ((rd_T98 x3 (Int.tmod t457 (x3.length : Int))).f0) ((rd_T98 x3 (Int.tmod t457 (x3.length : Int))).f1) ((rd_T98 x3 (Int.tmod t457 (x3.length : Int))).f2) y463))))))))) else (none))) else (none)) else (none))))
def laws_FnChained.j2 : Nat → List (S98) → Int → Int → Int → Int → ByteArray → List (S100) → Option (Bool)
 | 0, _, _, _, _, _, _, _ => none
 | k + 1, x3, x4, x5, x460000, x460001, x460002, x460003 => (some (([] : List (S98)) : List (S98))).bind fun y479 => (if y479.length + x3.length < 2513169434916 then ((some (y479 ++ x3 : List (S98))).bind fun y482 => (if 0 ≤ x5 then (if x5 < (y482.length : Int) then ((impl_HeadOf.f k (y482.set (x5 : Int).toNat (⟨x460000, x460001, x460002, x460003⟩ : S98))).bind fun t486 => (some (t486 != x4))) else (none)) else (none))) else (none))
end
def laws_FnChained.f (k : Nat) (l0 : List Int) : Option (Bool) := (laws_big.f l0).bind fun t447 => (if t447 = true then (some true) else ((spec_DrawHeadOf.f k l0).bind fun t448 => ((impl_HeadOf.f k t448).bind fun t451 => ((impl_HeadOf.f k (([] : List (S98)))).bind fun t455 => (if t455 = 1 then ((spec_HeadOf.f k t448).bind fun t456 => (laws_FnChained.j0 k l0 t448 t451 (t451 != t456))) else (laws_FnChained.j0 k l0 t448 t451 true))))))
theorem laws_FnChained.mono_l : ∀ k, (∀ y0 y1 y2 y3, LeO (laws_FnChained.j0 k y0 y1 y2 y3) (laws_FnChained.j0 (k + 1) y0 y1 y2 y3)) ∧ (∀ y0 y1 y2 y3, LeO (laws_FnChained.j1 k y0 y1 y2 y3) (laws_FnChained.j1 (k + 1) y0 y1 y2 y3)) ∧ (∀ y0 y1 y2 y3 y4 y5 y6, LeO (laws_FnChained.j2 k y0 y1 y2 y3 y4 y5 y6) (laws_FnChained.j2 (k + 1) y0 y1 y2 y3 y4 y5 y6))
 | 0 => ⟨fun _ _ _ _ r h => by simp [laws_FnChained.j0] at h, fun _ _ _ _ r h => by simp [laws_FnChained.j1] at h, fun _ _ _ _ _ _ _ r h => by simp [laws_FnChained.j2] at h⟩
 | k + 1 => by
  obtain ⟨ih0, ih1, ih2⟩ := laws_FnChained.mono_l k
  refine ⟨?_, ?_, ?_⟩
  ·intro y0 y1 y2 y3
   unfold laws_FnChained.j0
   repeat' first
   | (with_reducible exact ih0 _ _ _ _)
   | (with_reducible exact ih1 _ _ _ _)
   | (with_reducible exact ih2 _ _ _ _ _ _ _)
   | (with_reducible exact impl_HeadOf.mono _ _)
   | (with_reducible exact spec_DrawHeadOf.mono _ _)
   | (with_reducible exact spec_HeadOf.mono _ _)
   | (with_reducible exact LeO.refl _)
   | (with_reducible exact LeO.none _)
   | (with_reducible refine LeO.ite ?_ ?_)
   | (with_reducible refine LeO.bind ?_ (fun _ => ?_))
   | exact ih0 _ _ _ _
   | exact ih1 _ _ _ _
   | exact ih2 _ _ _ _ _ _ _
   | exact impl_HeadOf.mono _ _
   | exact spec_DrawHeadOf.mono _ _
   | exact spec_HeadOf.mono _ _
   | exact LeO.none _
   | refine LeO.ite ?_ ?_
   | refine LeO.bind ?_ (fun _ => ?_)
  ·intro y0 y1 y2 y3
   unfold laws_FnChained.j1
   repeat' first
   | (with_reducible exact ih0 _ _ _ _)
   | (with_reducible exact ih1 _ _ _ _)
   | (with_reducible exact ih2 _ _ _ _ _ _ _)
   | (with_reducible exact impl_HeadOf.mono _ _)
   | (with_reducible exact spec_DrawHeadOf.mono _ _)
   | (with_reducible exact spec_HeadOf.mono _ _)
   | (with_reducible exact LeO.refl _)
   | (with_reducible exact LeO.none _)
   | (with_reducible refine LeO.ite ?_ ?_)
   | (with_reducible refine LeO.bind ?_ (fun _ => ?_))
   | exact ih0 _ _ _ _
   | exact ih1 _ _ _ _
   | exact ih2 _ _ _ _ _ _ _
   | exact impl_HeadOf.mono _ _
   | exact spec_DrawHeadOf.mono _ _
   | exact spec_HeadOf.mono _ _
   | exact LeO.none _
   | refine LeO.ite ?_ ?_
   | refine LeO.bind ?_ (fun _ => ?_)
  ·intro y0 y1 y2 y3 y4 y5 y6
   unfold laws_FnChained.j2
   repeat' first
   | (with_reducible exact ih0 _ _ _ _)
   | (with_reducible exact ih1 _ _ _ _)
   | (with_reducible exact ih2 _ _ _ _ _ _ _)
   | (with_reducible exact impl_HeadOf.mono _ _)
   | (with_reducible exact spec_DrawHeadOf.mono _ _)
   | (with_reducible exact spec_HeadOf.mono _ _)
   | (with_reducible exact LeO.refl _)
   | (with_reducible exact LeO.none _)
   | (with_reducible refine LeO.ite ?_ ?_)
   | (with_reducible refine LeO.bind ?_ (fun _ => ?_))
   | exact ih0 _ _ _ _
   | exact ih1 _ _ _ _
   | exact ih2 _ _ _ _ _ _ _
   | exact impl_HeadOf.mono _ _
   | exact spec_DrawHeadOf.mono _ _
   | exact spec_HeadOf.mono _ _
   | exact LeO.none _
   | refine LeO.ite ?_ ?_
   | refine LeO.bind ?_ (fun _ => ?_)
theorem laws_FnChained.mono : ∀ a0 k, LeO (laws_FnChained.f k a0) (laws_FnChained.f (k + 1) a0) := by
 intro a0 k
 obtain ⟨ih0, ih1, ih2⟩ := laws_FnChained.mono_l k
 unfold laws_FnChained.f
 repeat' first
   | (with_reducible exact ih0 _ _ _ _)
   | (with_reducible exact ih1 _ _ _ _)
   | (with_reducible exact ih2 _ _ _ _ _ _ _)
   | (with_reducible exact impl_HeadOf.mono _ _)
   | (with_reducible exact spec_DrawHeadOf.mono _ _)
   | (with_reducible exact spec_HeadOf.mono _ _)
   | (with_reducible exact LeO.refl _)
   | (with_reducible exact LeO.none _)
   | (with_reducible refine LeO.ite ?_ ?_)
   | (with_reducible refine LeO.bind ?_ (fun _ => ?_))
   | exact ih0 _ _ _ _
   | exact ih1 _ _ _ _
   | exact ih2 _ _ _ _ _ _ _
   | exact impl_HeadOf.mono _ _
   | exact spec_DrawHeadOf.mono _ _
   | exact spec_HeadOf.mono _ _
   | exact LeO.none _
   | refine LeO.ite ?_ ?_
   | refine LeO.bind ?_ (fun _ => ?_)
def laws_FnChained.T22 : Bool × List (List Nat × List Nat) := (true, [([], []), ([0], [0]), ([], []), ([1, 2], [1, 2]), ([], []), ([4], [4]), ([], []), ([5, 6], [5, 6]), ([], []), ([8], [8]), ([9], [9]), ([10], [10]), ([11], [11]), ([7, 12], [7, 12]), ([13], [13]), ([14], [14]), ([3, 15], [3, 15]), ([], []), ([17], [17]), ([], []), ([19], [19]), ([18, 20], [18, 20]), ([16, 21], [16, 21]), ([0, 1, 2, 3, 4, 5, 6, 7, 8, 9, 10, 11, 12, 13, 14, 15, 16, 17, 18, 19, 20, 21, 22], []), ([23, 22, 9, 0, 1, 2, 3, 4, 5, 6, 7, 8, 9, 10, 11, 12, 13, 14, 15, 16, 17, 18, 19, 20, 21, 22], [22, 23])])
def laws_FnChained.B22 : List Nat := [0, 1, 0, 7, 0, 16, 0, 112, 0, 256, 768, 1792, 3840, 8176, 16368, 32752, 65535, 0, 131072, 0, 524288, 1966080, 4194303, 8388607, 16777215]
theorem laws_FnChained.tab22 : rtab .any (opsOf Try.f11 22) = laws_FnChained.T22 := by kernel_rfl
theorem laws_FnChained.bits22 : waitsOk laws_FnChained.T22.2 laws_FnChained.B22 = true := by kernel_rfl
def laws_FnChained.T27 : Bool × List (List Nat × List Nat) := (true, [([], []), ([0], [0]), ([], []), ([], []), ([3], [3]), ([], []), ([4, 5], [4, 5]), ([6], [6]), ([7], [7]), ([], []), ([8, 9], [8, 9]), ([1, 2, 0, 1, 2, 3, 4, 5, 6, 7, 8, 9, 10], [1, 2]), ([11, 0, 1, 2, 3, 4, 5, 6, 7, 8, 9, 10], [11]), ([12, 10, 0, 1, 2, 3, 4, 5, 6, 7, 8, 9, 10], [10, 12])])
def laws_FnChained.B27 : List Nat := [0, 1, 0, 0, 8, 0, 56, 120, 248, 0, 1016, 2047, 4095, 8191]
theorem laws_FnChained.tab27 : rtab .any (opsOf Try.f11 27) = laws_FnChained.T27 := by kernel_rfl
theorem laws_FnChained.bits27 : waitsOk laws_FnChained.T27.2 laws_FnChained.B27 = true := by kernel_rfl
def laws_FnChained.T32 : Bool × List (List Nat × List Nat) := (true, [([], []), ([0], [0]), ([], []), ([], []), ([3], [3]), ([], []), ([4, 5], [4, 5]), ([6], [6]), ([7], [7]), ([], []), ([8, 9], [8, 9]), ([1, 2, 0, 1, 2, 3, 4, 5, 6, 7, 8, 9, 10], [1, 2]), ([11, 0, 1, 2, 3, 4, 5, 6, 7, 8, 9, 10], [11]), ([12, 10, 0, 1, 2, 3, 4, 5, 6, 7, 8, 9, 10], [10, 12])])
def laws_FnChained.B32 : List Nat := [0, 1, 0, 0, 8, 0, 56, 120, 248, 0, 1016, 2047, 4095, 8191]
theorem laws_FnChained.tab32 : rtab .any (opsOf Try.f11 32) = laws_FnChained.T32 := by kernel_rfl
theorem laws_FnChained.bits32 : waitsOk laws_FnChained.T32.2 laws_FnChained.B32 = true := by kernel_rfl
set_option maxHeartbeats 8000000 in
set_option maxRecDepth 100000 in
theorem laws_FnChained.calls (k : Nat) (A0 : Option Addr) (c0 : Nat) (l0 : List Int) (r : Bool) (w : World) (hr0 : Kd.C (Kd.int .u8) w A0 l0.length l0) (hc0 : l0.length ≤ c0) (h : laws_FnChained.f k l0 = some r) :
  Calls Try.prog 11 #[.slice A0 l0.length c0] w fun e w' => e = .returned (.bool r) ∧ Below w.heap.size w w' := by
 have hu98 := Try.underlying98
 have HR0 := Aside0.mk hr0
 have HC0 := Aside0.mk hc0
 clear hr0 hc0
 have HB := Aside0.mk (Below.refl w.heap.size w)
 have H : ((laws_big.f l0).bind fun t447 => (if t447 = true then (some true) else ((spec_DrawHeadOf.f k l0).bind fun t448 => ((impl_HeadOf.f k t448).bind fun t451 => ((impl_HeadOf.f k (([] : List (S98)))).bind fun t455 => (if t455 = 1 then ((spec_HeadOf.f k t448).bind fun t456 => (laws_FnChained.j0 k l0 t448 t451 (t451 != t456))) else (laws_FnChained.j0 k l0 t448 t451 true))))))) = some r := h
 clear h
 replace H := Option.bind_eq_some_iff.mp H
 obtain ⟨t447, A20, H⟩ := H
 replace H : (if t447 = true then (some true) else ((spec_DrawHeadOf.f k l0).bind fun t448 => ((impl_HeadOf.f k t448).bind fun t451 => ((impl_HeadOf.f k (([] : List (S98)))).bind fun t455 => (if t455 = 1 then ((spec_HeadOf.f k t448).bind fun t456 => (laws_FnChained.j0 k l0 t448 t451 (t451 != t456))) else (laws_FnChained.j0 k l0 t448 t451 true)))))) = some r := H
 have A2 := Aside0.mk A20
 clear A20
 by_cases c3 : t447 = true
 ·subst c3
  have H1 : (some true) = some r := by rw [if_pos rfl] at H; exact H
  clear H
  have H := H1
  clear H1
  obtain rfl := Option.some.inj H
  go_enter Try.func11, Try.ntmps11
  go_wp2_with (first | ((with_reducible refine qg0 (f := 12) rfl ?_); refine qt0 (some 13) rfl rfl Try.func12 z12_10 rfl #[.slice A0 l0.length c0] rfl z12_2 ?_; (with_reducible refine (laws_big.calls _ _ l0 true _ ?side1 ?side2 A2.out).mono ?_); (case side1 => exact z12_19); (case side2 => exact HC0.out); rintro e w' ⟨rfl, ⟨nd, rfl⟩⟩; refine ⟨_, rfl, ?_⟩))
  go_ret
  exact ⟨z12_30, z12_1⟩
 replace c3 := Bool.eq_false_iff.mpr c3
 subst c3
 have H1 : ((spec_DrawHeadOf.f k l0).bind fun t448 => ((impl_HeadOf.f k t448).bind fun t451 => ((impl_HeadOf.f k (([] : List (S98)))).bind fun t455 => (if t455 = 1 then ((spec_HeadOf.f k t448).bind fun t456 => (laws_FnChained.j0 k l0 t448 t451 (t451 != t456))) else (laws_FnChained.j0 k l0 t448 t451 true))))) = some r := by rw [if_neg (show ¬ (false = true) by decide)] at H; exact H
 clear H
 have H := H1
 clear H1
 replace H := Option.bind_eq_some_iff.mp H
 obtain ⟨t448, A40, H⟩ := H
 replace H : ((impl_HeadOf.f k t448).bind fun t451 => ((impl_HeadOf.f k (([] : List (S98)))).bind fun t455 => (if t455 = 1 then ((spec_HeadOf.f k t448).bind fun t456 => (laws_FnChained.j0 k l0 t448 t451 (t451 != t456))) else (laws_FnChained.j0 k l0 t448 t451 true)))) = some r := H
 have A4 := Aside0.mk A40
 clear A40
 replace H := Option.bind_eq_some_iff.mp H
 obtain ⟨t451, A50, H⟩ := H
 replace H : ((impl_HeadOf.f k (([] : List (S98)))).bind fun t455 => (if t455 = 1 then ((spec_HeadOf.f k t448).bind fun t456 => (laws_FnChained.j0 k l0 t448 t451 (t451 != t456))) else (laws_FnChained.j0 k l0 t448 t451 true))) = some r := H
 have A5 := Aside0.mk A50
 clear A50
 have HC6 := Aside0.mk H
 clear H
 go_enter Try.func11, Try.ntmps11
 go_upto_region 5 with (first | ((with_reducible refine qg0 (f := 12) rfl ?_); refine qt0 (some 13) rfl rfl Try.func12 z12_10 rfl #[.slice A0 l0.length c0] rfl z12_2 ?_; (with_reducible refine (laws_big.calls _ _ l0 false _ ?side1 ?side2 A2.out).mono ?_); (case side1 => exact z12_19); (case side2 => exact HC0.out); rintro e w' ⟨rfl, ⟨nd, rfl⟩⟩; refine ⟨_, rfl, ?_⟩) | ((with_reducible refine qg0 (f := 50) rfl ?_); refine qt0 (some 15) rfl rfl Try.func50 z12_10 rfl #[.slice A0 l0.length c0] rfl z12_2 ?_; (with_reducible refine (spec_DrawHeadOf.calls k _ _ l0 t448 _ ?side1 ?side2 A4.out).mono ?_); (case side1 => exact z12_19); (case side2 => exact HC0.out); rintro e w7 ⟨v449, rfl, ho0, hb⟩; refine ⟨_, rfl, ?_⟩; have n0_ := Aside0.mk (Kd.N_lower (Kd.qe2 (ok' := fun k_ => True) (Kd.S_N (Kd.S_bound ho0)) (fun k_ hk_ => trivial)) (qv0 z12_1)); have n1_ := Aside0.mk (ql0 z12_1 hb); clear HB; have HO450 := n0_; have HB := n1_; clear n0_ n1_; (try clear hb); (try clear hb2); (try clear hk); (try clear hi); (try clear ho0); obtain ⟨Ao8, co8, eo8⟩ := Kd.N_slice HO450.out; subst eo8) | ((with_reducible refine qg0 (f := 51) rfl ?_); refine qt0 (some 17) rfl rfl Try.func51 z12_10 rfl #[.slice Ao8 t448.length co8] rfl z12_2 ?_; (with_reducible refine (impl_HeadOf.calls k _ _ t448 t451 _ ?side1 ?side2 A5.out).mono ?_); (case side1 => exact z12_26); (case side2 => exact (Kd.N_reads' HO450.out).2.1); rintro e w9 ⟨rfl, hb⟩; refine ⟨_, rfl, ?_⟩; have n0_ := Aside0.mk (Kd.N_below z12_13 hb); have n1_ := Aside0.mk (ql0 z12_1 hb); clear HO450; clear HB; have HO450 := n0_; have HB := n1_; clear n0_ n1_; (try clear hb); (try clear hb2); (try clear hk); (try clear hi)))
 (try simp only [Act.put, List.setIfInBounds_toArray, List.set_cons_zero, List.set_cons_succ])
 go_cut [26] (fun v26 wc => ∃ (kq : Nat) (x26_5 : Bool), v26 = .bool x26_5 ∧ Aside0 (laws_FnChained.j0 kq l0 t448 t451 x26_5 = some r) ∧ Aside0 (kq ≤ k) ∧ Aside0 (Kd.N k98 98 wc w.heap.size (fun _ => True) (.slice Ao8 t448.length co8) t448) ∧ Aside0 (Below w.heap.size w wc))
 case first =>
  have H := HC6.out
  clear HC6
  obtain ⟨y452, hy452⟩ : ∃ y_ : List (S98), y_ = (([] : List (S98))) := ⟨_, rfl⟩
  replace H : ((impl_HeadOf.f k y452).bind fun t455 => (if t455 = 1 then ((spec_HeadOf.f k t448).bind fun t456 => (laws_FnChained.j0 k l0 t448 t451 (t451 != t456))) else (laws_FnChained.j0 k l0 t448 t451 true))) = some r := by first | (rw [hy452]; with_reducible exact H) | (have H2_ := (Option.bind_some _ _).symm.trans H; rw [hy452]; with_reducible exact H2_) | (have H2_ := (Option.bind_some _ _).symm.trans H; with_reducible exact H2_) | with_reducible exact H | (rw [hy452]; exact H) | exact H
  have Ny452 := Aside0.mk hy452
  clear hy452
  replace H := Option.bind_eq_some_iff.mp H
  obtain ⟨t455, A100, H⟩ := H
  replace H : (if t455 = 1 then ((spec_HeadOf.f k t448).bind fun t456 => (laws_FnChained.j0 k l0 t448 t451 (t451 != t456))) else (laws_FnChained.j0 k l0 t448 t451 true)) = some r := H
  have A10 := Aside0.mk A100
  clear A100
  by_cases c11 : t455 = 1
  ·rw [if_pos c11] at H
   have c11b0 : (t455 == 1) = true := beq_iff_eq.mpr c11
   have c11b1 : (t455 != 1) = false := bne_eq_false_iff_eq.mpr c11
   clear c11
   (first | rw [c11b0] | (simp only [i64_w, i32_w]; rw [c11b0]) | skip)
   replace H := Option.bind_eq_some_iff.mp H
   obtain ⟨t456, A120, H⟩ := H
   replace H : (laws_FnChained.j0 k l0 t448 t451 (t451 != t456)) = some r := H
   have A12 := Aside0.mk A120
   clear A120
   have H' := Aside0.mk H
   clear H
   go_wp2_with (first | ((with_reducible refine qa1 (N := 18) rfl ?_); refine Kd.N_lit k98 _ 98 ?hg (N' := 18) ?hd (xs := ([] : List (S98))) (inner := []) (ok := (fun k_ => some k_ ≠ (.slice Ao8 t448.length co8 : Value).ownBlock)) (okp := (fun k_ => some k_ ≠ (.slice Ao8 t448.length co8 : Value).ownBlock)) ?hr ?hp (fun _ hk => hk) ((show ∀ k_, w9.heap.size ≤ k_ → (fun k_ => some k_ ≠ (.slice Ao8 t448.length co8 : Value).ownBlock) k_ from fun k_ hk => Kd.fresh' (Kd.N_lt z12_13) k_ hk) _ (Nat.le_refl _)) (Below.refl _ _) (Nat.le_refl _) (by simp) ?_; (case hd => rfl); (case hg => rfl); (case hr => exact z12_31); (case hp => exact (Reps.none _ _)); intro v453 w13 ho14 hb hg_ hnew_; clear hg_ hnew_; (first | rw [← Ny452.out] at ho14 | (simp only [Int.reduceToNat] at ho14; rw [← Ny452.out] at ho14)); have n0_ := Aside0.mk (Kd.N_elder' z12_13 (Kd.N_base ho14) hb); have n1_ := Aside0.mk (Kd.N_lower ho14 (qv0 z12_1)); have n2_ := Aside0.mk (ql0 z12_1 hb); clear HO450; clear HB; have HO450 := n0_; have HO454 := n1_; have HB := n2_; clear n0_ n1_ n2_; clear hb ho14; obtain ⟨Ao15, co15, eo15⟩ := Kd.N_slice HO454.out; subst eo15) | ((with_reducible refine qg0 (f := 51) rfl ?_); refine qt0 (some 19) rfl rfl Try.func51 z12_10 rfl #[.slice Ao15 y452.length co15] rfl z12_2 ?_; (with_reducible refine (impl_HeadOf.calls k _ _ y452 t455 _ ?side1 ?side2 A10.out).mono ?_); (case side1 => exact z12_27); (case side2 => exact (Kd.N_reads' HO454.out).2.1); rintro e w16 ⟨rfl, hb⟩; refine ⟨_, rfl, ?_⟩; have n0_ := Aside0.mk (Kd.N_below z12_13 hb); have n1_ := Aside0.mk (Kd.N_below z12_29 hb); have n2_ := Aside0.mk (ql0 z12_1 hb); clear HO450; clear HO454; clear HB; have HO450 := n0_; have HO454 := n1_; have HB := n2_; clear n0_ n1_ n2_; (try clear hb); (try clear hb2); (try clear hk); (try clear hi)) | (go_at_call 52; (with_reducible refine (spec_HeadOf.calls k _ _ t448 t456 _ ?side1 ?side2 A12.out).mono ?_); (case side1 => exact z12_26); (case side2 => exact (Kd.N_reads' HO450.out).2.1); rintro e w17 ⟨rfl, hb⟩; have n0_ := Aside0.mk (Kd.N_below z12_13 hb); have n1_ := Aside0.mk (Kd.N_below z12_29 hb); have n2_ := Aside0.mk (ql0 z12_1 hb); clear HO450; clear HO454; clear HB; have HO450 := n0_; have HO454 := n1_; have HB := n2_; clear n0_ n1_ n2_; (try clear hb); (try clear hb2); (try clear hk); (try clear hi)))
   go_meet
   case rel => exact ⟨_, ((t451 != t456)), z12_33, H', ⟨by first | omega | exact Nat.le_refl _⟩, ⟨z12_32⟩, ⟨z12_1⟩⟩
  rw [if_neg c11] at H
  have c11b0 : (t455 == 1) = false := beq_eq_false_iff_ne.mpr c11
  have c11b1 : (t455 != 1) = true := bne_iff_ne.mpr c11
  (first | rw [c11b0] | (simp only [i64_w, i32_w]; rw [c11b0]) | skip)
  have H' := Aside0.mk H
  clear H
  go_wp2_with (first | ((with_reducible refine qa1 (N := 18) rfl ?_); refine Kd.N_lit k98 _ 98 ?hg (N' := 18) ?hd (xs := ([] : List (S98))) (inner := []) (ok := (fun k_ => some k_ ≠ (.slice Ao8 t448.length co8 : Value).ownBlock)) (okp := (fun k_ => some k_ ≠ (.slice Ao8 t448.length co8 : Value).ownBlock)) ?hr ?hp (fun _ hk => hk) ((show ∀ k_, w9.heap.size ≤ k_ → (fun k_ => some k_ ≠ (.slice Ao8 t448.length co8 : Value).ownBlock) k_ from fun k_ hk => Kd.fresh' (Kd.N_lt z12_13) k_ hk) _ (Nat.le_refl _)) (Below.refl _ _) (Nat.le_refl _) (by simp) ?_; (case hd => rfl); (case hg => rfl); (case hr => exact z12_31); (case hp => exact (Reps.none _ _)); intro v453 w18 ho19 hb hg_ hnew_; clear hg_ hnew_; (first | rw [← Ny452.out] at ho19 | (simp only [Int.reduceToNat] at ho19; rw [← Ny452.out] at ho19)); have n0_ := Aside0.mk (Kd.N_elder' z12_13 (Kd.N_base ho19) hb); have n1_ := Aside0.mk (Kd.N_lower ho19 (qv0 z12_1)); have n2_ := Aside0.mk (ql0 z12_1 hb); clear HO450; clear HB; have HO450 := n0_; have HO454 := n1_; have HB := n2_; clear n0_ n1_ n2_; clear hb ho19; obtain ⟨Ao20, co20, eo20⟩ := Kd.N_slice HO454.out; subst eo20) | ((with_reducible refine qg0 (f := 51) rfl ?_); refine qt0 (some 19) rfl rfl Try.func51 z12_10 rfl #[.slice Ao20 y452.length co20] rfl z12_2 ?_; (with_reducible refine (impl_HeadOf.calls k _ _ y452 t455 _ ?side1 ?side2 A10.out).mono ?_); (case side1 => exact z12_27); (case side2 => exact (Kd.N_reads' HO454.out).2.1); rintro e w21 ⟨rfl, hb⟩; refine ⟨_, rfl, ?_⟩; have n0_ := Aside0.mk (Kd.N_below z12_13 hb); have n1_ := Aside0.mk (Kd.N_below z12_29 hb); have n2_ := Aside0.mk (ql0 z12_1 hb); clear HO450; clear HO454; clear HB; have HO450 := n0_; have HO454 := n1_; have HB := n2_; clear n0_ n1_ n2_; (try clear hb); (try clear hb2); (try clear hk); (try clear hi)))
  go_meet
  case rel => exact ⟨_, (true), z12_33, H', ⟨by first | omega | exact Nat.le_refl _⟩, ⟨z12_32⟩, ⟨z12_1⟩⟩
 case rest =>
  clear HC6
  try clear c1
  try clear p2
  try clear c3
  try clear c5
  try clear c11
  try clear c11b0
  try clear c11b1
  try clear c12
  obtain ⟨kq, x26_5, rfl, HA, HJ5, HO_3, HB⟩ := hcut
  cases kq with
  | zero => exact absurd HA.out (by simp [laws_FnChained.j0])
  | succ kj5 =>
   have H := HA.out
   clear HA
   simp only [laws_FnChained.j0] at H
   by_cases c22 : x26_5 = true
   ·subst c22
    have H1 : (some false) = some r := by rw [if_pos rfl] at H; exact H
    clear H
    have H := H1
    clear H1
    obtain rfl := Option.some.inj H
    go_wp2
    go_ret
    exact ⟨z12_30, z12_1⟩
   replace c22 := Bool.eq_false_iff.mpr c22
   subst c22
   have H1 : (if (t448.length : Int) = 0 then (laws_FnChained.j1 kj5 l0 t448 t451 true) else (laws_FnChained.j1 kj5 l0 t448 t451 (t451 == 0))) = some r := by rw [if_neg (show ¬ (false = true) by decide)] at H; exact H
   clear H
   have H := H1
   clear H1
   have HC23 := Aside0.mk H
   clear H
   go_upto_region 7 with (fail)
   go_cut [33] (fun v33 wc => ∃ (kq : Nat) (x33_22 : Bool), v33 = .bool x33_22 ∧ Aside0 (laws_FnChained.j1 kq l0 t448 t451 x33_22 = some r) ∧ Aside0 (kq ≤ kj5) ∧ Aside0 (Kd.N k98 98 wc w.heap.size (fun _ => True) (.slice Ao8 t448.length co8) t448) ∧ Aside0 (Below w.heap.size w wc))
   case first =>
    have H := HC23.out
    clear HC23
    by_cases c24 : (t448.length : Int) = 0
    ·rw [if_pos c24] at H
     have c24b0 : ((t448.length : Int) == 0) = true := beq_iff_eq.mpr c24
     have c24b1 : ((t448.length : Int) != 0) = false := bne_eq_false_iff_eq.mpr c24
     clear c24
     (first | rw [c24b0] | (simp only [i64_w, i32_w]; rw [c24b0]) | skip)
     have H' := Aside0.mk H
     clear H
     go_wp2
     go_meet
     case rel => exact ⟨_, (true), z12_33, H', ⟨by have := HJ5.out; first | omega | exact Nat.le_refl _⟩, ⟨z12_4⟩, ⟨z12_1⟩⟩
    rw [if_neg c24] at H
    have c24b0 : ((t448.length : Int) == 0) = false := beq_eq_false_iff_ne.mpr c24
    have c24b1 : ((t448.length : Int) != 0) = true := bne_iff_ne.mpr c24
    have c24b2 : ¬ (t448 = []) := fun h_ => c24 (by rw [h_]; rfl)
    (first | rw [c24b0] | (simp only [i64_w, i32_w]; rw [c24b0]) | skip)
    have H' := Aside0.mk H
    clear H
    go_wp2
    go_meet
    case rel => exact ⟨_, ((t451 == 0)), z12_33, H', ⟨by have := HJ5.out; first | omega | exact Nat.le_refl _⟩, ⟨z12_4⟩, ⟨z12_1⟩⟩
   case rest =>
    clear HC23
    try clear c1
    try clear c2
    try clear p2
    try clear c3
    try clear c5
    try clear c11
    try clear c11b0
    try clear c11b1
    try clear c12
    try clear c22
    try clear c24
    try clear c24b0
    try clear c24b1
    try clear c24b2
    try clear p2
    obtain ⟨kq, x33_22, rfl, HA, HJ22, HO_3, HB⟩ := hcut
    cases kq with
    | zero => exact absurd HA.out (by simp [laws_FnChained.j1])
    | succ kj22 =>
     have H := HA.out
     clear HA
     simp only [laws_FnChained.j1] at H
     by_cases c25 : x33_22 = true
     ·subst c25
      have H1 : (some true) = some r := by rw [if_pos rfl] at H; exact H
      clear H
      have H := H1
      clear H1
      obtain rfl := Option.some.inj H
      go_wp2
      go_ret
      exact ⟨z12_30, z12_1⟩
     replace c25 := Bool.eq_false_iff.mpr c25
     subst c25
     have H1 : ((laws_at.f l0 2).bind fun t457 => (if (t448.length : Int) = 0 then (none) else (if 0 ≤ (Int.tmod t457 (t448.length : Int)) then (if (Int.tmod t457 (t448.length : Int)) < (t448.length : Int) then ((some (([] : List (S100)) : List (S100))).bind fun y460 => (if y460.length + ((rd_T98 t448 (Int.tmod t457 (t448.length : Int))).f3).length < 3518437208883 then ((some (y460 ++ ((rd_T98 t448 (Int.tmod t457 (t448.length : Int))).f3) : List (S100))).bind fun y463 => ((laws_at.f l0 3).bind fun t466 => ((laws_at.f l0 4).bind fun t467 => (if (Int.tmod t467 5) = 0 then (laws_FnChained.j2 kj22 t448 t451 (Int.tmod t457 (t448.length : Int)) (wrap64 (((rd_T98 t448 (Int.tmod t457 (t448.length : Int))).f0) + (wrap64 (1 + t466)))) ((rd_T98 t448 (Int.tmod t457 (t448.length : Int))).f1) ((rd_T98 t448 (Int.tmod t457 (t448.length : Int))).f2) y463) else (if (Int.tmod t467 5) = 1 then (laws_FnChained.j2 kj22 t448 t451 (Int.tmod t457 (t448.length : Int)) ((rd_T98 t448 (Int.tmod t457 (t448.length : Int))).f0) (wrap64 (((rd_T98 t448 (Int.tmod t457 (t448.length : Int))).f1) + (wrap64 (1 + t466)))) ((rd_T98 t448 (Int.tmod t457 (t448.length : Int))).f2) y463) else (if (Int.tmod t467 5) = 2 then (if (((rd_T98 t448 (Int.tmod t457 (t448.length : Int))).f2).size : Int) = 0 then (some true) else ((laws_at.f l0 5).bind fun t468 => (if 0 ≤ (Int.tmod t468 (((rd_T98 t448 (Int.tmod t457 (t448.length : Int))).f2).size : Int)) then (if (Int.tmod t468 (((rd_T98 t448 (Int.tmod t457 (t448.length : Int))).f2).size : Int)) ≤ (((rd_T98 t448 (Int.tmod t457 (t448.length : Int))).f2).size : Int) then (if (Int.tmod t468 (((rd_T98 t448 (Int.tmod t457 (t448.length : Int))).f2).size : Int)) < (((rd_T98 t448 (Int.tmod t457 (t448.length : Int))).f2).size : Int) then ((laws_at.f l0 6).bind fun t469 => ((some (([Go.bits .xor .u8 (bt ((rd_T98 t448 (Int.tmod t457 (t448.length : Int))).f2) (Int.tmod t468 (((rd_T98 t448 (Int.tmod t457 (t448.length : Int))).f2).size : Int))) ((wrap64 (1 + (Int.tmod t469 200))) % 256)] : List Int) : List Int)).bind fun y470 => (if (((rd_T98 t448 (Int.tmod t457 (t448.length : Int))).f2).extract 0 ((Int.tmod t468 (((rd_T98 t448 (Int.tmod t457 (t448.length : Int))).f2).size : Int)) : Int).toNat).size + (strOfNums y470).size ≤ 9223372036854775807 then (if 0 ≤ (wrap64 ((Int.tmod t468 (((rd_T98 t448 (Int.tmod t457 (t448.length : Int))).f2).size : Int)) + 1)) then (if (wrap64 ((Int.tmod t468 (((rd_T98 t448 (Int.tmod t457 (t448.length : Int))).f2).size : Int)) + 1)) ≤ (((rd_T98 t448 (Int.tmod t457 (t448.length : Int))).f2).size : Int) then (if ((((rd_T98 t448 (Int.tmod t457 (t448.length : Int))).f2).extract 0 ((Int.tmod t468 (((rd_T98 t448 (Int.tmod t457 (t448.length : Int))).f2).size : Int)) : Int).toNat) ++ (strOfNums y470)).size + (((rd_T98 t448 (Int.tmod t457 (t448.length : Int))).f2).extract ((wrap64 ((Int.tmod t468 (((rd_T98 t448 (Int.tmod t457 (t448.length : Int))).f2).size : Int)) + 1)) : Int).toNat ((rd_T98 t448 (Int.tmod t457 (t448.length : Int))).f2).size).size ≤ 9223372036854775807 then (laws_FnChained.j2 kj22 t448 t451 (Int.tmod t457 (t448.length : Int)) ((rd_T98 t448 (Int.tmod t457 (t448.length : Int))).f0) ((rd_T98 t448 (Int.tmod t457 (t448.length : Int))).f1) (((((rd_T98 t448 (Int.tmod t457 (t448.length : Int))).f2).extract 0 ((Int.tmod t468 (((rd_T98 t448 (Int.tmod t457 (t448.length : Int))).f2).size : Int)) : Int).toNat) ++ (strOfNums y470)) ++ (((rd_T98 t448 (Int.tmod t457 (t448.length : Int))).f2).extract ((wrap64 ((Int.tmod t468 (((rd_T98 t448 (Int.tmod t457 (t448.length : Int))).f2).size : Int)) + 1)) : Int).toNat ((rd_T98 t448 (Int.tmod t457 (t448.length : Int))).f2).size)) y463) else (none)) else (none)) else (none)) else (none)))) else (none)) else (none)) else (none)))) else (if (Int.tmod t467 5) = 3 then (if (y463.length : Int) = 0 then (some true) else ((laws_at.f l0 5).bind fun t473 => (if 0 ≤ (Int.tmod t473 (y463.length : Int)) then (if (Int.tmod t473 (y463.length : Int)) < (y463.length : Int) then (laws_FnChained.j2 kj22 t448 t451 (Int.tmod t457 (t448.length : Int)) ((rd_T98 t448 (Int.tmod t457 (t448.length : Int))).f0) ((rd_T98 t448 (Int.tmod t457 (t448.length : Int))).f1) ((rd_T98 t448 (Int.tmod t457 (t448.length : Int))).f2) (y463.set ((Int.tmod t473 (y463.length : Int)) : Int).toNat (⟨(rd_T100 y463 (Int.tmod t473 (y463.length : Int))).f0, (rd_T100 y463 (Int.tmod t473 (y463.length : Int))).f1, (rd_T100 y463 (Int.tmod t473 (y463.length : Int))).f2, wrap64 (((rd_T100 y463 (Int.tmod t473 (y463.length : Int))).f3) + (wrap64 (1 + t466))), (rd_T100 y463 (Int.tmod t473 (y463.length : Int))).f4⟩ : S100))) else (none)) else (none)))) else (if (Int.tmod t467 5) = 4 then (if (y463.length : Int) = 0 then (some true) else ((laws_at.f l0 5).bind fun t476 => (if 0 ≤ (Int.tmod t476 (y463.length : Int)) then (if (Int.tmod t476 (y463.length : Int)) < (y463.length : Int) then (laws_FnChained.j2 kj22 t448 t451 (Int.tmod t457 (t448.length : Int)) ((rd_T98 t448 (Int.tmod t457 (t448.length : Int))).f0) ((rd_T98 t448 (Int.tmod t457 (t448.length : Int))).f1) ((rd_T98 t448 (Int.tmod t457 (t448.length : Int))).f2) (y463.set ((Int.tmod t476 (y463.length : Int)) : Int).toNat (⟨wrap64 (((rd_T100 y463 (Int.tmod t476 (y463.length : Int))).f0) + (wrap64 (1 + t466))), (rd_T100 y463 (Int.tmod t476 (y463.length : Int))).f1, (rd_T100 y463 (Int.tmod t476 (y463.length : Int))).f2, (rd_T100 y463 (Int.tmod t476 (y463.length : Int))).f3, (rd_T100 y463 (Int.tmod t476 (y463.length : Int))).f4⟩ : S100))) else (none)) else (none)))) else (laws_FnChained.j2 kj22 t448 t451 (Int.tmod t457 (t448.length : Int)) ((rd_T98 t448 (Int.tmod t457 (t448.length : Int))).f0) ((rd_T98 t448 (Int.tmod t457 (t448.length : Int))).f1) ((rd_T98 t448 (Int.tmod t457 (t448.length : Int))).f2) y463))))))))) else (none))) else (none)) else (none)))) = some r := by rw [if_neg (show ¬ (false = true) by decide)] at H; exact H
     clear H
     have H := H1
     clear H1
     replace H := Option.bind_eq_some_iff.mp H
     obtain ⟨t457, A260, H⟩ := H
     replace H : (if (t448.length : Int) = 0 then (none) else (if 0 ≤ (Int.tmod t457 (t448.length : Int)) then (if (Int.tmod t457 (t448.length : Int)) < (t448.length : Int) then ((some (([] : List (S100)) : List (S100))).bind fun y460 => (if y460.length + ((rd_T98 t448 (Int.tmod t457 (t448.length : Int))).f3).length < 3518437208883 then ((some (y460 ++ ((rd_T98 t448 (Int.tmod t457 (t448.length : Int))).f3) : List (S100))).bind fun y463 => ((laws_at.f l0 3).bind fun t466 => ((laws_at.f l0 4).bind fun t467 => (if (Int.tmod t467 5) = 0 then (laws_FnChained.j2 kj22 t448 t451 (Int.tmod t457 (t448.length : Int)) (wrap64 (((rd_T98 t448 (Int.tmod t457 (t448.length : Int))).f0) + (wrap64 (1 + t466)))) ((rd_T98 t448 (Int.tmod t457 (t448.length : Int))).f1) ((rd_T98 t448 (Int.tmod t457 (t448.length : Int))).f2) y463) else (if (Int.tmod t467 5) = 1 then (laws_FnChained.j2 kj22 t448 t451 (Int.tmod t457 (t448.length : Int)) ((rd_T98 t448 (Int.tmod t457 (t448.length : Int))).f0) (wrap64 (((rd_T98 t448 (Int.tmod t457 (t448.length : Int))).f1) + (wrap64 (1 + t466)))) ((rd_T98 t448 (Int.tmod t457 (t448.length : Int))).f2) y463) else (if (Int.tmod t467 5) = 2 then (if (((rd_T98 t448 (Int.tmod t457 (t448.length : Int))).f2).size : Int) = 0 then (some true) else ((laws_at.f l0 5).bind fun t468 => (if 0 ≤ (Int.tmod t468 (((rd_T98 t448 (Int.tmod t457 (t448.length : Int))).f2).size : Int)) then (if (Int.tmod t468 (((rd_T98 t448 (Int.tmod t457 (t448.length : Int))).f2).size : Int)) ≤ (((rd_T98 t448 (Int.tmod t457 (t448.length : Int))).f2).size : Int) then (if (Int.tmod t468 (((rd_T98 t448 (Int.tmod t457 (t448.length : Int))).f2).size : Int)) < (((rd_T98 t448 (Int.tmod t457 (t448.length : Int))).f2).size : Int) then ((laws_at.f l0 6).bind fun t469 => ((some (([Go.bits .xor .u8 (bt ((rd_T98 t448 (Int.tmod t457 (t448.length : Int))).f2) (Int.tmod t468 (((rd_T98 t448 (Int.tmod t457 (t448.length : Int))).f2).size : Int))) ((wrap64 (1 + (Int.tmod t469 200))) % 256)] : List Int) : List Int)).bind fun y470 => (if (((rd_T98 t448 (Int.tmod t457 (t448.length : Int))).f2).extract 0 ((Int.tmod t468 (((rd_T98 t448 (Int.tmod t457 (t448.length : Int))).f2).size : Int)) : Int).toNat).size + (strOfNums y470).size ≤ 9223372036854775807 then (if 0 ≤ (wrap64 ((Int.tmod t468 (((rd_T98 t448 (Int.tmod t457 (t448.length : Int))).f2).size : Int)) + 1)) then (if (wrap64 ((Int.tmod t468 (((rd_T98 t448 (Int.tmod t457 (t448.length : Int))).f2).size : Int)) + 1)) ≤ (((rd_T98 t448 (Int.tmod t457 (t448.length : Int))).f2).size : Int) then (if ((((rd_T98 t448 (Int.tmod t457 (t448.length : Int))).f2).extract 0 ((Int.tmod t468 (((rd_T98 t448 (Int.tmod t457 (t448.length : Int))).f2).size : Int)) : Int).toNat) ++ (strOfNums y470)).size + (((rd_T98 t448 (Int.tmod t457 (t448.length : Int))).f2).extract ((wrap64 ((Int.tmod t468 (((rd_T98 t448 (Int.tmod t457 (t448.length : Int))).f2).size : Int)) + 1)) : Int).toNat ((rd_T98 t448 (Int.tmod t457 (t448.length : Int))).f2).size).size ≤ 9223372036854775807 then (laws_FnChained.j2 kj22 t448 t451 (Int.tmod t457 (t448.length : Int)) ((rd_T98 t448 (Int.tmod t457 (t448.length : Int))).f0) ((rd_T98 t448 (Int.tmod t457 (t448.length : Int))).f1) (((((rd_T98 t448 (Int.tmod t457 (t448.length : Int))).f2).extract 0 ((Int.tmod t468 (((rd_T98 t448 (Int.tmod t457 (t448.length : Int))).f2).size : Int)) : Int).toNat) ++ (strOfNums y470)) ++ (((rd_T98 t448 (Int.tmod t457 (t448.length : Int))).f2).extract ((wrap64 ((Int.tmod t468 (((rd_T98 t448 (Int.tmod t457 (t448.length : Int))).f2).size : Int)) + 1)) : Int).toNat ((rd_T98 t448 (Int.tmod t457 (t448.length : Int))).f2).size)) y463) else (none)) else (none)) else (none)) else (none)))) else (none)) else (none)) else (none)))) else (if (Int.tmod t467 5) = 3 then (if (y463.length : Int) = 0 then (some true) else ((laws_at.f l0 5).bind fun t473 => (if 0 ≤ (Int.tmod t473 (y463.length : Int)) then (if (Int.tmod t473 (y463.length : Int)) < (y463.length : Int) then (laws_FnChained.j2 kj22 t448 t451 (Int.tmod t457 (t448.length : Int)) ((rd_T98 t448 (Int.tmod t457 (t448.length : Int))).f0) ((rd_T98 t448 (Int.tmod t457 (t448.length : Int))).f1) ((rd_T98 t448 (Int.tmod t457 (t448.length : Int))).f2) (y463.set ((Int.tmod t473 (y463.length : Int)) : Int).toNat (⟨(rd_T100 y463 (Int.tmod t473 (y463.length : Int))).f0, (rd_T100 y463 (Int.tmod t473 (y463.length : Int))).f1, (rd_T100 y463 (Int.tmod t473 (y463.length : Int))).f2, wrap64 (((rd_T100 y463 (Int.tmod t473 (y463.length : Int))).f3) + (wrap64 (1 + t466))), (rd_T100 y463 (Int.tmod t473 (y463.length : Int))).f4⟩ : S100))) else (none)) else (none)))) else (if (Int.tmod t467 5) = 4 then (if (y463.length : Int) = 0 then (some true) else ((laws_at.f l0 5).bind fun t476 => (if 0 ≤ (Int.tmod t476 (y463.length : Int)) then (if (Int.tmod t476 (y463.length : Int)) < (y463.length : Int) then (laws_FnChained.j2 kj22 t448 t451 (Int.tmod t457 (t448.length : Int)) ((rd_T98 t448 (Int.tmod t457 (t448.length : Int))).f0) ((rd_T98 t448 (Int.tmod t457 (t448.length : Int))).f1) ((rd_T98 t448 (Int.tmod t457 (t448.length : Int))).f2) (y463.set ((Int.tmod t476 (y463.length : Int)) : Int).toNat (⟨wrap64 (((rd_T100 y463 (Int.tmod t476 (y463.length : Int))).f0) + (wrap64 (1 + t466))), (rd_T100 y463 (Int.tmod t476 (y463.length : Int))).f1, (rd_T100 y463 (Int.tmod t476 (y463.length : Int))).f2, (rd_T100 y463 (Int.tmod t476 (y463.length : Int))).f3, (rd_T100 y463 (Int.tmod t476 (y463.length : Int))).f4⟩ : S100))) else (none)) else (none)))) else (laws_FnChained.j2 kj22 t448 t451 (Int.tmod t457 (t448.length : Int)) ((rd_T98 t448 (Int.tmod t457 (t448.length : Int))).f0) ((rd_T98 t448 (Int.tmod t457 (t448.length : Int))).f1) ((rd_T98 t448 (Int.tmod t457 (t448.length : Int))).f2) y463))))))))) else (none))) else (none)) else (none))) = some r := H
     have A26 := Aside0.mk A260
     clear A260
     by_cases c27 : (t448.length : Int) = 0
     ·rw [if_pos c27] at H
      exact absurd H (by simp)
     rw [if_neg c27] at H
     have c27b0 : ((t448.length : Int) == 0) = false := beq_eq_false_iff_ne.mpr c27
     have c27b1 : ((t448.length : Int) != 0) = true := bne_iff_ne.mpr c27
     have c27b2 : ¬ (t448 = []) := fun h_ => c27 (by rw [h_]; rfl)
     obtain ⟨ji28, hji28⟩ : ∃ j_ : Int, (Int.tmod t457 (t448.length : Int)) = j_ := ⟨_, rfl⟩
     replace H : (if 0 ≤ (ji28) then (if (ji28) < (t448.length : Int) then ((some (([] : List (S100)) : List (S100))).bind fun y460 => (if y460.length + ((rd_T98 t448 (ji28)).f3).length < 3518437208883 then ((some (y460 ++ ((rd_T98 t448 (ji28)).f3) : List (S100))).bind fun y463 => ((laws_at.f l0 3).bind fun t466 => ((laws_at.f l0 4).bind fun t467 => (if (Int.tmod t467 5) = 0 then (laws_FnChained.j2 kj22 t448 t451 ji28 (wrap64 (((rd_T98 t448 (ji28)).f0) + (wrap64 (1 + t466)))) ((rd_T98 t448 (ji28)).f1) ((rd_T98 t448 (ji28)).f2) y463) else (if (Int.tmod t467 5) = 1 then (laws_FnChained.j2 kj22 t448 t451 ji28 ((rd_T98 t448 (ji28)).f0) (wrap64 (((rd_T98 t448 (ji28)).f1) + (wrap64 (1 + t466)))) ((rd_T98 t448 (ji28)).f2) y463) else (if (Int.tmod t467 5) = 2 then (if (((rd_T98 t448 (ji28)).f2).size : Int) = 0 then (some true) else ((laws_at.f l0 5).bind fun t468 => (if 0 ≤ (Int.tmod t468 (((rd_T98 t448 (ji28)).f2).size : Int)) then (if (Int.tmod t468 (((rd_T98 t448 (ji28)).f2).size : Int)) ≤ (((rd_T98 t448 (ji28)).f2).size : Int) then (if (Int.tmod t468 (((rd_T98 t448 (ji28)).f2).size : Int)) < (((rd_T98 t448 (ji28)).f2).size : Int) then ((laws_at.f l0 6).bind fun t469 => ((some (([Go.bits .xor .u8 (bt ((rd_T98 t448 (ji28)).f2) (Int.tmod t468 (((rd_T98 t448 (ji28)).f2).size : Int))) ((wrap64 (1 + (Int.tmod t469 200))) % 256)] : List Int) : List Int)).bind fun y470 => (if (((rd_T98 t448 (ji28)).f2).extract 0 ((Int.tmod t468 (((rd_T98 t448 (ji28)).f2).size : Int)) : Int).toNat).size + (strOfNums y470).size ≤ 9223372036854775807 then (if 0 ≤ (wrap64 ((Int.tmod t468 (((rd_T98 t448 (ji28)).f2).size : Int)) + 1)) then (if (wrap64 ((Int.tmod t468 (((rd_T98 t448 (ji28)).f2).size : Int)) + 1)) ≤ (((rd_T98 t448 (ji28)).f2).size : Int) then (if ((((rd_T98 t448 (ji28)).f2).extract 0 ((Int.tmod t468 (((rd_T98 t448 (ji28)).f2).size : Int)) : Int).toNat) ++ (strOfNums y470)).size + (((rd_T98 t448 (ji28)).f2).extract ((wrap64 ((Int.tmod t468 (((rd_T98 t448 (ji28)).f2).size : Int)) + 1)) : Int).toNat ((rd_T98 t448 (ji28)).f2).size).size ≤ 9223372036854775807 then (laws_FnChained.j2 kj22 t448 t451 ji28 ((rd_T98 t448 (ji28)).f0) ((rd_T98 t448 (ji28)).f1) (((((rd_T98 t448 (ji28)).f2).extract 0 ((Int.tmod t468 (((rd_T98 t448 (ji28)).f2).size : Int)) : Int).toNat) ++ (strOfNums y470)) ++ (((rd_T98 t448 (ji28)).f2).extract ((wrap64 ((Int.tmod t468 (((rd_T98 t448 (ji28)).f2).size : Int)) + 1)) : Int).toNat ((rd_T98 t448 (ji28)).f2).size)) y463) else (none)) else (none)) else (none)) else (none)))) else (none)) else (none)) else (none)))) else (if (Int.tmod t467 5) = 3 then (if (y463.length : Int) = 0 then (some true) else ((laws_at.f l0 5).bind fun t473 => (if 0 ≤ (Int.tmod t473 (y463.length : Int)) then (if (Int.tmod t473 (y463.length : Int)) < (y463.length : Int) then (laws_FnChained.j2 kj22 t448 t451 ji28 ((rd_T98 t448 (ji28)).f0) ((rd_T98 t448 (ji28)).f1) ((rd_T98 t448 (ji28)).f2) (y463.set ((Int.tmod t473 (y463.length : Int)) : Int).toNat (⟨(rd_T100 y463 (Int.tmod t473 (y463.length : Int))).f0, (rd_T100 y463 (Int.tmod t473 (y463.length : Int))).f1, (rd_T100 y463 (Int.tmod t473 (y463.length : Int))).f2, wrap64 (((rd_T100 y463 (Int.tmod t473 (y463.length : Int))).f3) + (wrap64 (1 + t466))), (rd_T100 y463 (Int.tmod t473 (y463.length : Int))).f4⟩ : S100))) else (none)) else (none)))) else (if (Int.tmod t467 5) = 4 then (if (y463.length : Int) = 0 then (some true) else ((laws_at.f l0 5).bind fun t476 => (if 0 ≤ (Int.tmod t476 (y463.length : Int)) then (if (Int.tmod t476 (y463.length : Int)) < (y463.length : Int) then (laws_FnChained.j2 kj22 t448 t451 ji28 ((rd_T98 t448 (ji28)).f0) ((rd_T98 t448 (ji28)).f1) ((rd_T98 t448 (ji28)).f2) (y463.set ((Int.tmod t476 (y463.length : Int)) : Int).toNat (⟨wrap64 (((rd_T100 y463 (Int.tmod t476 (y463.length : Int))).f0) + (wrap64 (1 + t466))), (rd_T100 y463 (Int.tmod t476 (y463.length : Int))).f1, (rd_T100 y463 (Int.tmod t476 (y463.length : Int))).f2, (rd_T100 y463 (Int.tmod t476 (y463.length : Int))).f3, (rd_T100 y463 (Int.tmod t476 (y463.length : Int))).f4⟩ : S100))) else (none)) else (none)))) else (laws_FnChained.j2 kj22 t448 t451 ji28 ((rd_T98 t448 (ji28)).f0) ((rd_T98 t448 (ji28)).f1) ((rd_T98 t448 (ji28)).f2) y463))))))))) else (none))) else (none)) else (none)) = some r := by first | (rw [hji28] at H; exact H) | (simp only [hji28] at H ⊢; exact H)
     (try rw [hji28] at A26)
     by_cases c29 : 0 ≤ (ji28)
     case neg => rw [if_neg c29] at H; exact absurd H (by simp)
     rw [if_pos c29] at H
     have c29b0 : decide (0 ≤ (ji28)) = true := decide_eq_true c29
     clear c29
     by_cases c30 : (ji28) < (t448.length : Int)
     case neg => rw [if_neg c30] at H; exact absurd H (by simp)
     rw [if_pos c30] at H
     have c30b0 : decide ((ji28) < (t448.length : Int)) = true := decide_eq_true c30
     clear c30
     obtain ⟨y460, hy460⟩ : ∃ y_ : List (S100), y_ = (([] : List (S100))) := ⟨_, rfl⟩
     replace H : (if y460.length + ((rd_T98 t448 (ji28)).f3).length < 3518437208883 then ((some (y460 ++ ((rd_T98 t448 (ji28)).f3) : List (S100))).bind fun y463 => ((laws_at.f l0 3).bind fun t466 => ((laws_at.f l0 4).bind fun t467 => (if (Int.tmod t467 5) = 0 then (laws_FnChained.j2 kj22 t448 t451 ji28 (wrap64 (((rd_T98 t448 (ji28)).f0) + (wrap64 (1 + t466)))) ((rd_T98 t448 (ji28)).f1) ((rd_T98 t448 (ji28)).f2) y463) else (if (Int.tmod t467 5) = 1 then (laws_FnChained.j2 kj22 t448 t451 ji28 ((rd_T98 t448 (ji28)).f0) (wrap64 (((rd_T98 t448 (ji28)).f1) + (wrap64 (1 + t466)))) ((rd_T98 t448 (ji28)).f2) y463) else (if (Int.tmod t467 5) = 2 then (if (((rd_T98 t448 (ji28)).f2).size : Int) = 0 then (some true) else ((laws_at.f l0 5).bind fun t468 => (if 0 ≤ (Int.tmod t468 (((rd_T98 t448 (ji28)).f2).size : Int)) then (if (Int.tmod t468 (((rd_T98 t448 (ji28)).f2).size : Int)) ≤ (((rd_T98 t448 (ji28)).f2).size : Int) then (if (Int.tmod t468 (((rd_T98 t448 (ji28)).f2).size : Int)) < (((rd_T98 t448 (ji28)).f2).size : Int) then ((laws_at.f l0 6).bind fun t469 => ((some (([Go.bits .xor .u8 (bt ((rd_T98 t448 (ji28)).f2) (Int.tmod t468 (((rd_T98 t448 (ji28)).f2).size : Int))) ((wrap64 (1 + (Int.tmod t469 200))) % 256)] : List Int) : List Int)).bind fun y470 => (if (((rd_T98 t448 (ji28)).f2).extract 0 ((Int.tmod t468 (((rd_T98 t448 (ji28)).f2).size : Int)) : Int).toNat).size + (strOfNums y470).size ≤ 9223372036854775807 then (if 0 ≤ (wrap64 ((Int.tmod t468 (((rd_T98 t448 (ji28)).f2).size : Int)) + 1)) then (if (wrap64 ((Int.tmod t468 (((rd_T98 t448 (ji28)).f2).size : Int)) + 1)) ≤ (((rd_T98 t448 (ji28)).f2).size : Int) then (if ((((rd_T98 t448 (ji28)).f2).extract 0 ((Int.tmod t468 (((rd_T98 t448 (ji28)).f2).size : Int)) : Int).toNat) ++ (strOfNums y470)).size + (((rd_T98 t448 (ji28)).f2).extract ((wrap64 ((Int.tmod t468 (((rd_T98 t448 (ji28)).f2).size : Int)) + 1)) : Int).toNat ((rd_T98 t448 (ji28)).f2).size).size ≤ 9223372036854775807 then (laws_FnChained.j2 kj22 t448 t451 ji28 ((rd_T98 t448 (ji28)).f0) ((rd_T98 t448 (ji28)).f1) (((((rd_T98 t448 (ji28)).f2).extract 0 ((Int.tmod t468 (((rd_T98 t448 (ji28)).f2).size : Int)) : Int).toNat) ++ (strOfNums y470)) ++ (((rd_T98 t448 (ji28)).f2).extract ((wrap64 ((Int.tmod t468 (((rd_T98 t448 (ji28)).f2).size : Int)) + 1)) : Int).toNat ((rd_T98 t448 (ji28)).f2).size)) y463) else (none)) else (none)) else (none)) else (none)))) else (none)) else (none)) else (none)))) else (if (Int.tmod t467 5) = 3 then (if (y463.length : Int) = 0 then (some true) else ((laws_at.f l0 5).bind fun t473 => (if 0 ≤ (Int.tmod t473 (y463.length : Int)) then (if (Int.tmod t473 (y463.length : Int)) < (y463.length : Int) then (laws_FnChained.j2 kj22 t448 t451 ji28 ((rd_T98 t448 (ji28)).f0) ((rd_T98 t448 (ji28)).f1) ((rd_T98 t448 (ji28)).f2) (y463.set ((Int.tmod t473 (y463.length : Int)) : Int).toNat (⟨(rd_T100 y463 (Int.tmod t473 (y463.length : Int))).f0, (rd_T100 y463 (Int.tmod t473 (y463.length : Int))).f1, (rd_T100 y463 (Int.tmod t473 (y463.length : Int))).f2, wrap64 (((rd_T100 y463 (Int.tmod t473 (y463.length : Int))).f3) + (wrap64 (1 + t466))), (rd_T100 y463 (Int.tmod t473 (y463.length : Int))).f4⟩ : S100))) else (none)) else (none)))) else (if (Int.tmod t467 5) = 4 then (if (y463.length : Int) = 0 then (some true) else ((laws_at.f l0 5).bind fun t476 => (if 0 ≤ (Int.tmod t476 (y463.length : Int)) then (if (Int.tmod t476 (y463.length : Int)) < (y463.length : Int) then (laws_FnChained.j2 kj22 t448 t451 ji28 ((rd_T98 t448 (ji28)).f0) ((rd_T98 t448 (ji28)).f1) ((rd_T98 t448 (ji28)).f2) (y463.set ((Int.tmod t476 (y463.length : Int)) : Int).toNat (⟨wrap64 (((rd_T100 y463 (Int.tmod t476 (y463.length : Int))).f0) + (wrap64 (1 + t466))), (rd_T100 y463 (Int.tmod t476 (y463.length : Int))).f1, (rd_T100 y463 (Int.tmod t476 (y463.length : Int))).f2, (rd_T100 y463 (Int.tmod t476 (y463.length : Int))).f3, (rd_T100 y463 (Int.tmod t476 (y463.length : Int))).f4⟩ : S100))) else (none)) else (none)))) else (laws_FnChained.j2 kj22 t448 t451 ji28 ((rd_T98 t448 (ji28)).f0) ((rd_T98 t448 (ji28)).f1) ((rd_T98 t448 (ji28)).f2) y463))))))))) else (none)) = some r := by first | (rw [hy460]; with_reducible exact H) | (have H2_ := (Option.bind_some _ _).symm.trans H; rw [hy460]; with_reducible exact H2_) | (have H2_ := (Option.bind_some _ _).symm.trans H; with_reducible exact H2_) | with_reducible exact H | (rw [hy460]; exact H) | exact H
     have Ny460 := Aside0.mk hy460
     clear hy460
     by_cases c31 : y460.length + ((rd_T98 t448 (ji28)).f3).length < 3518437208883
     case neg => rw [if_neg c31] at H; exact absurd H (by simp)
     rw [if_pos c31] at H
     have LMc31 := Aside0.mk c31
     clear c31
     obtain ⟨y463, hy463⟩ : ∃ y_ : List (S100), y_ = (y460 ++ ((rd_T98 t448 (ji28)).f3)) := ⟨_, rfl⟩
     replace H : ((laws_at.f l0 3).bind fun t466 => ((laws_at.f l0 4).bind fun t467 => (if (Int.tmod t467 5) = 0 then (laws_FnChained.j2 kj22 t448 t451 ji28 (wrap64 (((rd_T98 t448 (ji28)).f0) + (wrap64 (1 + t466)))) ((rd_T98 t448 (ji28)).f1) ((rd_T98 t448 (ji28)).f2) y463) else (if (Int.tmod t467 5) = 1 then (laws_FnChained.j2 kj22 t448 t451 ji28 ((rd_T98 t448 (ji28)).f0) (wrap64 (((rd_T98 t448 (ji28)).f1) + (wrap64 (1 + t466)))) ((rd_T98 t448 (ji28)).f2) y463) else (if (Int.tmod t467 5) = 2 then (if (((rd_T98 t448 (ji28)).f2).size : Int) = 0 then (some true) else ((laws_at.f l0 5).bind fun t468 => (if 0 ≤ (Int.tmod t468 (((rd_T98 t448 (ji28)).f2).size : Int)) then (if (Int.tmod t468 (((rd_T98 t448 (ji28)).f2).size : Int)) ≤ (((rd_T98 t448 (ji28)).f2).size : Int) then (if (Int.tmod t468 (((rd_T98 t448 (ji28)).f2).size : Int)) < (((rd_T98 t448 (ji28)).f2).size : Int) then ((laws_at.f l0 6).bind fun t469 => ((some (([Go.bits .xor .u8 (bt ((rd_T98 t448 (ji28)).f2) (Int.tmod t468 (((rd_T98 t448 (ji28)).f2).size : Int))) ((wrap64 (1 + (Int.tmod t469 200))) % 256)] : List Int) : List Int)).bind fun y470 => (if (((rd_T98 t448 (ji28)).f2).extract 0 ((Int.tmod t468 (((rd_T98 t448 (ji28)).f2).size : Int)) : Int).toNat).size + (strOfNums y470).size ≤ 9223372036854775807 then (if 0 ≤ (wrap64 ((Int.tmod t468 (((rd_T98 t448 (ji28)).f2).size : Int)) + 1)) then (if (wrap64 ((Int.tmod t468 (((rd_T98 t448 (ji28)).f2).size : Int)) + 1)) ≤ (((rd_T98 t448 (ji28)).f2).size : Int) then (if ((((rd_T98 t448 (ji28)).f2).extract 0 ((Int.tmod t468 (((rd_T98 t448 (ji28)).f2).size : Int)) : Int).toNat) ++ (strOfNums y470)).size + (((rd_T98 t448 (ji28)).f2).extract ((wrap64 ((Int.tmod t468 (((rd_T98 t448 (ji28)).f2).size : Int)) + 1)) : Int).toNat ((rd_T98 t448 (ji28)).f2).size).size ≤ 9223372036854775807 then (laws_FnChained.j2 kj22 t448 t451 ji28 ((rd_T98 t448 (ji28)).f0) ((rd_T98 t448 (ji28)).f1) (((((rd_T98 t448 (ji28)).f2).extract 0 ((Int.tmod t468 (((rd_T98 t448 (ji28)).f2).size : Int)) : Int).toNat) ++ (strOfNums y470)) ++ (((rd_T98 t448 (ji28)).f2).extract ((wrap64 ((Int.tmod t468 (((rd_T98 t448 (ji28)).f2).size : Int)) + 1)) : Int).toNat ((rd_T98 t448 (ji28)).f2).size)) y463) else (none)) else (none)) else (none)) else (none)))) else (none)) else (none)) else (none)))) else (if (Int.tmod t467 5) = 3 then (if (y463.length : Int) = 0 then (some true) else ((laws_at.f l0 5).bind fun t473 => (if 0 ≤ (Int.tmod t473 (y463.length : Int)) then (if (Int.tmod t473 (y463.length : Int)) < (y463.length : Int) then (laws_FnChained.j2 kj22 t448 t451 ji28 ((rd_T98 t448 (ji28)).f0) ((rd_T98 t448 (ji28)).f1) ((rd_T98 t448 (ji28)).f2) (y463.set ((Int.tmod t473 (y463.length : Int)) : Int).toNat (⟨(rd_T100 y463 (Int.tmod t473 (y463.length : Int))).f0, (rd_T100 y463 (Int.tmod t473 (y463.length : Int))).f1, (rd_T100 y463 (Int.tmod t473 (y463.length : Int))).f2, wrap64 (((rd_T100 y463 (Int.tmod t473 (y463.length : Int))).f3) + (wrap64 (1 + t466))), (rd_T100 y463 (Int.tmod t473 (y463.length : Int))).f4⟩ : S100))) else (none)) else (none)))) else (if (Int.tmod t467 5) = 4 then (if (y463.length : Int) = 0 then (some true) else ((laws_at.f l0 5).bind fun t476 => (if 0 ≤ (Int.tmod t476 (y463.length : Int)) then (if (Int.tmod t476 (y463.length : Int)) < (y463.length : Int) then (laws_FnChained.j2 kj22 t448 t451 ji28 ((rd_T98 t448 (ji28)).f0) ((rd_T98 t448 (ji28)).f1) ((rd_T98 t448 (ji28)).f2) (y463.set ((Int.tmod t476 (y463.length : Int)) : Int).toNat (⟨wrap64 (((rd_T100 y463 (Int.tmod t476 (y463.length : Int))).f0) + (wrap64 (1 + t466))), (rd_T100 y463 (Int.tmod t476 (y463.length : Int))).f1, (rd_T100 y463 (Int.tmod t476 (y463.length : Int))).f2, (rd_T100 y463 (Int.tmod t476 (y463.length : Int))).f3, (rd_T100 y463 (Int.tmod t476 (y463.length : Int))).f4⟩ : S100))) else (none)) else (none)))) else (laws_FnChained.j2 kj22 t448 t451 ji28 ((rd_T98 t448 (ji28)).f0) ((rd_T98 t448 (ji28)).f1) ((rd_T98 t448 (ji28)).f2) y463)))))))) = some r := by first | (rw [hy463]; with_reducible exact H) | (have H2_ := (Option.bind_some _ _).symm.trans H; rw [hy463]; with_reducible exact H2_) | (have H2_ := (Option.bind_some _ _).symm.trans H; with_reducible exact H2_) | with_reducible exact H | (rw [hy463]; exact H) | exact H
     have Ny463 := Aside0.mk hy463
     clear hy463
     replace H := Option.bind_eq_some_iff.mp H
     obtain ⟨t466, A320, H⟩ := H
     replace H : ((laws_at.f l0 4).bind fun t467 => (if (Int.tmod t467 5) = 0 then (laws_FnChained.j2 kj22 t448 t451 ji28 (wrap64 (((rd_T98 t448 (ji28)).f0) + (wrap64 (1 + t466)))) ((rd_T98 t448 (ji28)).f1) ((rd_T98 t448 (ji28)).f2) y463) else (if (Int.tmod t467 5) = 1 then (laws_FnChained.j2 kj22 t448 t451 ji28 ((rd_T98 t448 (ji28)).f0) (wrap64 (((rd_T98 t448 (ji28)).f1) + (wrap64 (1 + t466)))) ((rd_T98 t448 (ji28)).f2) y463) else (if (Int.tmod t467 5) = 2 then (if (((rd_T98 t448 (ji28)).f2).size : Int) = 0 then (some true) else ((laws_at.f l0 5).bind fun t468 => (if 0 ≤ (Int.tmod t468 (((rd_T98 t448 (ji28)).f2).size : Int)) then (if (Int.tmod t468 (((rd_T98 t448 (ji28)).f2).size : Int)) ≤ (((rd_T98 t448 (ji28)).f2).size : Int) then (if (Int.tmod t468 (((rd_T98 t448 (ji28)).f2).size : Int)) < (((rd_T98 t448 (ji28)).f2).size : Int) then ((laws_at.f l0 6).bind fun t469 => ((some (([Go.bits .xor .u8 (bt ((rd_T98 t448 (ji28)).f2) (Int.tmod t468 (((rd_T98 t448 (ji28)).f2).size : Int))) ((wrap64 (1 + (Int.tmod t469 200))) % 256)] : List Int) : List Int)).bind fun y470 => (if (((rd_T98 t448 (ji28)).f2).extract 0 ((Int.tmod t468 (((rd_T98 t448 (ji28)).f2).size : Int)) : Int).toNat).size + (strOfNums y470).size ≤ 9223372036854775807 then (if 0 ≤ (wrap64 ((Int.tmod t468 (((rd_T98 t448 (ji28)).f2).size : Int)) + 1)) then (if (wrap64 ((Int.tmod t468 (((rd_T98 t448 (ji28)).f2).size : Int)) + 1)) ≤ (((rd_T98 t448 (ji28)).f2).size : Int) then (if ((((rd_T98 t448 (ji28)).f2).extract 0 ((Int.tmod t468 (((rd_T98 t448 (ji28)).f2).size : Int)) : Int).toNat) ++ (strOfNums y470)).size + (((rd_T98 t448 (ji28)).f2).extract ((wrap64 ((Int.tmod t468 (((rd_T98 t448 (ji28)).f2).size : Int)) + 1)) : Int).toNat ((rd_T98 t448 (ji28)).f2).size).size ≤ 9223372036854775807 then (laws_FnChained.j2 kj22 t448 t451 ji28 ((rd_T98 t448 (ji28)).f0) ((rd_T98 t448 (ji28)).f1) (((((rd_T98 t448 (ji28)).f2).extract 0 ((Int.tmod t468 (((rd_T98 t448 (ji28)).f2).size : Int)) : Int).toNat) ++ (strOfNums y470)) ++ (((rd_T98 t448 (ji28)).f2).extract ((wrap64 ((Int.tmod t468 (((rd_T98 t448 (ji28)).f2).size : Int)) + 1)) : Int).toNat ((rd_T98 t448 (ji28)).f2).size)) y463) else (none)) else (none)) else (none)) else (none)))) else (none)) else (none)) else (none)))) else (if (Int.tmod t467 5) = 3 then (if (y463.length : Int) = 0 then (some true) else ((laws_at.f l0 5).bind fun t473 => (if 0 ≤ (Int.tmod t473 (y463.length : Int)) then (if (Int.tmod t473 (y463.length : Int)) < (y463.length : Int) then (laws_FnChained.j2 kj22 t448 t451 ji28 ((rd_T98 t448 (ji28)).f0) ((rd_T98 t448 (ji28)).f1) ((rd_T98 t448 (ji28)).f2) (y463.set ((Int.tmod t473 (y463.length : Int)) : Int).toNat (⟨(rd_T100 y463 (Int.tmod t473 (y463.length : Int))).f0, (rd_T100 y463 (Int.tmod t473 (y463.length : Int))).f1, (rd_T100 y463 (Int.tmod t473 (y463.length : Int))).f2, wrap64 (((rd_T100 y463 (Int.tmod t473 (y463.length : Int))).f3) + (wrap64 (1 + t466))), (rd_T100 y463 (Int.tmod t473 (y463.length : Int))).f4⟩ : S100))) else (none)) else (none)))) else (if (Int.tmod t467 5) = 4 then (if (y463.length : Int) = 0 then (some true) else ((laws_at.f l0 5).bind fun t476 => (if 0 ≤ (Int.tmod t476 (y463.length : Int)) then (if (Int.tmod t476 (y463.length : Int)) < (y463.length : Int) then (laws_FnChained.j2 kj22 t448 t451 ji28 ((rd_T98 t448 (ji28)).f0) ((rd_T98 t448 (ji28)).f1) ((rd_T98 t448 (ji28)).f2) (y463.set ((Int.tmod t476 (y463.length : Int)) : Int).toNat (⟨wrap64 (((rd_T100 y463 (Int.tmod t476 (y463.length : Int))).f0) + (wrap64 (1 + t466))), (rd_T100 y463 (Int.tmod t476 (y463.length : Int))).f1, (rd_T100 y463 (Int.tmod t476 (y463.length : Int))).f2, (rd_T100 y463 (Int.tmod t476 (y463.length : Int))).f3, (rd_T100 y463 (Int.tmod t476 (y463.length : Int))).f4⟩ : S100))) else (none)) else (none)))) else (laws_FnChained.j2 kj22 t448 t451 ji28 ((rd_T98 t448 (ji28)).f0) ((rd_T98 t448 (ji28)).f1) ((rd_T98 t448 (ji28)).f2) y463))))))) = some r := H
     have A32 := Aside0.mk A320
     clear A320
     replace H := Option.bind_eq_some_iff.mp H
     obtain ⟨t467, A330, H⟩ := H
     replace H : (if (Int.tmod t467 5) = 0 then (laws_FnChained.j2 kj22 t448 t451 ji28 (wrap64 (((rd_T98 t448 (ji28)).f0) + (wrap64 (1 + t466)))) ((rd_T98 t448 (ji28)).f1) ((rd_T98 t448 (ji28)).f2) y463) else (if (Int.tmod t467 5) = 1 then (laws_FnChained.j2 kj22 t448 t451 ji28 ((rd_T98 t448 (ji28)).f0) (wrap64 (((rd_T98 t448 (ji28)).f1) + (wrap64 (1 + t466)))) ((rd_T98 t448 (ji28)).f2) y463) else (if (Int.tmod t467 5) = 2 then (if (((rd_T98 t448 (ji28)).f2).size : Int) = 0 then (some true) else ((laws_at.f l0 5).bind fun t468 => (if 0 ≤ (Int.tmod t468 (((rd_T98 t448 (ji28)).f2).size : Int)) then (if (Int.tmod t468 (((rd_T98 t448 (ji28)).f2).size : Int)) ≤ (((rd_T98 t448 (ji28)).f2).size : Int) then (if (Int.tmod t468 (((rd_T98 t448 (ji28)).f2).size : Int)) < (((rd_T98 t448 (ji28)).f2).size : Int) then ((laws_at.f l0 6).bind fun t469 => ((some (([Go.bits .xor .u8 (bt ((rd_T98 t448 (ji28)).f2) (Int.tmod t468 (((rd_T98 t448 (ji28)).f2).size : Int))) ((wrap64 (1 + (Int.tmod t469 200))) % 256)] : List Int) : List Int)).bind fun y470 => (if (((rd_T98 t448 (ji28)).f2).extract 0 ((Int.tmod t468 (((rd_T98 t448 (ji28)).f2).size : Int)) : Int).toNat).size + (strOfNums y470).size ≤ 9223372036854775807 then (if 0 ≤ (wrap64 ((Int.tmod t468 (((rd_T98 t448 (ji28)).f2).size : Int)) + 1)) then (if (wrap64 ((Int.tmod t468 (((rd_T98 t448 (ji28)).f2).size : Int)) + 1)) ≤ (((rd_T98 t448 (ji28)).f2).size : Int) then (if ((((rd_T98 t448 (ji28)).f2).extract 0 ((Int.tmod t468 (((rd_T98 t448 (ji28)).f2).size : Int)) : Int).toNat) ++ (strOfNums y470)).size + (((rd_T98 t448 (ji28)).f2).extract ((wrap64 ((Int.tmod t468 (((rd_T98 t448 (ji28)).f2).size : Int)) + 1)) : Int).toNat ((rd_T98 t448 (ji28)).f2).size).size ≤ 9223372036854775807 then (laws_FnChained.j2 kj22 t448 t451 ji28 ((rd_T98 t448 (ji28)).f0) ((rd_T98 t448 (ji28)).f1) (((((rd_T98 t448 (ji28)).f2).extract 0 ((Int.tmod t468 (((rd_T98 t448 (ji28)).f2).size : Int)) : Int).toNat) ++ (strOfNums y470)) ++ (((rd_T98 t448 (ji28)).f2).extract ((wrap64 ((Int.tmod t468 (((rd_T98 t448 (ji28)).f2).size : Int)) + 1)) : Int).toNat ((rd_T98 t448 (ji28)).f2).size)) y463) else (none)) else (none)) else (none)) else (none)))) else (none)) else (none)) else (none)))) else (if (Int.tmod t467 5) = 3 then (if (y463.length : Int) = 0 then (some true) else ((laws_at.f l0 5).bind fun t473 => (if 0 ≤ (Int.tmod t473 (y463.length : Int)) then (if (Int.tmod t473 (y463.length : Int)) < (y463.length : Int) then (laws_FnChained.j2 kj22 t448 t451 ji28 ((rd_T98 t448 (ji28)).f0) ((rd_T98 t448 (ji28)).f1) ((rd_T98 t448 (ji28)).f2) (y463.set ((Int.tmod t473 (y463.length : Int)) : Int).toNat (⟨(rd_T100 y463 (Int.tmod t473 (y463.length : Int))).f0, (rd_T100 y463 (Int.tmod t473 (y463.length : Int))).f1, (rd_T100 y463 (Int.tmod t473 (y463.length : Int))).f2, wrap64 (((rd_T100 y463 (Int.tmod t473 (y463.length : Int))).f3) + (wrap64 (1 + t466))), (rd_T100 y463 (Int.tmod t473 (y463.length : Int))).f4⟩ : S100))) else (none)) else (none)))) else (if (Int.tmod t467 5) = 4 then (if (y463.length : Int) = 0 then (some true) else ((laws_at.f l0 5).bind fun t476 => (if 0 ≤ (Int.tmod t476 (y463.length : Int)) then (if (Int.tmod t476 (y463.length : Int)) < (y463.length : Int) then (laws_FnChained.j2 kj22 t448 t451 ji28 ((rd_T98 t448 (ji28)).f0) ((rd_T98 t448 (ji28)).f1) ((rd_T98 t448 (ji28)).f2) (y463.set ((Int.tmod t476 (y463.length : Int)) : Int).toNat (⟨wrap64 (((rd_T100 y463 (Int.tmod t476 (y463.length : Int))).f0) + (wrap64 (1 + t466))), (rd_T100 y463 (Int.tmod t476 (y463.length : Int))).f1, (rd_T100 y463 (Int.tmod t476 (y463.length : Int))).f2, (rd_T100 y463 (Int.tmod t476 (y463.length : Int))).f3, (rd_T100 y463 (Int.tmod t476 (y463.length : Int))).f4⟩ : S100))) else (none)) else (none)))) else (laws_FnChained.j2 kj22 t448 t451 ji28 ((rd_T98 t448 (ji28)).f0) ((rd_T98 t448 (ji28)).f1) ((rd_T98 t448 (ji28)).f2) y463)))))) = some r := H
     have A33 := Aside0.mk A330
     clear A330
     have HC34 := Aside0.mk H
     clear H
     go_upto_block 0 with (first | ((with_reducible refine qg0 (f := 40) rfl ?_); refine qt0 (some 35) rfl rfl Try.func40 z12_10 rfl #[.slice A0 l0.length c0, .int .i64 2] rfl z12_2 ?_; (with_reducible refine (laws_at.calls _ _ l0 2 t457 _ ?side1 ?side2 A26.out).mono ?_); (case side1 => exact z12_12); (case side2 => exact HC0.out); rintro e w' ⟨rfl, ⟨nd, rfl⟩⟩; refine ⟨_, rfl, ?_⟩; (try (rw [drewN_self wc]; generalize hq_ : World.drewN wc _ = wc; have n0_ : Aside0 (Kd.N k98 98 wc w.heap.size (fun _ => True) (.slice Ao8 t448.length co8) t448) := ⟨z12_17⟩; have n1_ : Aside0 (Below w.heap.size w wc) := ⟨by rw [← hq_]; exact z12_1⟩; clear HO_3 HB hq_; have HO_3 := n0_; have HB := n1_; clear n0_ n1_)); have p458 : 0 ≤ ((ji28) : Int) := of_decide_eq_true z12_5; have q458 : (ji28) < (t448.length : Int) := of_decide_eq_true z12_5; obtain ⟨ad458, A458_3, c458_3, e458, hx458_0, hx458_1, hx458_2, hx458_3, hl458_3, hi458_3⟩ := at_T98 (Kd.N_reads' HO_3.out).2.2 (ji28) p458 q458; cases e458; obtain ⟨ce458, hce458, hMe458, hcc458⟩ := Kd.N_get HO_3.out z98 (ji28) p458 (by first | exact q458 | exact of_decide_eq_true z12_5 | (have e_ := (Kd.N_reads' HO_3.out).1; omega)); obtain ⟨ua458_3, uc458_3, rfl, ul458_3, ge458_3⟩ := k98_openF hMe458; have hv458_3 := hcc458 3 _ rfl; rw [add_field _ _ 3 (by omega)] at hv458_3; replace hv458_3 := Option.some.inj (hv458_3.symm.trans hx458_3); injection hv458_3 with hva_ hvn_ hvc_; rw [hva_] at ge458_3; rw [hvc_] at ul458_3; have HL458_3 := Aside0.mk (show Kd.V k100 100 _ w.heap.size _ _ ((rd_T98 t448 (ji28)).f3) from Kd.V_mk ul458_3 ge458_3); clear hva_ hvn_ hvc_ ge458_3 ul458_3; clear hcc458 hce458; have HR458_3 := Aside0.mk hi458_3; have HC458_3 := Aside0.mk hl458_3; clear hi458_3 hl458_3; replace p458 := eq_true p458; replace q458 := eq_true q458) | ((with_reducible refine qa1 (N := 6) rfl ?_); refine qe1 ?hg (N := 6) ?hd (cs := #[.int .i64 0, .int .i64 0, .string (⟨#[]⟩ : ByteArray), .slice none 0 0]) (t := 98) ?hr ?_; (case hd => rfl); (case hg => rfl); (case hr => exact z12_31); intro gb459 hg w35 hbox hb; have n0_ := Aside0.mk (Kd.N_below (Kd.N_elderB z12_4 gb459 (Nat.le_of_eq hg.symm)) hb); have n1_ := Aside0.mk (Kd.V_below (Kd.V_elderB (by (with_reducible repeat (first | apply Kd.V_alloc | apply Kd.V_drewN | apply Kd.V_drew)); exact HL458_3.out) gb459 (Nat.le_of_eq hg.symm)) hb); have n2_ := Aside0.mk (Kd.C_below z12_24 hb); have n3_ := Aside0.mk (ql0 z12_1 hb); have n4_ := Aside0.mk (hbox); have n5_ := Aside0.mk ((z12_28 : w.heap.size ≤ gb459)); have n6_ := Aside0.mk ((z12_28 : w.heap.size ≤ gb459)); clear HO_3; clear HL458_3; clear HR458_3; clear HB; have HO_3 := n0_; have HL458_3 := n1_; have HR458_3 := n2_; have HB := n3_; have BK459 := n4_; have GW459 := n5_; have GE459 := n6_; clear n0_ n1_ n2_ n3_ n4_ n5_ n6_; clear hb hbox hg; have hcz36_0 : w35.cell? ⟨gb459, 0, none⟩ = some (.int .i64 0) := (qb0 BK459.out 0).trans rfl; have hcz36_1 : w35.cell? ⟨gb459, 1, none⟩ = some (.int .i64 0) := (qb0 BK459.out 1).trans rfl; have hcz36_2 : w35.cell? ⟨gb459, 2, none⟩ = some (.string (⟨#[]⟩ : ByteArray)) := (qb0 BK459.out 2).trans rfl; have hcz36_3 : w35.cell? ⟨gb459, 3, none⟩ = some (.slice none 0 0) := (qb0 BK459.out 3).trans rfl; have hfz36_0 := qa0 BK459.out 0; have hfz36_1 := qa0 BK459.out 1; have hfz36_2 := qa0 BK459.out 2; have hfz36_3 := qa0 BK459.out 3) | ((with_reducible refine qa1 (N := 43) rfl ?_); refine Kd.R_lit k100 _ 100 ?hg (N := 43) ?hd (xs := ([] : List (S100))) (inner := []) (ok := fun _ => True) (okp := fun _ => True) ?hr ?hp (fun _ hk => hk) trivial (Below.refl _ _) (Nat.le_refl _) (by simp) ?_; (case hd => rfl); (case hg => rfl); (case hr => exact z12_31); (case hp => exact (Reps.none _ _)); intro v461 w37 ho38 hb hg_ hnew_; clear hg_ hnew_; (first | rw [← Ny460.out] at ho38 | (simp only [Int.reduceToNat] at ho38; rw [← Ny460.out] at ho38)); have n0_ := Aside0.mk (Kd.N_elder' (by (with_reducible repeat (first | apply Kd.N_alloc | apply Kd.qv1 | apply Kd.qf2)); exact (Kd.qe2 (Kd.N_far (p := ⟨gb459, 3, none⟩) (Kd.N_far (p := ⟨gb459, 2, none⟩) (Kd.N_far (p := ⟨gb459, 1, none⟩) (Kd.N_far (p := ⟨gb459, 0, none⟩) (Kd.qe2 HO_3.out (fun k_ hk => (⟨hk, hk.2⟩ : _ ∧ k_ ≠ gb459))) (fun _ hk => hk.2) (.int .i64 ((rd_T98 t448 (ji28)).f0))) (fun _ hk => hk.2) (.int .i64 ((rd_T98 t448 (ji28)).f1))) (fun _ hk => hk.2) (.string ((rd_T98 t448 (ji28)).f2))) (fun _ hk => hk.2) (.slice A458_3 ((rd_T98 t448 (ji28)).f3).length c458_3)) (fun _ h_ => h_.1))) (Kd.R_base ho38) hb); have n1_ := Aside0.mk (Kd.V_elder' z12_7 (Kd.R_base ho38) hb); have n2_ := Aside0.mk (Kd.qu1 ho38 (qv0 z12_0)); have n3_ := Aside0.mk (Kd.C_below ((Kd.V_reads' z12_7).2.2) hb); have n4_ := Aside0.mk (qz0 (g := gb459) (o := .cells #[.int .i64 ((rd_T98 t448 (ji28)).f0), .int .i64 ((rd_T98 t448 (ji28)).f1), .string ((rd_T98 t448 (ji28)).f2), .slice A458_3 ((rd_T98 t448 (ji28)).f3).length c458_3] 98 (0, 0)) (by (with_reducible repeat (first | refine qe0 ?_ _ | refine qf0 ?_ | refine qd0 ?_ _)); refine qo0 (cs := #[.int .i64 ((rd_T98 t448 (ji28)).f0), .int .i64 ((rd_T98 t448 (ji28)).f1), .string ((rd_T98 t448 (ji28)).f2), .slice none 0 0]) ?_ 3 _ rfl; (with_reducible repeat (first | refine qe0 ?_ _ | refine qf0 ?_ | refine qd0 ?_ _)); refine qo0 (cs := #[.int .i64 ((rd_T98 t448 (ji28)).f0), .int .i64 ((rd_T98 t448 (ji28)).f1), .string (⟨#[]⟩ : ByteArray), .slice none 0 0]) ?_ 2 _ rfl; (with_reducible repeat (first | refine qe0 ?_ _ | refine qf0 ?_ | refine qd0 ?_ _)); refine qo0 (cs := #[.int .i64 ((rd_T98 t448 (ji28)).f0), .int .i64 0, .string (⟨#[]⟩ : ByteArray), .slice none 0 0]) ?_ 1 _ rfl; (with_reducible repeat (first | refine qe0 ?_ _ | refine qf0 ?_ | refine qd0 ?_ _)); refine qo0 (cs := #[.int .i64 0, .int .i64 0, .string (⟨#[]⟩ : ByteArray), .slice none 0 0]) ?_ 0 _ rfl; (with_reducible repeat (first | refine qe0 ?_ _ | refine qf0 ?_ | refine qd0 ?_ _)); exact BK459.out) hb); have n5_ := Aside0.mk (ql0 z12_0 hb); clear HO_3; clear HL458_3; clear HR458_3; clear BK459; clear HB; have HO_3 := n0_; have HL458_3 := n1_; have HO462 := n2_; have HR458_3 := n3_; have BK459 := n4_; have HB := n5_; clear n0_ n1_ n2_ n3_ n4_ n5_; clear hb ho38; have hcz39_0 : w37.cell? ⟨gb459, 0, none⟩ = some (.int .i64 ((rd_T98 t448 (ji28)).f0)) := (qb0 BK459.out 0).trans rfl; have hcz39_1 : w37.cell? ⟨gb459, 1, none⟩ = some (.int .i64 ((rd_T98 t448 (ji28)).f1)) := (qb0 BK459.out 1).trans rfl; have hcz39_2 : w37.cell? ⟨gb459, 2, none⟩ = some (.string ((rd_T98 t448 (ji28)).f2)) := (qb0 BK459.out 2).trans rfl; have hcz39_3 : w37.cell? ⟨gb459, 3, none⟩ = some (.slice A458_3 ((rd_T98 t448 (ji28)).f3).length c458_3) := (qb0 BK459.out 3).trans rfl; have hfz39_0 := qa0 BK459.out 0; have hfz39_1 := qa0 BK459.out 1; have hfz39_2 := qa0 BK459.out 2; have hfz39_3 := qa0 BK459.out 3) | ((with_reducible refine qw0 (b := .append) (xs := #[.tmp 43, .tmp 45]) rfl ?_); at_builtin; refine Kd.R_append_rows k100 (w0 := w) w.heap.size rfl (.tmp 43) (.tmp 45) 96 100 (.agg #[(.int .i64 0), (.int .i64 0), (.int .i64 0), (.int .i64 0), (.int .i64 0)]) 40 rfl Try.underlying96 info100 rfl (by decide) (by omega) v461 y460 ((rd_T98 t448 (ji28)).f3) _ _ _ (fun _ => True) (fun _ => False) rfl rfl ?aO ?aR (fun _ _ h => h) (fun _ h => h.elim) ?aF ?aB ?aS ?aL ?_; (case aR => repeat (first | exact z12_24 | (with_reducible refine Kd.qx1 ?_ _) | (with_reducible refine Kd.qw1 ?_ _) | (with_reducible refine Kd.qg2 ?_))); (case aB => exact z12_0); (case aF => exact (fun _ _ => trivial)); (case aO => exact (by (with_reducible repeat (first | apply Kd.qr0 | apply Kd.qp0 | apply Kd.qu0)); exact HO462.out)); (case aS => exact (qv0 z12_0)); (case aL => have := LMc31.out; omega); intro v464 w40 ho hb hg hat; rw [← Ny463.out] at ho; have n0_ := Aside0.mk (Kd.N_afterv (ok := (fun k_ => k_ ≠ gb459)) (by (with_reducible repeat (first | apply Kd.N_alloc | apply Kd.qv1 | apply Kd.qf2)); exact Kd.qe2 HO_3.out (fun _ hk => ⟨hk.1.2, hk.2⟩)) hg hat); have n1_ := Aside0.mk (Kd.V_afterv (ok := (fun k_ => some k_ ≠ (.slice (some ad458) t448.length co8 : Value).ownBlock ∧ k_ ≠ gb459)) (by (with_reducible repeat (first | apply Kd.V_alloc | apply Kd.V_drewN | apply Kd.V_drew)); exact Kd.V_mono HL458_3.out (fun _ hk => ⟨⟨hk.1.1.2, hk.1.2⟩, hk.2⟩)) hg hat); have n2_ := Aside0.mk (qq0 (g := gb459) (o := .cells #[.int .i64 ((rd_T98 t448 (ji28)).f0), .int .i64 ((rd_T98 t448 (ji28)).f1), .string ((rd_T98 t448 (ji28)).f2), .slice A458_3 ((rd_T98 t448 (ji28)).f3).length c458_3] 98 (0, 0)) z12_6 hg (Kd.R_ne HO462.out BK459.out (by decide))); have n3_ := Aside0.mk (hb); have n4_ := Aside0.mk (ho); clear HO_3; clear HL458_3; clear BK459; clear HB; clear HO462; have HO_3 := n0_; have HL458_3 := n1_; have BK459 := n2_; have HB := n3_; have HO465 := n4_; clear n0_ n1_ n2_ n3_ n4_; clear ho hb hg hat; obtain ⟨Ao41, co41, eo41⟩ := Kd.qn1 HO465.out; subst eo41; have hcz42_0 : w40.cell? ⟨gb459, 0, none⟩ = some (.int .i64 ((rd_T98 t448 (ji28)).f0)) := (qb0 BK459.out 0).trans rfl; have hcz42_1 : w40.cell? ⟨gb459, 1, none⟩ = some (.int .i64 ((rd_T98 t448 (ji28)).f1)) := (qb0 BK459.out 1).trans rfl; have hcz42_2 : w40.cell? ⟨gb459, 2, none⟩ = some (.string ((rd_T98 t448 (ji28)).f2)) := (qb0 BK459.out 2).trans rfl; have hcz42_3 : w40.cell? ⟨gb459, 3, none⟩ = some (.slice A458_3 ((rd_T98 t448 (ji28)).f3).length c458_3) := (qb0 BK459.out 3).trans rfl; have hfz42_0 := qa0 BK459.out 0; have hfz42_1 := qa0 BK459.out 1; have hfz42_2 := qa0 BK459.out 2; have hfz42_3 := qa0 BK459.out 3) | ((with_reducible refine qg0 (f := 40) rfl ?_); refine qt0 (some 49) rfl rfl Try.func40 z12_10 rfl #[.slice A0 l0.length c0, .int .i64 3] rfl z12_2 ?_; (with_reducible refine (laws_at.calls _ _ l0 3 t466 _ ?side1 ?side2 A32.out).mono ?_); (case side1 => exact Kd.C_below HR0.out z12_0); (case side2 => exact HC0.out); rintro e w' ⟨rfl, ⟨nd, rfl⟩⟩; refine ⟨_, rfl, ?_⟩) | ((with_reducible refine qg0 (f := 40) rfl ?_); refine qt0 (some 52) rfl rfl Try.func40 z12_10 rfl #[.slice A0 l0.length c0, .int .i64 4] rfl z12_2 ?_; (with_reducible refine (laws_at.calls _ _ l0 4 t467 _ ?side1 ?side2 A33.out).mono ?_); (case side1 => exact Kd.C_below HR0.out z12_0); (case side2 => exact HC0.out); rintro e w' ⟨rfl, ⟨nd, rfl⟩⟩; refine ⟨_, rfl, ?_⟩))
     (try simp only [Act.put, List.setIfInBounds_toArray, List.set_cons_zero, List.set_cons_succ])
     go_cut [] (fun wc => ∃ (kq : Nat) (x460000_33 : Int) (x460001_33 : Int) (x460002_33 : ByteArray) (x460003_33 : List (S100)) (u460003 : Value), Aside0 (laws_FnChained.j2 kq t448 t451 ji28 x460000_33 x460001_33 x460002_33 x460003_33 = some r) ∧ Aside0 (kq ≤ kj22) ∧ Aside0 (Kd.N k98 98 wc w.heap.size (fun k_ => some k_ ≠ (u460003 : Value).ownBlock ∧ k_ ≠ gb459) (.slice (some ad458) t448.length co8) t448) ∧ Aside0 (Kd.R k100 100 wc w.heap.size (fun _ => True) u460003 x460003_33) ∧ Aside0 (wc.heap[gb459]? = some (.cells #[.int .i64 x460000_33, .int .i64 x460001_33, .string x460002_33, u460003] 98 (0, 0))) ∧ Aside0 (Below w.heap.size w wc))
     case first =>
      have H := HC34.out
      clear HC34
      by_cases c43 : (Int.tmod t467 5) = 0
      ·rw [if_pos c43] at H
       have c43b0 : ((Int.tmod t467 5) == 0) = true := beq_iff_eq.mpr c43
       have c43b1 : ((Int.tmod t467 5) != 0) = false := bne_eq_false_iff_eq.mpr c43
       clear c43
       (first | rw [c43b0] | (simp only [i64_w, i32_w]; rw [c43b0]) | skip)
       have H' := Aside0.mk H
       clear H
       have hcz44_0 : w40.cell? ⟨gb459, 0, none⟩ = some (.int .i64 ((rd_T98 t448 (ji28)).f0)) := (qb0 BK459.out 0).trans rfl
       have hcz44_1 : w40.cell? ⟨gb459, 1, none⟩ = some (.int .i64 ((rd_T98 t448 (ji28)).f1)) := (qb0 BK459.out 1).trans rfl
       have hcz44_2 : w40.cell? ⟨gb459, 2, none⟩ = some (.string ((rd_T98 t448 (ji28)).f2)) := (qb0 BK459.out 2).trans rfl
       have hcz44_3 : w40.cell? ⟨gb459, 3, none⟩ = some (.slice A458_3 ((rd_T98 t448 (ji28)).f3).length c458_3) := (qb0 BK459.out 3).trans rfl
       have hfz44_0 := qa0 BK459.out 0
       have hfz44_1 := qa0 BK459.out 1
       have hfz44_2 := qa0 BK459.out 2
       have hfz44_3 := qa0 BK459.out 3
       go_wp2
       go_meet
       case rel => exact ⟨_, (wrap64 (((rd_T98 t448 (ji28)).f0) + (wrap64 (1 + t466)))), ((rd_T98 t448 (ji28)).f1), ((rd_T98 t448 (ji28)).f2), (y463), (.slice Ao41 y463.length co41), H', ⟨z12_21⟩, ⟨by (with_reducible repeat (first | apply Kd.N_alloc | apply Kd.qv1 | apply Kd.qf2)); exact Kd.qe2 (Kd.N_far (p := ⟨gb459, 0, none⟩) (Kd.N_far (p := ⟨gb459, 3, none⟩) (Kd.qe2 HO_3.out (fun k_ hk => (⟨hk, hk.1⟩ : _ ∧ k_ ≠ gb459))) (fun _ hk => hk.2) (.slice Ao41 y463.length co41)) (fun _ hk => hk.2) (.int .i64 (wrap64 (((rd_T98 t448 (ji28)).f0) + (wrap64 (1 + t466)))))) (fun _ hk => ⟨hk.1.2, hk.1.1⟩)⟩, ⟨by (with_reducible repeat (first | apply Kd.qr0 | apply Kd.qp0 | apply Kd.qu0)); exact Kd.qm0 (Kd.R_far (p := ⟨gb459, 0, none⟩) (Kd.R_far (p := ⟨gb459, 3, none⟩) (Kd.qi1 HO465.out BK459.out (by decide)) (fun _ hk => hk.2) (.slice Ao41 y463.length co41)) (fun _ hk => hk.2) (.int .i64 (wrap64 (((rd_T98 t448 (ji28)).f0) + (wrap64 (1 + t466)))))) (fun _ hk => trivial)⟩, ⟨by (with_reducible repeat (first | refine qe0 ?_ _ | refine qf0 ?_ | refine qd0 ?_ _)); refine qo0 (cs := #[.int .i64 ((rd_T98 t448 (ji28)).f0), .int .i64 ((rd_T98 t448 (ji28)).f1), .string ((rd_T98 t448 (ji28)).f2), .slice Ao41 y463.length co41]) ?_ 0 _ rfl; (with_reducible repeat (first | refine qe0 ?_ _ | refine qf0 ?_ | refine qd0 ?_ _)); refine qo0 (cs := #[.int .i64 ((rd_T98 t448 (ji28)).f0), .int .i64 ((rd_T98 t448 (ji28)).f1), .string ((rd_T98 t448 (ji28)).f2), .slice A458_3 ((rd_T98 t448 (ji28)).f3).length c458_3]) ?_ 3 _ rfl; (with_reducible repeat (first | refine qe0 ?_ _ | refine qf0 ?_ | refine qd0 ?_ _)); exact BK459.out⟩, ⟨z12_0⟩⟩
      rw [if_neg c43] at H
      have c43b0 : ((Int.tmod t467 5) == 0) = false := beq_eq_false_iff_ne.mpr c43
      have c43b1 : ((Int.tmod t467 5) != 0) = true := bne_iff_ne.mpr c43
      (first | rw [c43b0] | (simp only [i64_w, i32_w]; rw [c43b0]) | skip)
      by_cases c45 : (Int.tmod t467 5) = 1
      ·rw [if_pos c45] at H
       have c45b0 : ((Int.tmod t467 5) == 1) = true := beq_iff_eq.mpr c45
       have c45b1 : ((Int.tmod t467 5) != 1) = false := bne_eq_false_iff_eq.mpr c45
       clear c45
       have H' := Aside0.mk H
       clear H
       have hcz46_0 : w40.cell? ⟨gb459, 0, none⟩ = some (.int .i64 ((rd_T98 t448 (ji28)).f0)) := (qb0 BK459.out 0).trans rfl
       have hcz46_1 : w40.cell? ⟨gb459, 1, none⟩ = some (.int .i64 ((rd_T98 t448 (ji28)).f1)) := (qb0 BK459.out 1).trans rfl
       have hcz46_2 : w40.cell? ⟨gb459, 2, none⟩ = some (.string ((rd_T98 t448 (ji28)).f2)) := (qb0 BK459.out 2).trans rfl
       have hcz46_3 : w40.cell? ⟨gb459, 3, none⟩ = some (.slice A458_3 ((rd_T98 t448 (ji28)).f3).length c458_3) := (qb0 BK459.out 3).trans rfl
       have hfz46_0 := qa0 BK459.out 0
       have hfz46_1 := qa0 BK459.out 1
       have hfz46_2 := qa0 BK459.out 2
       have hfz46_3 := qa0 BK459.out 3
       go_wp2
       go_meet
       case rel => exact ⟨_, ((rd_T98 t448 (ji28)).f0), (wrap64 (((rd_T98 t448 (ji28)).f1) + (wrap64 (1 + t466)))), ((rd_T98 t448 (ji28)).f2), (y463), (.slice Ao41 y463.length co41), H', ⟨z12_21⟩, ⟨by (with_reducible repeat (first | apply Kd.N_alloc | apply Kd.qv1 | apply Kd.qf2)); exact Kd.qe2 (Kd.N_far (p := ⟨gb459, 1, none⟩) (Kd.N_far (p := ⟨gb459, 3, none⟩) (Kd.qe2 HO_3.out (fun k_ hk => (⟨hk, hk.1⟩ : _ ∧ k_ ≠ gb459))) (fun _ hk => hk.2) (.slice Ao41 y463.length co41)) (fun _ hk => hk.2) (.int .i64 (wrap64 (((rd_T98 t448 (ji28)).f1) + (wrap64 (1 + t466)))))) (fun _ hk => ⟨hk.1.2, hk.1.1⟩)⟩, ⟨by (with_reducible repeat (first | apply Kd.qr0 | apply Kd.qp0 | apply Kd.qu0)); exact Kd.qm0 (Kd.R_far (p := ⟨gb459, 1, none⟩) (Kd.R_far (p := ⟨gb459, 3, none⟩) (Kd.qi1 HO465.out BK459.out (by decide)) (fun _ hk => hk.2) (.slice Ao41 y463.length co41)) (fun _ hk => hk.2) (.int .i64 (wrap64 (((rd_T98 t448 (ji28)).f1) + (wrap64 (1 + t466)))))) (fun _ hk => trivial)⟩, ⟨by (with_reducible repeat (first | refine qe0 ?_ _ | refine qf0 ?_ | refine qd0 ?_ _)); refine qo0 (cs := #[.int .i64 ((rd_T98 t448 (ji28)).f0), .int .i64 ((rd_T98 t448 (ji28)).f1), .string ((rd_T98 t448 (ji28)).f2), .slice Ao41 y463.length co41]) ?_ 1 _ rfl; (with_reducible repeat (first | refine qe0 ?_ _ | refine qf0 ?_ | refine qd0 ?_ _)); refine qo0 (cs := #[.int .i64 ((rd_T98 t448 (ji28)).f0), .int .i64 ((rd_T98 t448 (ji28)).f1), .string ((rd_T98 t448 (ji28)).f2), .slice A458_3 ((rd_T98 t448 (ji28)).f3).length c458_3]) ?_ 3 _ rfl; (with_reducible repeat (first | refine qe0 ?_ _ | refine qf0 ?_ | refine qd0 ?_ _)); exact BK459.out⟩, ⟨z12_0⟩⟩
      rw [if_neg c45] at H
      have c45b0 : ((Int.tmod t467 5) == 1) = false := beq_eq_false_iff_ne.mpr c45
      have c45b1 : ((Int.tmod t467 5) != 1) = true := bne_iff_ne.mpr c45
      by_cases c47 : (Int.tmod t467 5) = 2
      ·rw [if_pos c47] at H
       have c47b0 : ((Int.tmod t467 5) == 2) = true := beq_iff_eq.mpr c47
       have c47b1 : ((Int.tmod t467 5) != 2) = false := bne_eq_false_iff_eq.mpr c47
       clear c47
       by_cases c48 : (((rd_T98 t448 (ji28)).f2).size : Int) = 0
       ·rw [if_pos c48] at H
        have c48b0 : ((((rd_T98 t448 (ji28)).f2).size : Int) == 0) = true := beq_iff_eq.mpr c48
        have c48b1 : ((((rd_T98 t448 (ji28)).f2).size : Int) != 0) = false := bne_eq_false_iff_eq.mpr c48
        clear c48
        obtain rfl := Option.some.inj H
        have hcz49_0 : w40.cell? ⟨gb459, 0, none⟩ = some (.int .i64 ((rd_T98 t448 (ji28)).f0)) := (qb0 BK459.out 0).trans rfl
        have hcz49_1 : w40.cell? ⟨gb459, 1, none⟩ = some (.int .i64 ((rd_T98 t448 (ji28)).f1)) := (qb0 BK459.out 1).trans rfl
        have hcz49_2 : w40.cell? ⟨gb459, 2, none⟩ = some (.string ((rd_T98 t448 (ji28)).f2)) := (qb0 BK459.out 2).trans rfl
        have hcz49_3 : w40.cell? ⟨gb459, 3, none⟩ = some (.slice A458_3 ((rd_T98 t448 (ji28)).f3).length c458_3) := (qb0 BK459.out 3).trans rfl
        have hfz49_0 := qa0 BK459.out 0
        have hfz49_1 := qa0 BK459.out 1
        have hfz49_2 := qa0 BK459.out 2
        have hfz49_3 := qa0 BK459.out 3
        go_wp2
        go_ret
        exact ⟨z12_14, z12_0⟩
       rw [if_neg c48] at H
       have c48b0 : ((((rd_T98 t448 (ji28)).f2).size : Int) == 0) = false := beq_eq_false_iff_ne.mpr c48
       have c48b1 : ((((rd_T98 t448 (ji28)).f2).size : Int) != 0) = true := bne_iff_ne.mpr c48
       have c48b2 : ¬ ((rd_T98 t448 (ji28)).f2) = ByteArray.empty := fun h_ => c48 (by rw [h_]; rfl)
       replace H := Option.bind_eq_some_iff.mp H
       obtain ⟨t468, A500, H⟩ := H
       replace H : (if 0 ≤ (Int.tmod t468 (((rd_T98 t448 (ji28)).f2).size : Int)) then (if (Int.tmod t468 (((rd_T98 t448 (ji28)).f2).size : Int)) ≤ (((rd_T98 t448 (ji28)).f2).size : Int) then (if (Int.tmod t468 (((rd_T98 t448 (ji28)).f2).size : Int)) < (((rd_T98 t448 (ji28)).f2).size : Int) then ((laws_at.f l0 6).bind fun t469 => ((some (([Go.bits .xor .u8 (bt ((rd_T98 t448 (ji28)).f2) (Int.tmod t468 (((rd_T98 t448 (ji28)).f2).size : Int))) ((wrap64 (1 + (Int.tmod t469 200))) % 256)] : List Int) : List Int)).bind fun y470 => (if (((rd_T98 t448 (ji28)).f2).extract 0 ((Int.tmod t468 (((rd_T98 t448 (ji28)).f2).size : Int)) : Int).toNat).size + (strOfNums y470).size ≤ 9223372036854775807 then (if 0 ≤ (wrap64 ((Int.tmod t468 (((rd_T98 t448 (ji28)).f2).size : Int)) + 1)) then (if (wrap64 ((Int.tmod t468 (((rd_T98 t448 (ji28)).f2).size : Int)) + 1)) ≤ (((rd_T98 t448 (ji28)).f2).size : Int) then (if ((((rd_T98 t448 (ji28)).f2).extract 0 ((Int.tmod t468 (((rd_T98 t448 (ji28)).f2).size : Int)) : Int).toNat) ++ (strOfNums y470)).size + (((rd_T98 t448 (ji28)).f2).extract ((wrap64 ((Int.tmod t468 (((rd_T98 t448 (ji28)).f2).size : Int)) + 1)) : Int).toNat ((rd_T98 t448 (ji28)).f2).size).size ≤ 9223372036854775807 then (laws_FnChained.j2 kj22 t448 t451 ji28 ((rd_T98 t448 (ji28)).f0) ((rd_T98 t448 (ji28)).f1) (((((rd_T98 t448 (ji28)).f2).extract 0 ((Int.tmod t468 (((rd_T98 t448 (ji28)).f2).size : Int)) : Int).toNat) ++ (strOfNums y470)) ++ (((rd_T98 t448 (ji28)).f2).extract ((wrap64 ((Int.tmod t468 (((rd_T98 t448 (ji28)).f2).size : Int)) + 1)) : Int).toNat ((rd_T98 t448 (ji28)).f2).size)) y463) else (none)) else (none)) else (none)) else (none)))) else (none)) else (none)) else (none)) = some r := H
       have A50 := Aside0.mk A500
       clear A500
       obtain ⟨ji51, hji51⟩ : ∃ j_ : Int, (Int.tmod t468 (((rd_T98 t448 (ji28)).f2).size : Int)) = j_ := ⟨_, rfl⟩
       replace H : (if 0 ≤ (ji51) then (if (ji51) ≤ (((rd_T98 t448 (ji28)).f2).size : Int) then (if (ji51) < (((rd_T98 t448 (ji28)).f2).size : Int) then ((laws_at.f l0 6).bind fun t469 => ((some (([Go.bits .xor .u8 (bt ((rd_T98 t448 (ji28)).f2) (ji51)) ((wrap64 (1 + (Int.tmod t469 200))) % 256)] : List Int) : List Int)).bind fun y470 => (if (((rd_T98 t448 (ji28)).f2).extract 0 ((ji51) : Int).toNat).size + (strOfNums y470).size ≤ 9223372036854775807 then (if 0 ≤ (wrap64 ((ji51) + 1)) then (if (wrap64 ((ji51) + 1)) ≤ (((rd_T98 t448 (ji28)).f2).size : Int) then (if ((((rd_T98 t448 (ji28)).f2).extract 0 ((ji51) : Int).toNat) ++ (strOfNums y470)).size + (((rd_T98 t448 (ji28)).f2).extract ((wrap64 ((ji51) + 1)) : Int).toNat ((rd_T98 t448 (ji28)).f2).size).size ≤ 9223372036854775807 then (laws_FnChained.j2 kj22 t448 t451 ji28 ((rd_T98 t448 (ji28)).f0) ((rd_T98 t448 (ji28)).f1) (((((rd_T98 t448 (ji28)).f2).extract 0 ((ji51) : Int).toNat) ++ (strOfNums y470)) ++ (((rd_T98 t448 (ji28)).f2).extract ((wrap64 ((ji51) + 1)) : Int).toNat ((rd_T98 t448 (ji28)).f2).size)) y463) else (none)) else (none)) else (none)) else (none)))) else (none)) else (none)) else (none)) = some r := by first | (rw [hji51] at H; exact H) | (simp only [hji51] at H ⊢; exact H)
       (try rw [hji51] at A50)
       by_cases c52 : 0 ≤ (ji51)
       case neg => rw [if_neg c52] at H; exact absurd H (by simp)
       rw [if_pos c52] at H
       have c52b0 := eq_true c52
       have c52b1 : decide (0 ≤ (ji51)) = true := decide_eq_true c52
       clear c52
       by_cases c53 : (ji51) ≤ (((rd_T98 t448 (ji28)).f2).size : Int)
       case neg => rw [if_neg c53] at H; exact absurd H (by simp)
       rw [if_pos c53] at H
       have c53b0 := eq_true c53
       have c53b1 : decide ((ji51) ≤ (((rd_T98 t448 (ji28)).f2).size : Int)) = true := decide_eq_true c53
       clear c53
       by_cases c54 : (ji51) < (((rd_T98 t448 (ji28)).f2).size : Int)
       case neg => rw [if_neg c54] at H; exact absurd H (by simp)
       rw [if_pos c54] at H
       have c54b0 : decide ((ji51) < (((rd_T98 t448 (ji28)).f2).size : Int)) = true := decide_eq_true c54
       clear c54
       replace H := Option.bind_eq_some_iff.mp H
       obtain ⟨t469, A560, H⟩ := H
       replace H : ((some (([Go.bits .xor .u8 (bt ((rd_T98 t448 (ji28)).f2) (ji51)) ((wrap64 (1 + (Int.tmod t469 200))) % 256)] : List Int) : List Int)).bind fun y470 => (if (((rd_T98 t448 (ji28)).f2).extract 0 ((ji51) : Int).toNat).size + (strOfNums y470).size ≤ 9223372036854775807 then (if 0 ≤ (wrap64 ((ji51) + 1)) then (if (wrap64 ((ji51) + 1)) ≤ (((rd_T98 t448 (ji28)).f2).size : Int) then (if ((((rd_T98 t448 (ji28)).f2).extract 0 ((ji51) : Int).toNat) ++ (strOfNums y470)).size + (((rd_T98 t448 (ji28)).f2).extract ((wrap64 ((ji51) + 1)) : Int).toNat ((rd_T98 t448 (ji28)).f2).size).size ≤ 9223372036854775807 then (laws_FnChained.j2 kj22 t448 t451 ji28 ((rd_T98 t448 (ji28)).f0) ((rd_T98 t448 (ji28)).f1) (((((rd_T98 t448 (ji28)).f2).extract 0 ((ji51) : Int).toNat) ++ (strOfNums y470)) ++ (((rd_T98 t448 (ji28)).f2).extract ((wrap64 ((ji51) + 1)) : Int).toNat ((rd_T98 t448 (ji28)).f2).size)) y463) else (none)) else (none)) else (none)) else (none))) = some r := H
       have A56 := Aside0.mk A560
       clear A560
       obtain ⟨y470, hy470⟩ : ∃ y_ : List Int, y_ = (([Go.bits .xor .u8 (bt ((rd_T98 t448 (ji28)).f2) (ji51)) ((wrap64 (1 + (Int.tmod t469 200))) % 256)] : List Int)) := ⟨_, rfl⟩
       replace H : (if (((rd_T98 t448 (ji28)).f2).extract 0 ((ji51) : Int).toNat).size + (strOfNums y470).size ≤ 9223372036854775807 then (if 0 ≤ (wrap64 ((ji51) + 1)) then (if (wrap64 ((ji51) + 1)) ≤ (((rd_T98 t448 (ji28)).f2).size : Int) then (if ((((rd_T98 t448 (ji28)).f2).extract 0 ((ji51) : Int).toNat) ++ (strOfNums y470)).size + (((rd_T98 t448 (ji28)).f2).extract ((wrap64 ((ji51) + 1)) : Int).toNat ((rd_T98 t448 (ji28)).f2).size).size ≤ 9223372036854775807 then (laws_FnChained.j2 kj22 t448 t451 ji28 ((rd_T98 t448 (ji28)).f0) ((rd_T98 t448 (ji28)).f1) (((((rd_T98 t448 (ji28)).f2).extract 0 ((ji51) : Int).toNat) ++ (strOfNums y470)) ++ (((rd_T98 t448 (ji28)).f2).extract ((wrap64 ((ji51) + 1)) : Int).toNat ((rd_T98 t448 (ji28)).f2).size)) y463) else (none)) else (none)) else (none)) else (none)) = some r := by first | (rw [hy470]; with_reducible exact H) | (have H2_ := (Option.bind_some _ _).symm.trans H; rw [hy470]; with_reducible exact H2_) | (have H2_ := (Option.bind_some _ _).symm.trans H; with_reducible exact H2_) | with_reducible exact H | (rw [hy470]; exact H) | exact H
       have Ny470 := Aside0.mk hy470
       clear hy470
       by_cases c57 : (((rd_T98 t448 (ji28)).f2).extract 0 ((ji51) : Int).toNat).size + (strOfNums y470).size ≤ 9223372036854775807
       case neg => rw [if_neg c57] at H; exact absurd H (by simp)
       rw [if_pos c57] at H
       have c57b0 := eq_true c57
       have c57b1 : decide ((((rd_T98 t448 (ji28)).f2).extract 0 ((ji51) : Int).toNat).size + (strOfNums y470).size ≤ 9223372036854775807) = true := decide_eq_true c57
       have c57b3 : (9223372036854775807 < (ji51).toNat + (strOfNums y470).size) = False := eq_false (by have a_ : 0 ≤ (ji51) := of_decide_eq_true (by assumption); have b_ : (ji51) ≤ (((rd_T98 t448 (ji28)).f2).size : Int) := of_decide_eq_true (by assumption); have h_ := c57; rw [ByteArray.size_extract] at h_; omega)
       try have c57b2 : (9223372036854775807 < (((rd_T98 t448 (ji28)).f2).extract 0 ((ji51) : Int).toNat).size + (strOfNums y470).size) = False := eq_false (Nat.not_lt.2 c57)
       obtain ⟨ji58, hji58⟩ : ∃ j_ : Int, (wrap64 ((ji51) + 1)) = j_ := ⟨_, rfl⟩
       replace H : (if 0 ≤ (ji58) then (if (ji58) ≤ (((rd_T98 t448 (ji28)).f2).size : Int) then (if ((((rd_T98 t448 (ji28)).f2).extract 0 ((ji51) : Int).toNat) ++ (strOfNums y470)).size + (((rd_T98 t448 (ji28)).f2).extract ((ji58) : Int).toNat ((rd_T98 t448 (ji28)).f2).size).size ≤ 9223372036854775807 then (laws_FnChained.j2 kj22 t448 t451 ji28 ((rd_T98 t448 (ji28)).f0) ((rd_T98 t448 (ji28)).f1) (((((rd_T98 t448 (ji28)).f2).extract 0 ((ji51) : Int).toNat) ++ (strOfNums y470)) ++ (((rd_T98 t448 (ji28)).f2).extract ((ji58) : Int).toNat ((rd_T98 t448 (ji28)).f2).size)) y463) else (none)) else (none)) else (none)) = some r := by first | (rw [hji58] at H; exact H) | (simp only [hji58] at H ⊢; exact H)
       (try rw [hji58] at A50)
       (try rw [hji58] at A56)
       have hji58w : (IntKind.i64.wrap ((ji51) + 1)) = ji58 := (i64_w _).trans hji58
       by_cases c59 : 0 ≤ (ji58)
       case neg => rw [if_neg c59] at H; exact absurd H (by simp)
       rw [if_pos c59] at H
       have c59b0 := eq_true c59
       have c59b1 : decide (0 ≤ (ji58)) = true := decide_eq_true c59
       clear c59
       by_cases c60 : (ji58) ≤ (((rd_T98 t448 (ji28)).f2).size : Int)
       case neg => rw [if_neg c60] at H; exact absurd H (by simp)
       rw [if_pos c60] at H
       have c60b0 := eq_true c60
       have c60b1 : decide ((ji58) ≤ (((rd_T98 t448 (ji28)).f2).size : Int)) = true := decide_eq_true c60
       clear c60
       by_cases c61 : ((((rd_T98 t448 (ji28)).f2).extract 0 ((ji51) : Int).toNat) ++ (strOfNums y470)).size + (((rd_T98 t448 (ji28)).f2).extract ((ji58) : Int).toNat ((rd_T98 t448 (ji28)).f2).size).size ≤ 9223372036854775807
       case neg => rw [if_neg c61] at H; exact absurd H (by simp)
       rw [if_pos c61] at H
       have c61b0 := eq_true c61
       have c61b1 : decide (((((rd_T98 t448 (ji28)).f2).extract 0 ((ji51) : Int).toNat) ++ (strOfNums y470)).size + (((rd_T98 t448 (ji28)).f2).extract ((ji58) : Int).toNat ((rd_T98 t448 (ji28)).f2).size).size ≤ 9223372036854775807) = true := decide_eq_true c61
       have c61b3 : (9223372036854775807 < (ji51).toNat + (strOfNums y470).size + (((rd_T98 t448 (ji28)).f2).size - (ji58).toNat)) = False := eq_false (by have a_ : 0 ≤ (ji51) := of_decide_eq_true (by assumption); have b_ : (ji51) ≤ (((rd_T98 t448 (ji28)).f2).size : Int) := of_decide_eq_true (by assumption); have h_ := c61; rw [ByteArray.size_append, ByteArray.size_extract, ByteArray.size_extract] at h_; omega)
       try have c61b2 : (9223372036854775807 < ((((rd_T98 t448 (ji28)).f2).extract 0 ((ji51) : Int).toNat) ++ (strOfNums y470)).size + (((rd_T98 t448 (ji28)).f2).extract ((ji58) : Int).toNat ((rd_T98 t448 (ji28)).f2).size).size) = False := eq_false (Nat.not_lt.2 c61)
       have H' := Aside0.mk H
       clear H
       have hcz62_0 : w40.cell? ⟨gb459, 0, none⟩ = some (.int .i64 ((rd_T98 t448 (ji28)).f0)) := (qb0 BK459.out 0).trans rfl
       have hcz62_1 : w40.cell? ⟨gb459, 1, none⟩ = some (.int .i64 ((rd_T98 t448 (ji28)).f1)) := (qb0 BK459.out 1).trans rfl
       have hcz62_2 : w40.cell? ⟨gb459, 2, none⟩ = some (.string ((rd_T98 t448 (ji28)).f2)) := (qb0 BK459.out 2).trans rfl
       have hcz62_3 : w40.cell? ⟨gb459, 3, none⟩ = some (.slice A458_3 ((rd_T98 t448 (ji28)).f3).length c458_3) := (qb0 BK459.out 3).trans rfl
       have hfz62_0 := qa0 BK459.out 0
       have hfz62_1 := qa0 BK459.out 1
       have hfz62_2 := qa0 BK459.out 2
       have hfz62_3 := qa0 BK459.out 3
       try go_wp2
       have n0_ : Aside0 (Kd.N k98 98 (w40.setCell ⟨gb459, 3, none⟩ (.slice Ao41 y463.length co41)) w.heap.size (fun k_ => some k_ ≠ (.slice Ao41 y463.length co41 : Value).ownBlock ∧ k_ ≠ gb459) (.slice (some ad458) t448.length co8) t448) := ⟨z12_8⟩
       have n1_ : Aside0 (Kd.V k100 100 (w40.setCell ⟨gb459, 3, none⟩ (.slice Ao41 y463.length co41)) w.heap.size (fun k_ => some k_ ≠ (.slice (some ad458) t448.length co8 : Value).ownBlock ∧ some k_ ≠ (.slice Ao41 y463.length co41 : Value).ownBlock ∧ k_ ≠ gb459) (.slice A458_3 ((rd_T98 t448 (ji28)).f3).length c458_3) ((rd_T98 t448 (ji28)).f3)) := ⟨z12_11⟩
       have n2_ : Aside0 (Kd.R k100 100 (w40.setCell ⟨gb459, 3, none⟩ (.slice Ao41 y463.length co41)) w.heap.size (fun _ => True) (.slice Ao41 y463.length co41) y463) := ⟨z12_9⟩
       have n3_ : Aside0 ((w40.setCell ⟨gb459, 3, none⟩ (.slice Ao41 y463.length co41)).heap[gb459]? = some (.cells #[.int .i64 ((rd_T98 t448 (ji28)).f0), .int .i64 ((rd_T98 t448 (ji28)).f1), .string ((rd_T98 t448 (ji28)).f2), .slice Ao41 y463.length co41] 98 (0, 0))) := ⟨z12_3⟩
       have n4_ : Aside0 (Below w.heap.size w (w40.setCell ⟨gb459, 3, none⟩ (.slice Ao41 y463.length co41))) := ⟨z12_0⟩
       (try clear HO_3)
       (try clear HL458_3)
       (try clear HO465)
       (try clear BK459)
       (try clear HB)
       generalize (w40.setCell ⟨gb459, 3, none⟩ (.slice Ao41 y463.length co41)) = w63 at n0_ n1_ n2_ n3_ n4_ ⊢
       have HO_3 := n0_
       have HL458_3 := n1_
       have HO465 := n2_
       have BK459 := n3_
       have HB := n4_
       clear n0_ n1_ n2_ n3_ n4_
       (try ((conv in (World.drewN w63 _) => skip); generalize hDN_ : World.drewN w63 _ = wN_; obtain ⟨m_, hm_⟩ : ∃ m_, World.drewN w63 m_ = wN_ := ⟨_, hDN_⟩; clear hDN_; have q0_ := Kd.qv1 HO_3.out m_; rw [hm_] at q0_; have q1_ := Kd.V_drewN HL458_3.out m_; rw [hm_] at q1_; have q2_ := Kd.qp0 HO465.out m_; rw [hm_] at q2_; have q3_ := qe0 BK459.out m_; rw [hm_] at q3_; have q4_ := qh0 HB.out m_; rw [hm_] at q4_; clear hm_; clear HB BK459 HO465 HL458_3 HO_3; have HO_3 := Aside0.mk q0_; have HL458_3 := Aside0.mk q1_; have HO465 := Aside0.mk q2_; have BK459 := Aside0.mk q3_; have HB := Aside0.mk q4_; clear q0_ q1_ q2_ q3_ q4_; rename World => w63))
       have n0_ := Aside0.mk (Kd.qf2 HO_3.out)
       have n1_ := Aside0.mk (Kd.V_drew HL458_3.out)
       have n2_ := Aside0.mk (Kd.qu0 HO465.out)
       have n3_ := Aside0.mk (qf0 BK459.out)
       have n4_ := Aside0.mk (qi0 HB.out)
       clear HO_3
       clear HL458_3
       clear HO465
       clear BK459
       clear HB
       have HO_3 := n0_
       have HL458_3 := n1_
       have HO465 := n2_
       have BK459 := n3_
       have HB := n4_
       clear n0_ n1_ n2_ n3_ n4_
       refine start_ (n := 7) (S := fun w' => w'.cell? ⟨gb459, 0, none⟩ = some (.int .i64 ((rd_T98 t448 (ji28)).f0)) ∧ w'.cell? ⟨gb459, 1, none⟩ = some (.int .i64 ((rd_T98 t448 (ji28)).f1)) ∧ w'.cell? ⟨gb459, 2, none⟩ = some (.string ((rd_T98 t448 (ji28)).f2)) ∧ w'.cell? ⟨gb459, 3, none⟩ = some (.slice Ao41 y463.length co41)) (ds := []) #[false, false, false, false, false, false, false] z12_10 rfl rfl ⟨(qb0 BK459.out 0).trans rfl, (qb0 BK459.out 1).trans rfl, (qb0 BK459.out 2).trans rfl, (qb0 BK459.out 3).trans rfl⟩ (fun hHeld => ?_)
       generalize w63.drew = w64 at HO_3 HL458_3 HO465 BK459 HB hHeld ⊢
       refine pure_ (i := 0) (N := some 74) (v := ?_) (a' := ?_) #[true, false, false, false, false, false, false] rfl rfl z12_10 (fun _ _ _ h => h) (Or.inl ⟨by rfl, ?_⟩) ?_ ?_
       rotate_left
       ·intro w'
        go_simp
        with_reducible rfl
       rotate_left
       ·simp only [Act.put, List.setIfInBounds_toArray, List.set_cons_zero, List.set_cons_succ, i64_w, i32_w]
        rfl
       refine pure_ (i := 2) (N := some 76) (v := ?_) (a' := ?_) #[true, false, true, false, false, false, false] rfl rfl z12_10 (fun _ _ _ h => h) (Or.inl ⟨by rfl, ?_⟩) ?_ ?_
       rotate_left
       ·intro w'
        go_simp
        with_reducible rfl
       rotate_left
       ·simp only [Act.put, List.setIfInBounds_toArray, List.set_cons_zero, List.set_cons_succ, i64_w, i32_w]
        rfl
       refine take_ (i := 3) (N := some 77) (v := ?_) (a' := ?_) #[true, false, true, true, false, false, false] rfl rfl z12_10 (fun _ _ _ h => h) (Or.inl ⟨by rfl, ?_⟩) hHeld ?_ ?_
       rotate_left
       ·rintro w' ⟨s0, s1, s2, s3⟩
        go_simp
        with_reducible rfl
       rotate_left
       ·simp only [Act.put, List.setIfInBounds_toArray, List.set_cons_zero, List.set_cons_succ, i64_w, i32_w]
        rfl
       refine pure_ (i := 4) (N := some 78) (v := ?_) (a' := ?_) #[true, false, true, true, true, false, false] rfl rfl z12_10 (fun _ _ _ h => h) (Or.inl ⟨by rfl, ?_⟩) ?_ ?_
       rotate_left
       ·intro w'
        go_simp
        with_reducible rfl
       rotate_left
       ·simp only [Act.put, List.setIfInBounds_toArray, List.set_cons_zero, List.set_cons_succ, i64_w, i32_w]
        rfl
       refine one_ (i := 1) (N := some 75) #[true, true, true, true, true, false, false] rfl rfl z12_10 (by decide) (fun K hK => ?_)
       refine goes_ Try.func40 z12_10 rfl #[.slice A0 l0.length c0, .int .i64 5] (by rfl) rfl rfl z12_2 ?_
       with_reducible refine (laws_at.calls _ _ l0 5 t468 _ ?side1 ?side2 A50.out).mono ?_
       (case side1 => exact z12_12)
       (case side2 => exact HC0.out)
       rintro e w' ⟨rfl, ⟨nd, rfl⟩⟩
       refine ⟨_, rfl, ?_⟩
       refine hK.out _ _ ⟨(qb0 BK459.out 0).trans rfl, (qb0 BK459.out 1).trans rfl, (qb0 BK459.out 2).trans rfl, (qb0 BK459.out 3).trans rfl⟩ (fun hHeld => ?_)
       clear hK K
       refine norm_ (a' := ?_) ?_ ?_
       rotate_left
       ·show Act.put _ (some 75) _ = _
        simp only [Act.put, List.setIfInBounds_toArray, List.set_cons_zero, List.set_cons_succ, i64_w, i32_w]
        rfl
       refine pure_ (i := 5) (N := some 79) (v := ?_) (a' := ?_) #[true, true, true, true, true, true, false] rfl rfl z12_10 (fun _ _ _ h => h) (Or.inl ⟨by rfl, ?_⟩) ?_ ?_
       rotate_left
       ·intro w'
        go_simp
        with_reducible rfl
       rotate_left
       ·simp only [Act.put, List.setIfInBounds_toArray, List.set_cons_zero, List.set_cons_succ, i64_w, i32_w]
        rfl
       refine pure_ (i := 6) (N := some 8) (v := ?_) (a' := ?_) #[true, true, true, true, true, true, true] rfl rfl z12_10 (fun _ _ _ h => h) (Or.inl ⟨by rfl, ?_⟩) ?_ ?_
       rotate_left
       ·intro w'
        go_simp
        with_reducible rfl
       rotate_left
       ·simp only [Act.put, List.setIfInBounds_toArray, List.set_cons_zero, List.set_cons_succ, i64_w, i32_w]
        rfl
       refine done_ z12_10 ?_
       try go_wp2
       (try (rw [drewN_self w64]; generalize hq_ : World.drewN w64 _ = w64; have n0_ : Aside0 (Kd.V k100 100 w64 w.heap.size (fun k_ => some k_ ≠ (.slice Ao41 y463.length co41 : Value).ownBlock ∧ some k_ ≠ (.slice (some ad458) t448.length co8 : Value).ownBlock ∧ k_ ≠ gb459) (.slice A458_3 ((rd_T98 t448 (ji28)).f3).length c458_3) ((rd_T98 t448 (ji28)).f3)) := ⟨z12_16⟩; have n1_ : Aside0 (Kd.R k100 100 w64 w.heap.size (fun _ => True) (.slice Ao41 y463.length co41) y463) := ⟨z12_25⟩; have n2_ : Aside0 (Kd.N k98 98 w64 w.heap.size (fun k_ => some k_ ≠ (.slice Ao41 y463.length co41 : Value).ownBlock ∧ k_ ≠ gb459) (.slice (some ad458) t448.length co8) t448) := ⟨z12_17⟩; have n3_ : Aside0 (w64.heap[gb459]? = some (.cells #[.int .i64 ((rd_T98 t448 (ji28)).f0), .int .i64 ((rd_T98 t448 (ji28)).f1), .string ((rd_T98 t448 (ji28)).f2), .slice Ao41 y463.length co41] 98 (0, 0))) := ⟨z12_22⟩; have n4_ : Aside0 (Below w.heap.size w w64) := ⟨z12_15⟩; clear HL458_3 HO465 HO_3 BK459 HB hq_; have HL458_3 := n0_; have HO465 := n1_; have HO_3 := n2_; have BK459 := n3_; have HB := n4_; clear n0_ n1_ n2_ n3_ n4_))
       (try ((conv in (World.drewN w64 _) => skip); generalize hDN_ : World.drewN w64 _ = wN_; obtain ⟨m_, hm_⟩ : ∃ m_, World.drewN w64 m_ = wN_ := ⟨_, hDN_⟩; clear hDN_; have q0_ := Kd.qv1 HO_3.out m_; rw [hm_] at q0_; have q1_ := Kd.V_drewN HL458_3.out m_; rw [hm_] at q1_; have q2_ := Kd.qp0 HO465.out m_; rw [hm_] at q2_; have q3_ := qe0 BK459.out m_; rw [hm_] at q3_; have q4_ := qh0 HB.out m_; rw [hm_] at q4_; clear hm_; clear HB BK459 HO465 HL458_3 HO_3; have HO_3 := Aside0.mk q0_; have HL458_3 := Aside0.mk q1_; have HO465 := Aside0.mk q2_; have BK459 := Aside0.mk q3_; have HB := Aside0.mk q4_; clear q0_ q1_ q2_ q3_ q4_; rename World => w64))
       have n0_ := Aside0.mk (Kd.qf2 HO_3.out)
       have n1_ := Aside0.mk (Kd.V_drew HL458_3.out)
       have n2_ := Aside0.mk (Kd.qu0 HO465.out)
       have n3_ := Aside0.mk (qf0 BK459.out)
       have n4_ := Aside0.mk (qi0 HB.out)
       clear HO_3
       clear HL458_3
       clear HO465
       clear BK459
       clear HB
       have HO_3 := n0_
       have HL458_3 := n1_
       have HO465 := n2_
       have BK459 := n3_
       have HB := n4_
       clear n0_ n1_ n2_ n3_ n4_
       have p55 : 0 ≤ ((ji51) : Int) := of_decide_eq_true z12_5
       have q55 : (ji51) < (((rd_T98 t448 (ji28)).f2).size : Int) := of_decide_eq_true z12_5
       have hx55 := bt_at ((rd_T98 t448 (ji28)).f2) (ji51)
       replace p55 := eq_true p55
       replace q55 := eq_true q55
       refine start_ (n := 25) (S := fun w' => w'.cell? ⟨gb459, 0, none⟩ = some (.int .i64 ((rd_T98 t448 (ji28)).f0)) ∧ w'.cell? ⟨gb459, 1, none⟩ = some (.int .i64 ((rd_T98 t448 (ji28)).f1)) ∧ w'.cell? ⟨gb459, 2, none⟩ = some (.string ((rd_T98 t448 (ji28)).f2)) ∧ w'.cell? ⟨gb459, 3, none⟩ = some (.slice Ao41 y463.length co41)) (ds := [24]) (rb12 [0, 25]) z12_10 rfl rfl ⟨(qb0 BK459.out 0).trans rfl, (qb0 BK459.out 1).trans rfl, (qb0 BK459.out 2).trans rfl, (qb0 BK459.out 3).trans rfl⟩ (fun hHeld => ?_); refine with_tabW laws_FnChained.tab22 laws_FnChained.bits22 (fun HT_ HW_ => ?_)
       generalize w64.drew = w65 at HO_3 HL458_3 HO465 BK459 HB hHeld ⊢
       refine pure_ (i := 0) (N := some 80) (v := ?_) (a' := ?_) (rb12 [1, 24]) rfl rfl (qs0 HT_.out z12_10) (fun _ _ _ h => h) (Or.inl ⟨by rfl, ?_⟩) ?_ ?_
       rotate_left
       ·intro w'
        go_simp
        with_reducible rfl
       rotate_left
       ·simp only [Act.put, List.setIfInBounds_toArray, List.set_cons_zero, List.set_cons_succ, i64_w, i32_w]
        rfl
       refine pure_ (i := 2) (N := some 82) (v := ?_) (a' := ?_) (rb12 [1, 1, 1, 22]) rfl rfl (qs0 HT_.out z12_10) (fun _ _ _ h => h) (Or.inl ⟨by rfl, ?_⟩) ?_ ?_
       rotate_left
       ·intro w'
        go_simp
        with_reducible rfl
       rotate_left
       ·simp only [Act.put, List.setIfInBounds_toArray, List.set_cons_zero, List.set_cons_succ, i64_w, i32_w]
        rfl
       refine pure_ (i := 4) (N := some 84) (v := ?_) (a' := ?_) (rb12 [1, 1, 1, 1, 1, 20]) rfl rfl (qs0 HT_.out z12_10) (fun _ _ _ h => h) (Or.inl ⟨by rfl, ?_⟩) ?_ ?_
       rotate_left
       ·intro w'
        go_simp
        with_reducible rfl
       rotate_left
       ·simp only [Act.put, List.setIfInBounds_toArray, List.set_cons_zero, List.set_cons_succ, i64_w, i32_w]
        rfl
       refine pure_ (i := 6) (N := some 86) (v := ?_) (a' := ?_) (rb12 [1, 1, 1, 1, 1, 1, 1, 18]) rfl rfl (qs0 HT_.out z12_10) (fun _ _ _ h => h) (Or.inl ⟨by rfl, ?_⟩) ?_ ?_
       rotate_left
       ·intro w'
        go_simp
        with_reducible rfl
       rotate_left
       ·simp only [Act.put, List.setIfInBounds_toArray, List.set_cons_zero, List.set_cons_succ, i64_w, i32_w]
        rfl
       refine pure_ (i := 8) (N := some 88) (v := ?_) (a' := ?_) (rb12 [1, 1, 1, 1, 1, 1, 1, 1, 1, 16]) rfl rfl (qs0 HT_.out z12_10) (fun _ _ _ h => h) (Or.inl ⟨by rfl, ?_⟩) ?_ ?_
       rotate_left
       ·intro w'
        go_simp
        with_reducible rfl
       rotate_left
       ·simp only [Act.put, List.setIfInBounds_toArray, List.set_cons_zero, List.set_cons_succ, i64_w, i32_w]
        rfl
       refine pure_ (i := 17) (N := some 97) (v := ?_) (a' := ?_) (rb12 [1, 1, 1, 1, 1, 1, 1, 1, 1, 8, 1, 7]) rfl rfl (qs0 HT_.out z12_10) (fun _ _ _ h => h) (Or.inl ⟨by rfl, ?_⟩) ?_ ?_
       rotate_left
       ·intro w'
        go_simp
        with_reducible rfl
       rotate_left
       ·simp only [Act.put, List.setIfInBounds_toArray, List.set_cons_zero, List.set_cons_succ, i64_w, i32_w]
        rfl
       refine pure_ (i := 19) (N := some 99) (v := ?_) (a' := ?_) (rb12 [1, 1, 1, 1, 1, 1, 1, 1, 1, 8, 1, 1, 1, 5]) rfl rfl (qs0 HT_.out z12_10) (fun _ _ _ h => h) (Or.inl ⟨by rfl, ?_⟩) ?_ ?_
       rotate_left
       ·intro w'
        go_simp
        with_reducible rfl
       rotate_left
       ·simp only [Act.put, List.setIfInBounds_toArray, List.set_cons_zero, List.set_cons_succ, i64_w, i32_w]
        rfl
       refine pure_ (i := 20) (N := some 100) (v := ?_) (a' := ?_) (rb12 [1, 1, 1, 1, 1, 1, 1, 1, 1, 8, 1, 1, 2, 4]) rfl rfl (qs0 HT_.out z12_10) (fun _ _ _ h => h) (Or.inl ⟨by rfl, ?_⟩) ?_ ?_
       rotate_left
       ·intro w'
        go_simp
        with_reducible rfl
       rotate_left
       ·simp only [Act.put, List.setIfInBounds_toArray, List.set_cons_zero, List.set_cons_succ, i64_w, i32_w]
        rfl
       refine take_ (i := 1) (N := some 81) (v := ?_) (a' := ?_) (rb12 [3, 1, 1, 1, 1, 1, 1, 8, 1, 1, 2, 4]) rfl rfl (ql1 HT_.out HW_.out z12_10) (fun _ _ _ h => h) (Or.inl ⟨by rfl, ?_⟩) hHeld ?_ ?_
       rotate_left
       ·rintro w' ⟨s0, s1, s2, s3⟩
        go_simp
        with_reducible rfl
       rotate_left
       ·simp only [Act.put, List.setIfInBounds_toArray, List.set_cons_zero, List.set_cons_succ, i64_w, i32_w]
        rfl
       refine pure_ (i := 3) (N := some 83) (v := ?_) (a' := ?_) (rb12 [5, 1, 1, 1, 1, 8, 1, 1, 2, 4]) rfl rfl (qs0 HT_.out z12_10) (fun _ _ _ h => h) (Or.inl ⟨by rfl, ?_⟩) ?_ ?_
       rotate_left
       ·intro w'
        go_simp
        with_reducible rfl
       rotate_left
       ·simp only [Act.put, List.setIfInBounds_toArray, List.set_cons_zero, List.set_cons_succ, i64_w, i32_w]
        rfl
       refine take_ (i := 5) (N := some 85) (v := ?_) (a' := ?_) (rb12 [7, 1, 1, 8, 1, 1, 2, 4]) rfl rfl (ql1 HT_.out HW_.out z12_10) (fun _ _ _ h => h) (Or.inl ⟨by rfl, ?_⟩) hHeld ?_ ?_
       rotate_left
       ·rintro w' ⟨s0, s1, s2, s3⟩
        go_simp
        with_reducible rfl
       rotate_left
       ·simp only [Act.put, List.setIfInBounds_toArray, List.set_cons_zero, List.set_cons_succ, i64_w, i32_w]
        rfl
       refine take_ (i := 7) (N := some 87) (v := ?_) (a' := ?_) (rb12 [9, 8, 1, 1, 2, 4]) rfl rfl (ql1 HT_.out HW_.out z12_10) (fun _ _ _ h => h) (Or.inl ⟨by rfl, ?_⟩) hHeld ?_ ?_
       rotate_left
       ·rintro w' ⟨s0, s1, s2, s3⟩
        go_simp
        with_reducible rfl
       rotate_left
       ·simp only [Act.put, List.setIfInBounds_toArray, List.set_cons_zero, List.set_cons_succ, i64_w, i32_w]
        rfl
       refine take_ (i := 18) (N := some 98) (v := ?_) (a' := ?_) (rb12 [9, 8, 4, 4]) rfl rfl (ql1 HT_.out HW_.out z12_10) (fun _ _ _ h => h) (Or.inl ⟨by rfl, ?_⟩) hHeld ?_ ?_
       rotate_left
       ·rintro w' ⟨s0, s1, s2, s3⟩
        go_simp
        with_reducible rfl
       rotate_left
       ·simp only [Act.put, List.setIfInBounds_toArray, List.set_cons_zero, List.set_cons_succ, i64_w, i32_w]
        rfl
       refine pure_ (i := 21) (N := some 101) (v := ?_) (a' := ?_) (rb12 [9, 8, 5, 3]) rfl rfl (qs0 HT_.out z12_10) (fun _ _ _ h => h) (Or.inl ⟨by rfl, ?_⟩) ?_ ?_
       rotate_left
       ·intro w'
        go_simp
        with_reducible rfl
       rotate_left
       ·simp only [Act.put, List.setIfInBounds_toArray, List.set_cons_zero, List.set_cons_succ, i64_w, i32_w]
        rfl
       refine one_ (i := 9) (N := some 89) (rb12 [10, 7, 5, 3]) rfl rfl (qt1 HT_.out z12_10) (by decide) (fun K hK => ?_)
       refine goes_ Try.func40 z12_10 rfl #[.slice A0 l0.length c0, .int .i64 6] (by rfl) rfl rfl z12_2 ?_
       with_reducible refine (laws_at.calls _ _ l0 6 t469 _ ?side1 ?side2 A56.out).mono ?_
       (case side1 => exact z12_12)
       (case side2 => exact HC0.out)
       rintro e w' ⟨rfl, ⟨nd, rfl⟩⟩
       refine ⟨_, rfl, ?_⟩
       refine hK.out _ _ ⟨(qb0 BK459.out 0).trans rfl, (qb0 BK459.out 1).trans rfl, (qb0 BK459.out 2).trans rfl, (qb0 BK459.out 3).trans rfl⟩ (fun hHeld => ?_)
       clear hK K
       refine norm_ (a' := ?_) ?_ ?_
       rotate_left
       ·show Act.put _ (some 89) _ = _
        simp only [Act.put, List.setIfInBounds_toArray, List.set_cons_zero, List.set_cons_succ, i64_w, i32_w]
        rfl
       refine pure_ (i := 10) (N := some 90) (v := ?_) (a' := ?_) (rb12 [11, 6, 5, 3]) rfl rfl (qs0 HT_.out z12_10) (fun _ _ _ h => h) (Or.inl ⟨by rfl, ?_⟩) ?_ ?_
       rotate_left
       ·intro w'
        go_simp
        with_reducible rfl
       rotate_left
       ·simp only [Act.put, List.setIfInBounds_toArray, List.set_cons_zero, List.set_cons_succ, i64_w, i32_w]
        rfl
       refine pure_ (i := 11) (N := some 91) (v := ?_) (a' := ?_) (rb12 [12, 5, 5, 3]) rfl rfl (qs0 HT_.out z12_10) (fun _ _ _ h => h) (Or.inl ⟨by rfl, ?_⟩) ?_ ?_
       rotate_left
       ·intro w'
        go_simp
        with_reducible rfl
       rotate_left
       ·simp only [Act.put, List.setIfInBounds_toArray, List.set_cons_zero, List.set_cons_succ, i64_w, i32_w]
        rfl
       refine pure_ (i := 12) (N := some 92) (v := ?_) (a' := ?_) (rb12 [13, 4, 5, 3]) rfl rfl (qs0 HT_.out z12_10) (fun _ _ _ h => h) (Or.inl ⟨by rfl, ?_⟩) ?_ ?_
       rotate_left
       ·intro w'
        go_simp
        with_reducible rfl
       rotate_left
       ·simp only [Act.put, List.setIfInBounds_toArray, List.set_cons_zero, List.set_cons_succ, i64_w, i32_w]
        rfl
       refine pure_ (i := 13) (N := some 93) (v := ?_) (a' := ?_) (rb12 [14, 3, 5, 3]) rfl rfl (qs0 HT_.out z12_10) (fun _ _ _ h => h) (Or.inl ⟨by rfl, ?_⟩) ?_ ?_
       rotate_left
       ·intro w'
        go_simp
        with_reducible rfl
       rotate_left
       ·simp only [Act.put, List.setIfInBounds_toArray, List.set_cons_zero, List.set_cons_succ, i64_w, i32_w]
        rfl
       refine one_ (i := 14) (N := some 94) (rb12 [15, 2, 5, 3]) rfl rfl (qt1 HT_.out z12_10) (by decide) (fun K hK => ?_)
       refine Kd.R_lit_step (Kd.int .u8) _ 5 ?hg (N := 94) ?hd (xs := ([Go.bits .xor .u8 (bt ((rd_T98 t448 (ji28)).f2) (ji51)) ((wrap64 (1 + (Int.tmod t469 200))) % 256)] : List Int)) (inner := [.int .u8 (Go.bits .xor .u8 (bt ((rd_T98 t448 (ji28)).f2) (ji51)) ((wrap64 (1 + (Int.tmod t469 200))) % 256))]) (ok := fun _ => True) (okp := fun _ => True) ?hr ?hp (fun _ hk => hk) trivial (Below.refl _ _) (Nat.le_refl _) (by simp) ?_; (case hd => rfl); (case hg => rfl); (case hr => exact z12_31); (case hp => exact (Reps.one (show Kd.M (Kd.int .u8) _ _ _ (Go.bits .xor .u8 (bt ((rd_T98 t448 (ji28)).f2) (ji51)) ((wrap64 (1 + (Int.tmod t469 200))) % 256)) [.int .u8 (Go.bits .xor .u8 (bt ((rd_T98 t448 (ji28)).f2) (ji51)) ((wrap64 (1 + (Int.tmod t469 200))) % 256))] from rfl) (Reps.none _ _)))
       intro v471 w66 ho67 hb hg_ hnew_
       clear hg_ hnew_
       (first | rw [← Ny470.out] at ho67 | (simp only [Int.reduceToNat] at ho67; rw [← Ny470.out] at ho67))
       have n0_ := Aside0.mk (Kd.N_elder' z12_4 (Kd.R_base ho67) hb)
       have n1_ := Aside0.mk (Kd.V_elder' (by (with_reducible repeat (first | apply Kd.V_alloc | apply Kd.V_drewN | apply Kd.V_drew)); exact HL458_3.out) (Kd.R_base ho67) hb)
       have n2_ := Aside0.mk (Kd.qy1 z12_23 hb)
       have n3_ := Aside0.mk (Kd.qu1 ho67 (qv0 z12_0))
       have n4_ := Aside0.mk (qz0 (g := gb459) (o := .cells #[.int .i64 ((rd_T98 t448 (ji28)).f0), .int .i64 ((rd_T98 t448 (ji28)).f1), .string ((rd_T98 t448 (ji28)).f2), .slice Ao41 y463.length co41] 98 (0, 0)) z12_6 hb)
       have n5_ := Aside0.mk (ql0 z12_0 hb)
       clear HO_3
       clear HL458_3
       clear HO465
       clear BK459
       clear HB
       have HO_3 := n0_
       have HL458_3 := n1_
       have HO465 := n2_
       have HO472 := n3_
       have BK459 := n4_
       have HB := n5_
       clear n0_ n1_ n2_ n3_ n4_ n5_
       clear hb ho67
       refine hK.out _ _ ⟨(qb0 BK459.out 0).trans rfl, (qb0 BK459.out 1).trans rfl, (qb0 BK459.out 2).trans rfl, (qb0 BK459.out 3).trans rfl⟩ (fun hHeld => ?_)
       clear hK K
       refine norm_ (a' := ?_) ?_ ?_
       rotate_left
       ·show Act.put _ (some 94) _ = _
        simp only [Act.put, List.setIfInBounds_toArray, List.set_cons_zero, List.set_cons_succ, i64_w, i32_w]
        rfl
       refine one_ (i := 15) (N := some 95) (rb12 [16, 1, 5, 3]) rfl rfl (qt1 HT_.out z12_10) (by decide) (fun K hK => ?_)
       have hcv68 := own_string (P := Try.prog) Try.underlying22 Try.underlying5 Try.underlying9 (Kd.own_of_R HO472.out)
       refine value_ (w1 := ?_) (v := ?_) (by rfl) rfl ?_ ?_
       rotate_left 2
       ·go_simp
        constructor
        ·rfl
        ·rfl
       clear hcv68
       refine hK.out _ _ ⟨(qb0 BK459.out 0).trans rfl, (qb0 BK459.out 1).trans rfl, (qb0 BK459.out 2).trans rfl, (qb0 BK459.out 3).trans rfl⟩ (fun hHeld => ?_)
       clear hK K
       refine norm_ (a' := ?_) ?_ ?_
       rotate_left
       ·show Act.put _ (some 95) _ = _
        simp only [Act.put, List.setIfInBounds_toArray, List.set_cons_zero, List.set_cons_succ, i64_w, i32_w]
        rfl
       refine pure_ (i := 16) (N := some 96) (v := ?_) (a' := ?_) (rb12 [22, 3]) rfl rfl (qs0 HT_.out z12_10) (fun _ _ _ h => h) (Or.inl ⟨by rfl, ?_⟩) ?_ ?_
       rotate_left
       ·intro w'
        go_simp
        with_reducible rfl
       rotate_left
       ·simp only [Act.put, List.setIfInBounds_toArray, List.set_cons_zero, List.set_cons_succ, i64_w, i32_w]
        rfl
       refine pure_ (i := 22) (N := some 102) (v := ?_) (a' := ?_) (rb12 [23, 2]) rfl rfl (qs0 HT_.out z12_10) (fun _ _ _ h => h) (Or.inl ⟨by rfl, ?_⟩) ?_ ?_
       rotate_left
       ·intro w'
        go_simp
        with_reducible rfl
       rotate_left
       ·simp only [Act.put, List.setIfInBounds_toArray, List.set_cons_zero, List.set_cons_succ, i64_w, i32_w]
        rfl
       refine pure_ (i := 23) (N := some 103) (v := ?_) (a' := ?_) (rb12 [24, 1]) rfl rfl (qs0 HT_.out z12_10) (fun _ _ _ h => h) (Or.inl ⟨by rfl, ?_⟩) ?_ ?_
       rotate_left
       ·intro w'
        go_simp
        with_reducible rfl
       rotate_left
       ·simp only [Act.put, List.setIfInBounds_toArray, List.set_cons_zero, List.set_cons_succ, i64_w, i32_w]
        rfl
       refine last_ (i := 24) (N := none) (rb12 [25]) rfl rfl (qt1 HT_.out z12_10) (by decide) (fun K hK => ?_)
       have hs69 : w66.cell? ⟨gb459, 2, none⟩ = some (.string ((rd_T98 t448 (ji28)).f2)) := (qb0 BK459.out 2).trans rfl
       have hfs69 := qa0 BK459.out 2
       refine skip_ (w1 := ?_) (by rfl) rfl ?_ ?_
       rotate_left
       ·go_simp
        rfl
       refine hK.out _ _ ?_
       clear hK K
       refine done_ (done_of HT_.out z12_10) ?_
       try go_wp2
       go_meet
       case rel => exact ⟨_, ((rd_T98 t448 (ji28)).f0), ((rd_T98 t448 (ji28)).f1), (((((rd_T98 t448 (ji28)).f2).extract 0 ((ji51) : Int).toNat) ++ (strOfNums y470)) ++ (((rd_T98 t448 (ji28)).f2).extract ((ji58) : Int).toNat ((rd_T98 t448 (ji28)).f2).size)), (y463), (.slice Ao41 y463.length co41), H', ⟨z12_21⟩, ⟨by (with_reducible repeat (first | apply Kd.N_alloc | apply Kd.qv1 | apply Kd.qf2)); exact Kd.qe2 (Kd.N_far (p := ⟨gb459, 2, none⟩) (Kd.qe2 HO_3.out (fun k_ hk => (⟨hk, hk.1.2⟩ : _ ∧ k_ ≠ gb459))) (fun _ hk => hk.2) (.string (((((rd_T98 t448 (ji28)).f2).extract 0 ((ji51) : Int).toNat) ++ (strOfNums y470)) ++ (((rd_T98 t448 (ji28)).f2).extract ((ji58) : Int).toNat ((rd_T98 t448 (ji28)).f2).size)))) (fun _ hk => ⟨hk.1.1.1, hk.1.1.2⟩)⟩, ⟨by (with_reducible repeat (first | apply Kd.qr0 | apply Kd.qp0 | apply Kd.qu0)); exact Kd.qm0 (Kd.R_far (p := ⟨gb459, 2, none⟩) (Kd.qi1 HO465.out BK459.out (by decide)) (fun _ hk => hk.2) (.string (((((rd_T98 t448 (ji28)).f2).extract 0 ((ji51) : Int).toNat) ++ (strOfNums y470)) ++ (((rd_T98 t448 (ji28)).f2).extract ((ji58) : Int).toNat ((rd_T98 t448 (ji28)).f2).size)))) (fun _ hk => trivial)⟩, ⟨by (with_reducible repeat (first | refine qe0 ?_ _ | refine qf0 ?_ | refine qd0 ?_ _)); refine qo0 (cs := #[.int .i64 ((rd_T98 t448 (ji28)).f0), .int .i64 ((rd_T98 t448 (ji28)).f1), .string ((rd_T98 t448 (ji28)).f2), .slice Ao41 y463.length co41]) ?_ 2 _ rfl; (with_reducible repeat (first | refine qe0 ?_ _ | refine qf0 ?_ | refine qd0 ?_ _)); exact BK459.out⟩, ⟨z12_0⟩⟩
      rw [if_neg c47] at H
      have c47b0 : ((Int.tmod t467 5) == 2) = false := beq_eq_false_iff_ne.mpr c47
      have c47b1 : ((Int.tmod t467 5) != 2) = true := bne_iff_ne.mpr c47
      by_cases c70 : (Int.tmod t467 5) = 3
      ·rw [if_pos c70] at H
       have c70b0 : ((Int.tmod t467 5) == 3) = true := beq_iff_eq.mpr c70
       have c70b1 : ((Int.tmod t467 5) != 3) = false := bne_eq_false_iff_eq.mpr c70
       clear c70
       by_cases c71 : (y463.length : Int) = 0
       ·rw [if_pos c71] at H
        have c71b0 : ((y463.length : Int) == 0) = true := beq_iff_eq.mpr c71
        have c71b1 : ((y463.length : Int) != 0) = false := bne_eq_false_iff_eq.mpr c71
        clear c71
        obtain rfl := Option.some.inj H
        have hcz72_0 : w40.cell? ⟨gb459, 0, none⟩ = some (.int .i64 ((rd_T98 t448 (ji28)).f0)) := (qb0 BK459.out 0).trans rfl
        have hcz72_1 : w40.cell? ⟨gb459, 1, none⟩ = some (.int .i64 ((rd_T98 t448 (ji28)).f1)) := (qb0 BK459.out 1).trans rfl
        have hcz72_2 : w40.cell? ⟨gb459, 2, none⟩ = some (.string ((rd_T98 t448 (ji28)).f2)) := (qb0 BK459.out 2).trans rfl
        have hcz72_3 : w40.cell? ⟨gb459, 3, none⟩ = some (.slice A458_3 ((rd_T98 t448 (ji28)).f3).length c458_3) := (qb0 BK459.out 3).trans rfl
        have hfz72_0 := qa0 BK459.out 0
        have hfz72_1 := qa0 BK459.out 1
        have hfz72_2 := qa0 BK459.out 2
        have hfz72_3 := qa0 BK459.out 3
        go_wp2
        go_ret
        exact ⟨z12_14, z12_0⟩
       rw [if_neg c71] at H
       have c71b0 : ((y463.length : Int) == 0) = false := beq_eq_false_iff_ne.mpr c71
       have c71b1 : ((y463.length : Int) != 0) = true := bne_iff_ne.mpr c71
       have c71b2 : ¬ (y463 = []) := fun h_ => c71 (by rw [h_]; rfl)
       replace H := Option.bind_eq_some_iff.mp H
       obtain ⟨t473, A730, H⟩ := H
       replace H : (if 0 ≤ (Int.tmod t473 (y463.length : Int)) then (if (Int.tmod t473 (y463.length : Int)) < (y463.length : Int) then (laws_FnChained.j2 kj22 t448 t451 ji28 ((rd_T98 t448 (ji28)).f0) ((rd_T98 t448 (ji28)).f1) ((rd_T98 t448 (ji28)).f2) (y463.set ((Int.tmod t473 (y463.length : Int)) : Int).toNat (⟨(rd_T100 y463 (Int.tmod t473 (y463.length : Int))).f0, (rd_T100 y463 (Int.tmod t473 (y463.length : Int))).f1, (rd_T100 y463 (Int.tmod t473 (y463.length : Int))).f2, wrap64 (((rd_T100 y463 (Int.tmod t473 (y463.length : Int))).f3) + (wrap64 (1 + t466))), (rd_T100 y463 (Int.tmod t473 (y463.length : Int))).f4⟩ : S100))) else (none)) else (none)) = some r := H
       have A73 := Aside0.mk A730
       clear A730
       obtain ⟨ji74, hji74⟩ : ∃ j_ : Int, (Int.tmod t473 (y463.length : Int)) = j_ := ⟨_, rfl⟩
       replace H : (if 0 ≤ (ji74) then (if (ji74) < (y463.length : Int) then (laws_FnChained.j2 kj22 t448 t451 ji28 ((rd_T98 t448 (ji28)).f0) ((rd_T98 t448 (ji28)).f1) ((rd_T98 t448 (ji28)).f2) (y463.set ((ji74) : Int).toNat (⟨(rd_T100 y463 (ji74)).f0, (rd_T100 y463 (ji74)).f1, (rd_T100 y463 (ji74)).f2, wrap64 (((rd_T100 y463 (ji74)).f3) + (wrap64 (1 + t466))), (rd_T100 y463 (ji74)).f4⟩ : S100))) else (none)) else (none)) = some r := by first | (rw [hji74] at H; exact H) | (simp only [hji74] at H ⊢; exact H)
       (try rw [hji74] at A73)
       by_cases c75 : 0 ≤ (ji74)
       case neg => rw [if_neg c75] at H; exact absurd H (by simp)
       rw [if_pos c75] at H
       have c75b0 : decide (0 ≤ (ji74)) = true := decide_eq_true c75
       clear c75
       by_cases c76 : (ji74) < (y463.length : Int)
       case neg => rw [if_neg c76] at H; exact absurd H (by simp)
       rw [if_pos c76] at H
       have c76b0 : decide ((ji74) < (y463.length : Int)) = true := decide_eq_true c76
       clear c76
       obtain ⟨y475, hy475⟩ : ∃ y_ : List (S100), y_ = (y463.set ((ji74) : Int).toNat (⟨(rd_T100 y463 (ji74)).f0, (rd_T100 y463 (ji74)).f1, (rd_T100 y463 (ji74)).f2, wrap64 (((rd_T100 y463 (ji74)).f3) + (wrap64 (1 + t466))), (rd_T100 y463 (ji74)).f4⟩ : S100)) := ⟨_, rfl⟩
       replace H : (laws_FnChained.j2 kj22 t448 t451 ji28 ((rd_T98 t448 (ji28)).f0) ((rd_T98 t448 (ji28)).f1) ((rd_T98 t448 (ji28)).f2) y475) = some r := by first | (rw [hy475]; with_reducible exact H) | (have H2_ := (Option.bind_some _ _).symm.trans H; rw [hy475]; with_reducible exact H2_) | (have H2_ := (Option.bind_some _ _).symm.trans H; with_reducible exact H2_) | with_reducible exact H | (rw [hy475]; exact H) | exact H
       have Ny475 := Aside0.mk hy475
       clear hy475
       have H' := Aside0.mk H
       clear H
       have hcz78_0 : w40.cell? ⟨gb459, 0, none⟩ = some (.int .i64 ((rd_T98 t448 (ji28)).f0)) := (qb0 BK459.out 0).trans rfl
       have hcz78_1 : w40.cell? ⟨gb459, 1, none⟩ = some (.int .i64 ((rd_T98 t448 (ji28)).f1)) := (qb0 BK459.out 1).trans rfl
       have hcz78_2 : w40.cell? ⟨gb459, 2, none⟩ = some (.string ((rd_T98 t448 (ji28)).f2)) := (qb0 BK459.out 2).trans rfl
       have hcz78_3 : w40.cell? ⟨gb459, 3, none⟩ = some (.slice A458_3 ((rd_T98 t448 (ji28)).f3).length c458_3) := (qb0 BK459.out 3).trans rfl
       have hfz78_0 := qa0 BK459.out 0
       have hfz78_1 := qa0 BK459.out 1
       have hfz78_2 := qa0 BK459.out 2
       have hfz78_3 := qa0 BK459.out 3
       try go_wp2
       have n0_ : Aside0 (Kd.N k98 98 (w40.setCell ⟨gb459, 3, none⟩ (.slice Ao41 y463.length co41)) w.heap.size (fun k_ => some k_ ≠ (.slice Ao41 y463.length co41 : Value).ownBlock ∧ k_ ≠ gb459) (.slice (some ad458) t448.length co8) t448) := ⟨z12_8⟩
       have n1_ : Aside0 (Kd.V k100 100 (w40.setCell ⟨gb459, 3, none⟩ (.slice Ao41 y463.length co41)) w.heap.size (fun k_ => some k_ ≠ (.slice (some ad458) t448.length co8 : Value).ownBlock ∧ some k_ ≠ (.slice Ao41 y463.length co41 : Value).ownBlock ∧ k_ ≠ gb459) (.slice A458_3 ((rd_T98 t448 (ji28)).f3).length c458_3) ((rd_T98 t448 (ji28)).f3)) := ⟨z12_11⟩
       have n2_ : Aside0 (Kd.R k100 100 (w40.setCell ⟨gb459, 3, none⟩ (.slice Ao41 y463.length co41)) w.heap.size (fun _ => True) (.slice Ao41 y463.length co41) y463) := ⟨z12_9⟩
       have n3_ : Aside0 ((w40.setCell ⟨gb459, 3, none⟩ (.slice Ao41 y463.length co41)).heap[gb459]? = some (.cells #[.int .i64 ((rd_T98 t448 (ji28)).f0), .int .i64 ((rd_T98 t448 (ji28)).f1), .string ((rd_T98 t448 (ji28)).f2), .slice Ao41 y463.length co41] 98 (0, 0))) := ⟨z12_3⟩
       have n4_ : Aside0 (Below w.heap.size w (w40.setCell ⟨gb459, 3, none⟩ (.slice Ao41 y463.length co41))) := ⟨z12_0⟩
       (try clear HO_3)
       (try clear HL458_3)
       (try clear HO465)
       (try clear BK459)
       (try clear HB)
       generalize (w40.setCell ⟨gb459, 3, none⟩ (.slice Ao41 y463.length co41)) = w79 at n0_ n1_ n2_ n3_ n4_ ⊢
       have HO_3 := n0_
       have HL458_3 := n1_
       have HO465 := n2_
       have BK459 := n3_
       have HB := n4_
       clear n0_ n1_ n2_ n3_ n4_
       (try ((conv in (World.drewN w79 _) => skip); generalize hDN_ : World.drewN w79 _ = wN_; obtain ⟨m_, hm_⟩ : ∃ m_, World.drewN w79 m_ = wN_ := ⟨_, hDN_⟩; clear hDN_; have q0_ := Kd.qv1 HO_3.out m_; rw [hm_] at q0_; have q1_ := Kd.V_drewN HL458_3.out m_; rw [hm_] at q1_; have q2_ := Kd.qp0 HO465.out m_; rw [hm_] at q2_; have q3_ := qe0 BK459.out m_; rw [hm_] at q3_; have q4_ := qh0 HB.out m_; rw [hm_] at q4_; clear hm_; clear HB BK459 HO465 HL458_3 HO_3; have HO_3 := Aside0.mk q0_; have HL458_3 := Aside0.mk q1_; have HO465 := Aside0.mk q2_; have BK459 := Aside0.mk q3_; have HB := Aside0.mk q4_; clear q0_ q1_ q2_ q3_ q4_; rename World => w79))
       have n0_ := Aside0.mk (Kd.qf2 HO_3.out)
       have n1_ := Aside0.mk (Kd.V_drew HL458_3.out)
       have n2_ := Aside0.mk (Kd.qu0 HO465.out)
       have n3_ := Aside0.mk (qf0 BK459.out)
       have n4_ := Aside0.mk (qi0 HB.out)
       clear HO_3
       clear HL458_3
       clear HO465
       clear BK459
       clear HB
       have HO_3 := n0_
       have HL458_3 := n1_
       have HO465 := n2_
       have BK459 := n3_
       have HB := n4_
       clear n0_ n1_ n2_ n3_ n4_
       refine start_ (n := 7) (S := fun w' => w'.cell? ⟨gb459, 0, none⟩ = some (.int .i64 ((rd_T98 t448 (ji28)).f0)) ∧ w'.cell? ⟨gb459, 1, none⟩ = some (.int .i64 ((rd_T98 t448 (ji28)).f1)) ∧ w'.cell? ⟨gb459, 2, none⟩ = some (.string ((rd_T98 t448 (ji28)).f2)) ∧ w'.cell? ⟨gb459, 3, none⟩ = some (.slice Ao41 y463.length co41)) (ds := []) #[false, false, false, false, false, false, false] z12_10 rfl rfl ⟨(qb0 BK459.out 0).trans rfl, (qb0 BK459.out 1).trans rfl, (qb0 BK459.out 2).trans rfl, (qb0 BK459.out 3).trans rfl⟩ (fun hHeld => ?_)
       generalize w79.drew = w80 at HO_3 HL458_3 HO465 BK459 HB hHeld ⊢
       refine pure_ (i := 0) (N := some 110) (v := ?_) (a' := ?_) #[true, false, false, false, false, false, false] rfl rfl z12_10 (fun _ _ _ h => h) (Or.inl ⟨by rfl, ?_⟩) ?_ ?_
       rotate_left
       ·intro w'
        go_simp
        with_reducible rfl
       rotate_left
       ·simp only [Act.put, List.setIfInBounds_toArray, List.set_cons_zero, List.set_cons_succ, i64_w, i32_w]
        rfl
       refine pure_ (i := 2) (N := some 112) (v := ?_) (a' := ?_) #[true, false, true, false, false, false, false] rfl rfl z12_10 (fun _ _ _ h => h) (Or.inl ⟨by rfl, ?_⟩) ?_ ?_
       rotate_left
       ·intro w'
        go_simp
        with_reducible rfl
       rotate_left
       ·simp only [Act.put, List.setIfInBounds_toArray, List.set_cons_zero, List.set_cons_succ, i64_w, i32_w]
        rfl
       refine take_ (i := 3) (N := some 113) (v := ?_) (a' := ?_) #[true, false, true, true, false, false, false] rfl rfl z12_10 (fun _ _ _ h => h) (Or.inl ⟨by rfl, ?_⟩) hHeld ?_ ?_
       rotate_left
       ·rintro w' ⟨s0, s1, s2, s3⟩
        go_simp
        with_reducible rfl
       rotate_left
       ·simp only [Act.put, List.setIfInBounds_toArray, List.set_cons_zero, List.set_cons_succ, i64_w, i32_w]
        rfl
       refine pure_ (i := 4) (N := some 114) (v := ?_) (a' := ?_) #[true, false, true, true, true, false, false] rfl rfl z12_10 (fun _ _ _ h => h) (Or.inl ⟨by rfl, ?_⟩) ?_ ?_
       rotate_left
       ·intro w'
        go_simp
        with_reducible rfl
       rotate_left
       ·simp only [Act.put, List.setIfInBounds_toArray, List.set_cons_zero, List.set_cons_succ, i64_w, i32_w]
        rfl
       refine one_ (i := 1) (N := some 111) #[true, true, true, true, true, false, false] rfl rfl z12_10 (by decide) (fun K hK => ?_)
       refine goes_ Try.func40 z12_10 rfl #[.slice A0 l0.length c0, .int .i64 5] (by rfl) rfl rfl z12_2 ?_
       with_reducible refine (laws_at.calls _ _ l0 5 t473 _ ?side1 ?side2 A73.out).mono ?_
       (case side1 => exact z12_12)
       (case side2 => exact HC0.out)
       rintro e w' ⟨rfl, ⟨nd, rfl⟩⟩
       refine ⟨_, rfl, ?_⟩
       refine hK.out _ _ ⟨(qb0 BK459.out 0).trans rfl, (qb0 BK459.out 1).trans rfl, (qb0 BK459.out 2).trans rfl, (qb0 BK459.out 3).trans rfl⟩ (fun hHeld => ?_)
       clear hK K
       refine norm_ (a' := ?_) ?_ ?_
       rotate_left
       ·show Act.put _ (some 111) _ = _
        simp only [Act.put, List.setIfInBounds_toArray, List.set_cons_zero, List.set_cons_succ, i64_w, i32_w]
        rfl
       refine pure_ (i := 5) (N := some 115) (v := ?_) (a' := ?_) #[true, true, true, true, true, true, false] rfl rfl z12_10 (fun _ _ _ h => h) (Or.inl ⟨by rfl, ?_⟩) ?_ ?_
       rotate_left
       ·intro w'
        go_simp
        with_reducible rfl
       rotate_left
       ·simp only [Act.put, List.setIfInBounds_toArray, List.set_cons_zero, List.set_cons_succ, i64_w, i32_w]
        rfl
       refine pure_ (i := 6) (N := some 9) (v := ?_) (a' := ?_) #[true, true, true, true, true, true, true] rfl rfl z12_10 (fun _ _ _ h => h) (Or.inl ⟨by rfl, ?_⟩) ?_ ?_
       rotate_left
       ·intro w'
        go_simp
        with_reducible rfl
       rotate_left
       ·simp only [Act.put, List.setIfInBounds_toArray, List.set_cons_zero, List.set_cons_succ, i64_w, i32_w]
        rfl
       refine done_ z12_10 ?_
       try go_wp2
       (try (rw [drewN_self w80]; generalize hq_ : World.drewN w80 _ = w80; have n0_ : Aside0 (Kd.V k100 100 w80 w.heap.size (fun k_ => some k_ ≠ (.slice Ao41 y463.length co41 : Value).ownBlock ∧ some k_ ≠ (.slice (some ad458) t448.length co8 : Value).ownBlock ∧ k_ ≠ gb459) (.slice A458_3 ((rd_T98 t448 (ji28)).f3).length c458_3) ((rd_T98 t448 (ji28)).f3)) := ⟨z12_16⟩; have n1_ : Aside0 (Kd.R k100 100 w80 w.heap.size (fun _ => True) (.slice Ao41 y463.length co41) y463) := ⟨z12_25⟩; have n2_ : Aside0 (Kd.N k98 98 w80 w.heap.size (fun k_ => some k_ ≠ (.slice Ao41 y463.length co41 : Value).ownBlock ∧ k_ ≠ gb459) (.slice (some ad458) t448.length co8) t448) := ⟨z12_17⟩; have n3_ : Aside0 (w80.heap[gb459]? = some (.cells #[.int .i64 ((rd_T98 t448 (ji28)).f0), .int .i64 ((rd_T98 t448 (ji28)).f1), .string ((rd_T98 t448 (ji28)).f2), .slice Ao41 y463.length co41] 98 (0, 0))) := ⟨z12_22⟩; have n4_ : Aside0 (Below w.heap.size w w80) := ⟨z12_15⟩; clear HL458_3 HO465 HO_3 BK459 HB hq_; have HL458_3 := n0_; have HO465 := n1_; have HO_3 := n2_; have BK459 := n3_; have HB := n4_; clear n0_ n1_ n2_ n3_ n4_))
       (try ((conv in (World.drewN w80 _) => skip); generalize hDN_ : World.drewN w80 _ = wN_; obtain ⟨m_, hm_⟩ : ∃ m_, World.drewN w80 m_ = wN_ := ⟨_, hDN_⟩; clear hDN_; have q0_ := Kd.qv1 HO_3.out m_; rw [hm_] at q0_; have q1_ := Kd.V_drewN HL458_3.out m_; rw [hm_] at q1_; have q2_ := Kd.qp0 HO465.out m_; rw [hm_] at q2_; have q3_ := qe0 BK459.out m_; rw [hm_] at q3_; have q4_ := qh0 HB.out m_; rw [hm_] at q4_; clear hm_; clear HB BK459 HO465 HL458_3 HO_3; have HO_3 := Aside0.mk q0_; have HL458_3 := Aside0.mk q1_; have HO465 := Aside0.mk q2_; have BK459 := Aside0.mk q3_; have HB := Aside0.mk q4_; clear q0_ q1_ q2_ q3_ q4_; rename World => w80))
       have n0_ := Aside0.mk (Kd.qf2 HO_3.out)
       have n1_ := Aside0.mk (Kd.V_drew HL458_3.out)
       have n2_ := Aside0.mk (Kd.qu0 HO465.out)
       have n3_ := Aside0.mk (qf0 BK459.out)
       have n4_ := Aside0.mk (qi0 HB.out)
       clear HO_3
       clear HL458_3
       clear HO465
       clear BK459
       clear HB
       have HO_3 := n0_
       have HL458_3 := n1_
       have HO465 := n2_
       have BK459 := n3_
       have HB := n4_
       clear n0_ n1_ n2_ n3_ n4_
       have p474 : 0 ≤ ((ji74) : Int) := of_decide_eq_true z12_5
       have q474 : (ji74) < (y463.length : Int) := of_decide_eq_true z12_5
       obtain ⟨ad474, e474, hx474_0, hx474_1, hx474_2, hx474_3, hx474_4⟩ := at_T100 (Kd.qn0 HO465.out).2.2 (ji74) p474 q474
       cases e474
       replace p474 := eq_true p474
       replace q474 := eq_true q474
       have p77 : 0 ≤ ((ji74) : Int) := of_decide_eq_true z12_5
       have q77 : ((ji74) : Int) < ((y463.length : Int) : Int) := of_decide_eq_true z12_5
       obtain ⟨go77, co77, eo77, gb77, gl77, cl77, HG77⟩ := Kd.R_form HO465.out (by omega)
       (first | cases eo77 | (injection eo77 with ea_ en_ ec_; (first | subst ea_ | (injection ea_ with ea_; subst ea_)); subst ec_; clear en_))
       have GB77 := Aside0.mk gb77
       have GG77 := Aside0.mk HG77
       clear gb77 gl77 HG77
       (first | simp only [add_plain] at hx474_0 | skip)
       (first | simp only [add_plain] at hx474_1 | skip)
       (first | simp only [add_plain] at hx474_2 | skip)
       (first | simp only [add_plain] at hx474_3 | skip)
       (first | simp only [add_plain] at hx474_4 | skip)
       obtain ⟨ce77, hcl77, hM77, hcc77, hfr77⟩ := Kd.R_elem HO465.out z100 ((ji74) : Int) p77 q77
       obtain rfl := k100_openM hM77
       have hx77_0 : World.cell? _ ⟨go77, ((ji74) : Int).toNat * 5, none⟩ = some (.int .i64 ((rd_T100 y463 (ji74)).f0)) := hcc77 0 _ rfl
       have hx77_1 : World.cell? _ ⟨go77, ((ji74) : Int).toNat * 5 + 1, none⟩ = some (.int .i64 ((rd_T100 y463 (ji74)).f1)) := hcc77 1 _ rfl
       have hx77_2 : World.cell? _ ⟨go77, ((ji74) : Int).toNat * 5 + 2, none⟩ = some (.int .i64 ((rd_T100 y463 (ji74)).f2)) := hcc77 2 _ rfl
       have hx77_3 : World.cell? _ ⟨go77, ((ji74) : Int).toNat * 5 + 3, none⟩ = some (.int .i64 ((rd_T100 y463 (ji74)).f3)) := hcc77 3 _ rfl
       have hx77_4 : World.cell? _ ⟨go77, ((ji74) : Int).toNat * 5 + 4, none⟩ = some (.int .i64 ((rd_T100 y463 (ji74)).f4)) := hcc77 4 _ rfl
       have hf77_0 : World.frozen? _ ⟨go77, ((ji74) : Int).toNat * 5, none⟩ = false := hfr77 0
       have hf77_1 : World.frozen? _ ⟨go77, ((ji74) : Int).toNat * 5 + 1, none⟩ = false := hfr77 1
       have hf77_2 : World.frozen? _ ⟨go77, ((ji74) : Int).toNat * 5 + 2, none⟩ = false := hfr77 2
       have hf77_3 : World.frozen? _ ⟨go77, ((ji74) : Int).toNat * 5 + 3, none⟩ = false := hfr77 3
       have hf77_4 : World.frozen? _ ⟨go77, ((ji74) : Int).toNat * 5 + 4, none⟩ = false := hfr77 4
       clear hcl77 hcc77 hfr77 hM77
       replace p77 := eq_true p77
       replace q77 := eq_true q77
       obtain ⟨ce82, hcl82, hM82, hcc82, hfr82⟩ := Kd.R_elem HO465.out z100 ((ji74) : Int) (of_decide_eq_true z12_5) (by have h_ : ((ji74) : Int) < ((y463.length : Int) : Int) := of_decide_eq_true z12_5; first | exact h_ | (have e_ := (Kd.qn0 HO465.out).1; omega) | simpa using h_)
       obtain rfl := k100_openM hM82
       have HP82 := (Kd.R_seg HO465.out ((ji74) : Int) (of_decide_eq_true z12_5) (by have h_ : ((ji74) : Int) < ((y463.length : Int) : Int) := of_decide_eq_true z12_5; first | exact h_ | (have e_ := (Kd.qn0 HO465.out).1; omega) | simpa using h_) (seg := [.int .i64 (wrap64 (((rd_T100 y463 (ji74)).f3) + (wrap64 (1 + t466))))]) (j := 3) hcl82 hcc82 (show 4 ≤ 5 from by decide) (x' := (⟨(rd_T100 y463 (ji74)).f0, (rd_T100 y463 (ji74)).f1, (rd_T100 y463 (ji74)).f2, wrap64 (((rd_T100 y463 (ji74)).f3) + (wrap64 (1 + t466))), (rd_T100 y463 (ji74)).f4⟩ : S100)) (k100_mkM _ _ _ (⟨(rd_T100 y463 (ji74)).f0, (rd_T100 y463 (ji74)).f1, (rd_T100 y463 (ji74)).f2, wrap64 (((rd_T100 y463 (ji74)).f3) + (wrap64 (1 + t466))), (rd_T100 y463 (ji74)).f4⟩ : S100) ) (fun _ hk => hk)).1
       rw [← Ny475.out] at HP82
       have HQ82 := Aside0.mk HP82
       clear hcl82 hcc82 hfr82 hM82 HP82
       refine start_ (n := 14) (S := fun w' => w'.cell? ⟨gb459, 0, none⟩ = some (.int .i64 ((rd_T98 t448 (ji28)).f0)) ∧ w'.cell? ⟨gb459, 1, none⟩ = some (.int .i64 ((rd_T98 t448 (ji28)).f1)) ∧ w'.cell? ⟨gb459, 2, none⟩ = some (.string ((rd_T98 t448 (ji28)).f2)) ∧ w'.cell? ⟨gb459, 3, none⟩ = some (.slice (some ⟨go77, 0, none⟩) y463.length co41) ∧ w'.cell? ⟨go77, ((ji74)).toNat * 5, none⟩ = some (.int .i64 ((rd_T100 y463 (ji74)).f0)) ∧ w'.cell? ⟨go77, ((ji74)).toNat * 5 + 1, none⟩ = some (.int .i64 ((rd_T100 y463 (ji74)).f1)) ∧ w'.cell? ⟨go77, ((ji74)).toNat * 5 + 2, none⟩ = some (.int .i64 ((rd_T100 y463 (ji74)).f2)) ∧ w'.cell? ⟨go77, ((ji74)).toNat * 5 + 3, none⟩ = some (.int .i64 ((rd_T100 y463 (ji74)).f3)) ∧ w'.cell? ⟨go77, ((ji74)).toNat * 5 + 4, none⟩ = some (.int .i64 ((rd_T100 y463 (ji74)).f4))) (ds := [13]) (rb12 [0, 14]) z12_10 rfl rfl ⟨(qb0 BK459.out 0).trans rfl, (qb0 BK459.out 1).trans rfl, (qb0 BK459.out 2).trans rfl, (qb0 BK459.out 3).trans rfl, hx474_0, hx474_1, hx474_2, hx474_3, hx474_4⟩ (fun hHeld => ?_); refine with_tabW laws_FnChained.tab27 laws_FnChained.bits27 (fun HT_ HW_ => ?_)
       generalize w80.drew = w81 at HO_3 HL458_3 HO465 BK459 HB GG77 HQ82 hf77_0 hf77_1 hf77_2 hf77_3 hf77_4 hx474_0 hx474_1 hx474_2 hx474_3 hx474_4 hx77_0 hx77_1 hx77_2 hx77_3 hx77_4 hHeld ⊢
       refine pure_ (i := 0) (N := some 116) (v := ?_) (a' := ?_) (rb12 [1, 13]) rfl rfl (qs0 HT_.out z12_10) (fun _ _ _ h => h) (Or.inl ⟨by rfl, ?_⟩) ?_ ?_
       rotate_left
       ·intro w'
        go_simp
        with_reducible rfl
       rotate_left
       ·simp only [Act.put, List.setIfInBounds_toArray, List.set_cons_zero, List.set_cons_succ, i64_w, i32_w]
        rfl
       refine pure_ (i := 2) (N := some 118) (v := ?_) (a' := ?_) (rb12 [1, 1, 1, 11]) rfl rfl (qs0 HT_.out z12_10) (fun _ _ _ h => h) (Or.inl ⟨by rfl, ?_⟩) ?_ ?_
       rotate_left
       ·intro w'
        go_simp
        with_reducible rfl
       rotate_left
       ·simp only [Act.put, List.setIfInBounds_toArray, List.set_cons_zero, List.set_cons_succ, i64_w, i32_w]
        rfl
       refine pure_ (i := 3) (N := some 119) (v := ?_) (a' := ?_) (rb12 [1, 1, 2, 10]) rfl rfl (qs0 HT_.out z12_10) (fun _ _ _ h => h) (Or.inl ⟨by rfl, ?_⟩) ?_ ?_
       rotate_left
       ·intro w'
        go_simp
        with_reducible rfl
       rotate_left
       ·simp only [Act.put, List.setIfInBounds_toArray, List.set_cons_zero, List.set_cons_succ, i64_w, i32_w]
        rfl
       refine pure_ (i := 5) (N := some 121) (v := ?_) (a' := ?_) (rb12 [1, 1, 2, 1, 1, 8]) rfl rfl (qs0 HT_.out z12_10) (fun _ _ _ h => h) (Or.inl ⟨by rfl, ?_⟩) ?_ ?_
       rotate_left
       ·intro w'
        go_simp
        with_reducible rfl
       rotate_left
       ·simp only [Act.put, List.setIfInBounds_toArray, List.set_cons_zero, List.set_cons_succ, i64_w, i32_w]
        rfl
       refine pure_ (i := 9) (N := some 125) (v := ?_) (a' := ?_) (rb12 [1, 1, 2, 1, 1, 3, 1, 4]) rfl rfl (qs0 HT_.out z12_10) (fun _ _ _ h => h) (Or.inl ⟨by rfl, ?_⟩) ?_ ?_
       rotate_left
       ·intro w'
        go_simp
        with_reducible rfl
       rotate_left
       ·simp only [Act.put, List.setIfInBounds_toArray, List.set_cons_zero, List.set_cons_succ, i64_w, i32_w]
        rfl
       refine take_ (i := 1) (N := some 117) (v := ?_) (a' := ?_) (rb12 [4, 1, 1, 3, 1, 4]) rfl rfl (ql1 HT_.out HW_.out z12_10) (fun _ _ _ h => h) (Or.inl ⟨by rfl, ?_⟩) hHeld ?_ ?_
       rotate_left
       ·rintro w' ⟨s0, s1, s2, s3, s4, s5, s6, s7, s8⟩
        go_simp
        with_reducible rfl
       rotate_left
       ·simp only [Act.put, List.setIfInBounds_toArray, List.set_cons_zero, List.set_cons_succ, i64_w, i32_w]
        rfl
       refine take_ (i := 4) (N := some 120) (v := ?_) (a' := ?_) (rb12 [6, 3, 1, 4]) rfl rfl (ql1 HT_.out HW_.out z12_10) (fun _ _ _ h => h) (Or.inl ⟨by rfl, ?_⟩) hHeld ?_ ?_
       rotate_left
       ·rintro w' ⟨s0, s1, s2, s3, s4, s5, s6, s7, s8⟩
        go_simp
        with_reducible rfl
       rotate_left
       ·simp only [Act.put, List.setIfInBounds_toArray, List.set_cons_zero, List.set_cons_succ, i64_w, i32_w]
        rfl
       refine pure_ (i := 6) (N := some 122) (v := ?_) (a' := ?_) (rb12 [7, 2, 1, 4]) rfl rfl (qs0 HT_.out z12_10) (fun _ _ _ h => h) (Or.inl ⟨by rfl, ?_⟩) ?_ ?_
       rotate_left
       ·intro w'
        go_simp
        with_reducible rfl
       rotate_left
       ·simp only [Act.put, List.setIfInBounds_toArray, List.set_cons_zero, List.set_cons_succ, i64_w, i32_w]
        rfl
       refine pure_ (i := 7) (N := some 123) (v := ?_) (a' := ?_) (rb12 [8, 1, 1, 4]) rfl rfl (qs0 HT_.out z12_10) (fun _ _ _ h => h) (Or.inl ⟨by rfl, ?_⟩) ?_ ?_
       rotate_left
       ·intro w'
        go_simp
        with_reducible rfl
       rotate_left
       ·simp only [Act.put, List.setIfInBounds_toArray, List.set_cons_zero, List.set_cons_succ, i64_w, i32_w]
        rfl
       refine take_ (i := 8) (N := some 124) (v := ?_) (a' := ?_) (rb12 [10, 4]) rfl rfl (ql1 HT_.out HW_.out z12_10) (fun _ _ _ h => h) (Or.inl ⟨by rfl, ?_⟩) hHeld ?_ ?_
       rotate_left
       ·rintro w' ⟨s0, s1, s2, s3, s4, s5, s6, s7, s8⟩
        go_simp
        with_reducible rfl
       rotate_left
       ·simp only [Act.put, List.setIfInBounds_toArray, List.set_cons_zero, List.set_cons_succ, i64_w, i32_w]
        rfl
       refine pure_ (i := 10) (N := some 126) (v := ?_) (a' := ?_) (rb12 [11, 3]) rfl rfl (qs0 HT_.out z12_10) (fun _ _ _ h => h) (Or.inl ⟨by rfl, ?_⟩) ?_ ?_
       rotate_left
       ·intro w'
        go_simp
        with_reducible rfl
       rotate_left
       ·simp only [Act.put, List.setIfInBounds_toArray, List.set_cons_zero, List.set_cons_succ, i64_w, i32_w]
        rfl
       refine pure_ (i := 11) (N := some 127) (v := ?_) (a' := ?_) (rb12 [12, 2]) rfl rfl (qs0 HT_.out z12_10) (fun _ _ _ h => h) (Or.inl ⟨by rfl, ?_⟩) ?_ ?_
       rotate_left
       ·intro w'
        go_simp
        with_reducible rfl
       rotate_left
       ·simp only [Act.put, List.setIfInBounds_toArray, List.set_cons_zero, List.set_cons_succ, i64_w, i32_w]
        rfl
       refine pure_ (i := 12) (N := some 128) (v := ?_) (a' := ?_) (rb12 [13, 1]) rfl rfl (qs0 HT_.out z12_10) (fun _ _ _ h => h) (Or.inl ⟨by rfl, ?_⟩) ?_ ?_
       rotate_left
       ·intro w'
        go_simp
        with_reducible rfl
       rotate_left
       ·simp only [Act.put, List.setIfInBounds_toArray, List.set_cons_zero, List.set_cons_succ, i64_w, i32_w]
        rfl
       refine last_ (i := 13) (N := none) (rb12 [14]) rfl rfl (qt1 HT_.out z12_10) (by decide) (fun K hK => ?_)
       refine skip_ (w1 := ?_) (by rfl) rfl ?_ ?_
       rotate_left
       ·go_simp
        rfl
       refine hK.out _ _ ?_
       clear hK K
       refine done_ (done_of HT_.out z12_10) ?_
       try go_wp2
       go_meet
       case rel => exact ⟨_, ((rd_T98 t448 (ji28)).f0), ((rd_T98 t448 (ji28)).f1), ((rd_T98 t448 (ji28)).f2), (y475), (.slice (some ⟨go77, 0, none⟩) y463.length co41), H', ⟨z12_21⟩, ⟨by (with_reducible repeat (first | apply Kd.N_alloc | apply Kd.qv1 | apply Kd.qf2)); exact Kd.qe2 (Kd.N_far (p := ⟨go77, ((ji74) : Int).toNat * 5 + 3, none⟩) (Kd.qe2 HO_3.out (fun k_ hk => (⟨hk, fun e_ => hk.1 (by rw [e_]; rfl)⟩ : _ ∧ k_ ≠ go77))) (fun _ hk => hk.2) (.int .i64 (wrap64 (((rd_T100 y463 (ji74)).f3) + (wrap64 (1 + t466)))))) (fun _ hk => ⟨hk.1.1, hk.1.2⟩)⟩, ⟨by (with_reducible repeat (first | apply Kd.qr0 | apply Kd.qp0 | apply Kd.qu0)); exact HQ82.out⟩, ⟨by (with_reducible repeat (first | refine qe0 ?_ _ | refine qf0 ?_ | refine qd0 ?_ _)); refine blk_far ?_ (by have h_ := Kd.R_ne HO465.out BK459.out (by decide); intro e_; exact h_ (by rw [e_]; rfl)) _; (with_reducible repeat (first | refine qe0 ?_ _ | refine qf0 ?_ | refine qd0 ?_ _)); exact BK459.out⟩, ⟨by repeat (first | (with_reducible first | exact HB.out | apply qj0 | apply qh0 | apply qi0 | refine qk0 ?_ GB77.out | refine qk0 ?_ GE459.out) | exact HB.out)⟩⟩
      rw [if_neg c70] at H
      have c70b0 : ((Int.tmod t467 5) == 3) = false := beq_eq_false_iff_ne.mpr c70
      have c70b1 : ((Int.tmod t467 5) != 3) = true := bne_iff_ne.mpr c70
      by_cases c83 : (Int.tmod t467 5) = 4
      ·rw [if_pos c83] at H
       have c83b0 : ((Int.tmod t467 5) == 4) = true := beq_iff_eq.mpr c83
       have c83b1 : ((Int.tmod t467 5) != 4) = false := bne_eq_false_iff_eq.mpr c83
       clear c83
       by_cases c84 : (y463.length : Int) = 0
       ·rw [if_pos c84] at H
        have c84b0 : ((y463.length : Int) == 0) = true := beq_iff_eq.mpr c84
        have c84b1 : ((y463.length : Int) != 0) = false := bne_eq_false_iff_eq.mpr c84
        clear c84
        obtain rfl := Option.some.inj H
        have hcz85_0 : w40.cell? ⟨gb459, 0, none⟩ = some (.int .i64 ((rd_T98 t448 (ji28)).f0)) := (qb0 BK459.out 0).trans rfl
        have hcz85_1 : w40.cell? ⟨gb459, 1, none⟩ = some (.int .i64 ((rd_T98 t448 (ji28)).f1)) := (qb0 BK459.out 1).trans rfl
        have hcz85_2 : w40.cell? ⟨gb459, 2, none⟩ = some (.string ((rd_T98 t448 (ji28)).f2)) := (qb0 BK459.out 2).trans rfl
        have hcz85_3 : w40.cell? ⟨gb459, 3, none⟩ = some (.slice A458_3 ((rd_T98 t448 (ji28)).f3).length c458_3) := (qb0 BK459.out 3).trans rfl
        have hfz85_0 := qa0 BK459.out 0
        have hfz85_1 := qa0 BK459.out 1
        have hfz85_2 := qa0 BK459.out 2
        have hfz85_3 := qa0 BK459.out 3
        go_wp2
        go_ret
        exact ⟨z12_14, z12_0⟩
       rw [if_neg c84] at H
       have c84b0 : ((y463.length : Int) == 0) = false := beq_eq_false_iff_ne.mpr c84
       have c84b1 : ((y463.length : Int) != 0) = true := bne_iff_ne.mpr c84
       have c84b2 : ¬ (y463 = []) := fun h_ => c84 (by rw [h_]; rfl)
       replace H := Option.bind_eq_some_iff.mp H
       obtain ⟨t476, A860, H⟩ := H
       replace H : (if 0 ≤ (Int.tmod t476 (y463.length : Int)) then (if (Int.tmod t476 (y463.length : Int)) < (y463.length : Int) then (laws_FnChained.j2 kj22 t448 t451 ji28 ((rd_T98 t448 (ji28)).f0) ((rd_T98 t448 (ji28)).f1) ((rd_T98 t448 (ji28)).f2) (y463.set ((Int.tmod t476 (y463.length : Int)) : Int).toNat (⟨wrap64 (((rd_T100 y463 (Int.tmod t476 (y463.length : Int))).f0) + (wrap64 (1 + t466))), (rd_T100 y463 (Int.tmod t476 (y463.length : Int))).f1, (rd_T100 y463 (Int.tmod t476 (y463.length : Int))).f2, (rd_T100 y463 (Int.tmod t476 (y463.length : Int))).f3, (rd_T100 y463 (Int.tmod t476 (y463.length : Int))).f4⟩ : S100))) else (none)) else (none)) = some r := H
       have A86 := Aside0.mk A860
       clear A860
       obtain ⟨ji87, hji87⟩ : ∃ j_ : Int, (Int.tmod t476 (y463.length : Int)) = j_ := ⟨_, rfl⟩
       replace H : (if 0 ≤ (ji87) then (if (ji87) < (y463.length : Int) then (laws_FnChained.j2 kj22 t448 t451 ji28 ((rd_T98 t448 (ji28)).f0) ((rd_T98 t448 (ji28)).f1) ((rd_T98 t448 (ji28)).f2) (y463.set ((ji87) : Int).toNat (⟨wrap64 (((rd_T100 y463 (ji87)).f0) + (wrap64 (1 + t466))), (rd_T100 y463 (ji87)).f1, (rd_T100 y463 (ji87)).f2, (rd_T100 y463 (ji87)).f3, (rd_T100 y463 (ji87)).f4⟩ : S100))) else (none)) else (none)) = some r := by first | (rw [hji87] at H; exact H) | (simp only [hji87] at H ⊢; exact H)
       (try rw [hji87] at A86)
       by_cases c88 : 0 ≤ (ji87)
       case neg => rw [if_neg c88] at H; exact absurd H (by simp)
       rw [if_pos c88] at H
       have c88b0 : decide (0 ≤ (ji87)) = true := decide_eq_true c88
       clear c88
       by_cases c89 : (ji87) < (y463.length : Int)
       case neg => rw [if_neg c89] at H; exact absurd H (by simp)
       rw [if_pos c89] at H
       have c89b0 : decide ((ji87) < (y463.length : Int)) = true := decide_eq_true c89
       clear c89
       obtain ⟨y478, hy478⟩ : ∃ y_ : List (S100), y_ = (y463.set ((ji87) : Int).toNat (⟨wrap64 (((rd_T100 y463 (ji87)).f0) + (wrap64 (1 + t466))), (rd_T100 y463 (ji87)).f1, (rd_T100 y463 (ji87)).f2, (rd_T100 y463 (ji87)).f3, (rd_T100 y463 (ji87)).f4⟩ : S100)) := ⟨_, rfl⟩
       replace H : (laws_FnChained.j2 kj22 t448 t451 ji28 ((rd_T98 t448 (ji28)).f0) ((rd_T98 t448 (ji28)).f1) ((rd_T98 t448 (ji28)).f2) y478) = some r := by first | (rw [hy478]; with_reducible exact H) | (have H2_ := (Option.bind_some _ _).symm.trans H; rw [hy478]; with_reducible exact H2_) | (have H2_ := (Option.bind_some _ _).symm.trans H; with_reducible exact H2_) | with_reducible exact H | (rw [hy478]; exact H) | exact H
       have Ny478 := Aside0.mk hy478
       clear hy478
       have H' := Aside0.mk H
       clear H
       have hcz91_0 : w40.cell? ⟨gb459, 0, none⟩ = some (.int .i64 ((rd_T98 t448 (ji28)).f0)) := (qb0 BK459.out 0).trans rfl
       have hcz91_1 : w40.cell? ⟨gb459, 1, none⟩ = some (.int .i64 ((rd_T98 t448 (ji28)).f1)) := (qb0 BK459.out 1).trans rfl
       have hcz91_2 : w40.cell? ⟨gb459, 2, none⟩ = some (.string ((rd_T98 t448 (ji28)).f2)) := (qb0 BK459.out 2).trans rfl
       have hcz91_3 : w40.cell? ⟨gb459, 3, none⟩ = some (.slice A458_3 ((rd_T98 t448 (ji28)).f3).length c458_3) := (qb0 BK459.out 3).trans rfl
       have hfz91_0 := qa0 BK459.out 0
       have hfz91_1 := qa0 BK459.out 1
       have hfz91_2 := qa0 BK459.out 2
       have hfz91_3 := qa0 BK459.out 3
       try go_wp2
       have n0_ : Aside0 (Kd.N k98 98 (w40.setCell ⟨gb459, 3, none⟩ (.slice Ao41 y463.length co41)) w.heap.size (fun k_ => some k_ ≠ (.slice Ao41 y463.length co41 : Value).ownBlock ∧ k_ ≠ gb459) (.slice (some ad458) t448.length co8) t448) := ⟨z12_8⟩
       have n1_ : Aside0 (Kd.V k100 100 (w40.setCell ⟨gb459, 3, none⟩ (.slice Ao41 y463.length co41)) w.heap.size (fun k_ => some k_ ≠ (.slice (some ad458) t448.length co8 : Value).ownBlock ∧ some k_ ≠ (.slice Ao41 y463.length co41 : Value).ownBlock ∧ k_ ≠ gb459) (.slice A458_3 ((rd_T98 t448 (ji28)).f3).length c458_3) ((rd_T98 t448 (ji28)).f3)) := ⟨z12_11⟩
       have n2_ : Aside0 (Kd.R k100 100 (w40.setCell ⟨gb459, 3, none⟩ (.slice Ao41 y463.length co41)) w.heap.size (fun _ => True) (.slice Ao41 y463.length co41) y463) := ⟨z12_9⟩
       have n3_ : Aside0 ((w40.setCell ⟨gb459, 3, none⟩ (.slice Ao41 y463.length co41)).heap[gb459]? = some (.cells #[.int .i64 ((rd_T98 t448 (ji28)).f0), .int .i64 ((rd_T98 t448 (ji28)).f1), .string ((rd_T98 t448 (ji28)).f2), .slice Ao41 y463.length co41] 98 (0, 0))) := ⟨z12_3⟩
       have n4_ : Aside0 (Below w.heap.size w (w40.setCell ⟨gb459, 3, none⟩ (.slice Ao41 y463.length co41))) := ⟨z12_0⟩
       (try clear HO_3)
       (try clear HL458_3)
       (try clear HO465)
       (try clear BK459)
       (try clear HB)
       generalize (w40.setCell ⟨gb459, 3, none⟩ (.slice Ao41 y463.length co41)) = w92 at n0_ n1_ n2_ n3_ n4_ ⊢
       have HO_3 := n0_
       have HL458_3 := n1_
       have HO465 := n2_
       have BK459 := n3_
       have HB := n4_
       clear n0_ n1_ n2_ n3_ n4_
       (try ((conv in (World.drewN w92 _) => skip); generalize hDN_ : World.drewN w92 _ = wN_; obtain ⟨m_, hm_⟩ : ∃ m_, World.drewN w92 m_ = wN_ := ⟨_, hDN_⟩; clear hDN_; have q0_ := Kd.qv1 HO_3.out m_; rw [hm_] at q0_; have q1_ := Kd.V_drewN HL458_3.out m_; rw [hm_] at q1_; have q2_ := Kd.qp0 HO465.out m_; rw [hm_] at q2_; have q3_ := qe0 BK459.out m_; rw [hm_] at q3_; have q4_ := qh0 HB.out m_; rw [hm_] at q4_; clear hm_; clear HB BK459 HO465 HL458_3 HO_3; have HO_3 := Aside0.mk q0_; have HL458_3 := Aside0.mk q1_; have HO465 := Aside0.mk q2_; have BK459 := Aside0.mk q3_; have HB := Aside0.mk q4_; clear q0_ q1_ q2_ q3_ q4_; rename World => w92))
       have n0_ := Aside0.mk (Kd.qf2 HO_3.out)
       have n1_ := Aside0.mk (Kd.V_drew HL458_3.out)
       have n2_ := Aside0.mk (Kd.qu0 HO465.out)
       have n3_ := Aside0.mk (qf0 BK459.out)
       have n4_ := Aside0.mk (qi0 HB.out)
       clear HO_3
       clear HL458_3
       clear HO465
       clear BK459
       clear HB
       have HO_3 := n0_
       have HL458_3 := n1_
       have HO465 := n2_
       have BK459 := n3_
       have HB := n4_
       clear n0_ n1_ n2_ n3_ n4_
       refine start_ (n := 7) (S := fun w' => w'.cell? ⟨gb459, 0, none⟩ = some (.int .i64 ((rd_T98 t448 (ji28)).f0)) ∧ w'.cell? ⟨gb459, 1, none⟩ = some (.int .i64 ((rd_T98 t448 (ji28)).f1)) ∧ w'.cell? ⟨gb459, 2, none⟩ = some (.string ((rd_T98 t448 (ji28)).f2)) ∧ w'.cell? ⟨gb459, 3, none⟩ = some (.slice Ao41 y463.length co41)) (ds := []) #[false, false, false, false, false, false, false] z12_10 rfl rfl ⟨(qb0 BK459.out 0).trans rfl, (qb0 BK459.out 1).trans rfl, (qb0 BK459.out 2).trans rfl, (qb0 BK459.out 3).trans rfl⟩ (fun hHeld => ?_)
       generalize w92.drew = w93 at HO_3 HL458_3 HO465 BK459 HB hHeld ⊢
       refine pure_ (i := 0) (N := some 135) (v := ?_) (a' := ?_) #[true, false, false, false, false, false, false] rfl rfl z12_10 (fun _ _ _ h => h) (Or.inl ⟨by rfl, ?_⟩) ?_ ?_
       rotate_left
       ·intro w'
        go_simp
        with_reducible rfl
       rotate_left
       ·simp only [Act.put, List.setIfInBounds_toArray, List.set_cons_zero, List.set_cons_succ, i64_w, i32_w]
        rfl
       refine pure_ (i := 2) (N := some 137) (v := ?_) (a' := ?_) #[true, false, true, false, false, false, false] rfl rfl z12_10 (fun _ _ _ h => h) (Or.inl ⟨by rfl, ?_⟩) ?_ ?_
       rotate_left
       ·intro w'
        go_simp
        with_reducible rfl
       rotate_left
       ·simp only [Act.put, List.setIfInBounds_toArray, List.set_cons_zero, List.set_cons_succ, i64_w, i32_w]
        rfl
       refine take_ (i := 3) (N := some 138) (v := ?_) (a' := ?_) #[true, false, true, true, false, false, false] rfl rfl z12_10 (fun _ _ _ h => h) (Or.inl ⟨by rfl, ?_⟩) hHeld ?_ ?_
       rotate_left
       ·rintro w' ⟨s0, s1, s2, s3⟩
        go_simp
        with_reducible rfl
       rotate_left
       ·simp only [Act.put, List.setIfInBounds_toArray, List.set_cons_zero, List.set_cons_succ, i64_w, i32_w]
        rfl
       refine pure_ (i := 4) (N := some 139) (v := ?_) (a' := ?_) #[true, false, true, true, true, false, false] rfl rfl z12_10 (fun _ _ _ h => h) (Or.inl ⟨by rfl, ?_⟩) ?_ ?_
       rotate_left
       ·intro w'
        go_simp
        with_reducible rfl
       rotate_left
       ·simp only [Act.put, List.setIfInBounds_toArray, List.set_cons_zero, List.set_cons_succ, i64_w, i32_w]
        rfl
       refine one_ (i := 1) (N := some 136) #[true, true, true, true, true, false, false] rfl rfl z12_10 (by decide) (fun K hK => ?_)
       refine goes_ Try.func40 z12_10 rfl #[.slice A0 l0.length c0, .int .i64 5] (by rfl) rfl rfl z12_2 ?_
       with_reducible refine (laws_at.calls _ _ l0 5 t476 _ ?side1 ?side2 A86.out).mono ?_
       (case side1 => exact z12_12)
       (case side2 => exact HC0.out)
       rintro e w' ⟨rfl, ⟨nd, rfl⟩⟩
       refine ⟨_, rfl, ?_⟩
       refine hK.out _ _ ⟨(qb0 BK459.out 0).trans rfl, (qb0 BK459.out 1).trans rfl, (qb0 BK459.out 2).trans rfl, (qb0 BK459.out 3).trans rfl⟩ (fun hHeld => ?_)
       clear hK K
       refine norm_ (a' := ?_) ?_ ?_
       rotate_left
       ·show Act.put _ (some 136) _ = _
        simp only [Act.put, List.setIfInBounds_toArray, List.set_cons_zero, List.set_cons_succ, i64_w, i32_w]
        rfl
       refine pure_ (i := 5) (N := some 140) (v := ?_) (a' := ?_) #[true, true, true, true, true, true, false] rfl rfl z12_10 (fun _ _ _ h => h) (Or.inl ⟨by rfl, ?_⟩) ?_ ?_
       rotate_left
       ·intro w'
        go_simp
        with_reducible rfl
       rotate_left
       ·simp only [Act.put, List.setIfInBounds_toArray, List.set_cons_zero, List.set_cons_succ, i64_w, i32_w]
        rfl
       refine pure_ (i := 6) (N := some 10) (v := ?_) (a' := ?_) #[true, true, true, true, true, true, true] rfl rfl z12_10 (fun _ _ _ h => h) (Or.inl ⟨by rfl, ?_⟩) ?_ ?_
       rotate_left
       ·intro w'
        go_simp
        with_reducible rfl
       rotate_left
       ·simp only [Act.put, List.setIfInBounds_toArray, List.set_cons_zero, List.set_cons_succ, i64_w, i32_w]
        rfl
       refine done_ z12_10 ?_
       try go_wp2
       (try (rw [drewN_self w93]; generalize hq_ : World.drewN w93 _ = w93; have n0_ : Aside0 (Kd.V k100 100 w93 w.heap.size (fun k_ => some k_ ≠ (.slice Ao41 y463.length co41 : Value).ownBlock ∧ some k_ ≠ (.slice (some ad458) t448.length co8 : Value).ownBlock ∧ k_ ≠ gb459) (.slice A458_3 ((rd_T98 t448 (ji28)).f3).length c458_3) ((rd_T98 t448 (ji28)).f3)) := ⟨z12_16⟩; have n1_ : Aside0 (Kd.R k100 100 w93 w.heap.size (fun _ => True) (.slice Ao41 y463.length co41) y463) := ⟨z12_25⟩; have n2_ : Aside0 (Kd.N k98 98 w93 w.heap.size (fun k_ => some k_ ≠ (.slice Ao41 y463.length co41 : Value).ownBlock ∧ k_ ≠ gb459) (.slice (some ad458) t448.length co8) t448) := ⟨z12_17⟩; have n3_ : Aside0 (w93.heap[gb459]? = some (.cells #[.int .i64 ((rd_T98 t448 (ji28)).f0), .int .i64 ((rd_T98 t448 (ji28)).f1), .string ((rd_T98 t448 (ji28)).f2), .slice Ao41 y463.length co41] 98 (0, 0))) := ⟨z12_22⟩; have n4_ : Aside0 (Below w.heap.size w w93) := ⟨z12_15⟩; clear HL458_3 HO465 HO_3 BK459 HB hq_; have HL458_3 := n0_; have HO465 := n1_; have HO_3 := n2_; have BK459 := n3_; have HB := n4_; clear n0_ n1_ n2_ n3_ n4_))
       (try ((conv in (World.drewN w93 _) => skip); generalize hDN_ : World.drewN w93 _ = wN_; obtain ⟨m_, hm_⟩ : ∃ m_, World.drewN w93 m_ = wN_ := ⟨_, hDN_⟩; clear hDN_; have q0_ := Kd.qv1 HO_3.out m_; rw [hm_] at q0_; have q1_ := Kd.V_drewN HL458_3.out m_; rw [hm_] at q1_; have q2_ := Kd.qp0 HO465.out m_; rw [hm_] at q2_; have q3_ := qe0 BK459.out m_; rw [hm_] at q3_; have q4_ := qh0 HB.out m_; rw [hm_] at q4_; clear hm_; clear HB BK459 HO465 HL458_3 HO_3; have HO_3 := Aside0.mk q0_; have HL458_3 := Aside0.mk q1_; have HO465 := Aside0.mk q2_; have BK459 := Aside0.mk q3_; have HB := Aside0.mk q4_; clear q0_ q1_ q2_ q3_ q4_; rename World => w93))
       have n0_ := Aside0.mk (Kd.qf2 HO_3.out)
       have n1_ := Aside0.mk (Kd.V_drew HL458_3.out)
       have n2_ := Aside0.mk (Kd.qu0 HO465.out)
       have n3_ := Aside0.mk (qf0 BK459.out)
       have n4_ := Aside0.mk (qi0 HB.out)
       clear HO_3
       clear HL458_3
       clear HO465
       clear BK459
       clear HB
       have HO_3 := n0_
       have HL458_3 := n1_
       have HO465 := n2_
       have BK459 := n3_
       have HB := n4_
       clear n0_ n1_ n2_ n3_ n4_
       have p477 : 0 ≤ ((ji87) : Int) := of_decide_eq_true z12_5
       have q477 : (ji87) < (y463.length : Int) := of_decide_eq_true z12_5
       obtain ⟨ad477, e477, hx477_0, hx477_1, hx477_2, hx477_3, hx477_4⟩ := at_T100 (Kd.qn0 HO465.out).2.2 (ji87) p477 q477
       cases e477
       replace p477 := eq_true p477
       replace q477 := eq_true q477
       have p90 : 0 ≤ ((ji87) : Int) := of_decide_eq_true z12_5
       have q90 : ((ji87) : Int) < ((y463.length : Int) : Int) := of_decide_eq_true z12_5
       obtain ⟨go90, co90, eo90, gb90, gl90, cl90, HG90⟩ := Kd.R_form HO465.out (by omega)
       (first | cases eo90 | (injection eo90 with ea_ en_ ec_; (first | subst ea_ | (injection ea_ with ea_; subst ea_)); subst ec_; clear en_))
       have GB90 := Aside0.mk gb90
       have GG90 := Aside0.mk HG90
       clear gb90 gl90 HG90
       (first | simp only [add_plain] at hx477_0 | skip)
       (first | simp only [add_plain] at hx477_1 | skip)
       (first | simp only [add_plain] at hx477_2 | skip)
       (first | simp only [add_plain] at hx477_3 | skip)
       (first | simp only [add_plain] at hx477_4 | skip)
       obtain ⟨ce90, hcl90, hM90, hcc90, hfr90⟩ := Kd.R_elem HO465.out z100 ((ji87) : Int) p90 q90
       obtain rfl := k100_openM hM90
       have hx90_0 : World.cell? _ ⟨go90, ((ji87) : Int).toNat * 5, none⟩ = some (.int .i64 ((rd_T100 y463 (ji87)).f0)) := hcc90 0 _ rfl
       have hx90_1 : World.cell? _ ⟨go90, ((ji87) : Int).toNat * 5 + 1, none⟩ = some (.int .i64 ((rd_T100 y463 (ji87)).f1)) := hcc90 1 _ rfl
       have hx90_2 : World.cell? _ ⟨go90, ((ji87) : Int).toNat * 5 + 2, none⟩ = some (.int .i64 ((rd_T100 y463 (ji87)).f2)) := hcc90 2 _ rfl
       have hx90_3 : World.cell? _ ⟨go90, ((ji87) : Int).toNat * 5 + 3, none⟩ = some (.int .i64 ((rd_T100 y463 (ji87)).f3)) := hcc90 3 _ rfl
       have hx90_4 : World.cell? _ ⟨go90, ((ji87) : Int).toNat * 5 + 4, none⟩ = some (.int .i64 ((rd_T100 y463 (ji87)).f4)) := hcc90 4 _ rfl
       have hf90_0 : World.frozen? _ ⟨go90, ((ji87) : Int).toNat * 5, none⟩ = false := hfr90 0
       have hf90_1 : World.frozen? _ ⟨go90, ((ji87) : Int).toNat * 5 + 1, none⟩ = false := hfr90 1
       have hf90_2 : World.frozen? _ ⟨go90, ((ji87) : Int).toNat * 5 + 2, none⟩ = false := hfr90 2
       have hf90_3 : World.frozen? _ ⟨go90, ((ji87) : Int).toNat * 5 + 3, none⟩ = false := hfr90 3
       have hf90_4 : World.frozen? _ ⟨go90, ((ji87) : Int).toNat * 5 + 4, none⟩ = false := hfr90 4
       clear hcl90 hcc90 hfr90 hM90
       replace p90 := eq_true p90
       replace q90 := eq_true q90
       obtain ⟨ce95, hcl95, hM95, hcc95, hfr95⟩ := Kd.R_elem HO465.out z100 ((ji87) : Int) (of_decide_eq_true z12_5) (by have h_ : ((ji87) : Int) < ((y463.length : Int) : Int) := of_decide_eq_true z12_5; first | exact h_ | (have e_ := (Kd.qn0 HO465.out).1; omega) | simpa using h_)
       obtain rfl := k100_openM hM95
       have HP95 := (Kd.R_seg HO465.out ((ji87) : Int) (of_decide_eq_true z12_5) (by have h_ : ((ji87) : Int) < ((y463.length : Int) : Int) := of_decide_eq_true z12_5; first | exact h_ | (have e_ := (Kd.qn0 HO465.out).1; omega) | simpa using h_) (seg := [.int .i64 (wrap64 (((rd_T100 y463 (ji87)).f0) + (wrap64 (1 + t466))))]) (j := 0) hcl95 hcc95 (show 1 ≤ 5 from by decide) (x' := (⟨wrap64 (((rd_T100 y463 (ji87)).f0) + (wrap64 (1 + t466))), (rd_T100 y463 (ji87)).f1, (rd_T100 y463 (ji87)).f2, (rd_T100 y463 (ji87)).f3, (rd_T100 y463 (ji87)).f4⟩ : S100)) (k100_mkM _ _ _ (⟨wrap64 (((rd_T100 y463 (ji87)).f0) + (wrap64 (1 + t466))), (rd_T100 y463 (ji87)).f1, (rd_T100 y463 (ji87)).f2, (rd_T100 y463 (ji87)).f3, (rd_T100 y463 (ji87)).f4⟩ : S100) ) (fun _ hk => hk)).1
       rw [← Ny478.out] at HP95
       have HQ95 := Aside0.mk HP95
       clear hcl95 hcc95 hfr95 hM95 HP95
       refine start_ (n := 14) (S := fun w' => w'.cell? ⟨gb459, 0, none⟩ = some (.int .i64 ((rd_T98 t448 (ji28)).f0)) ∧ w'.cell? ⟨gb459, 1, none⟩ = some (.int .i64 ((rd_T98 t448 (ji28)).f1)) ∧ w'.cell? ⟨gb459, 2, none⟩ = some (.string ((rd_T98 t448 (ji28)).f2)) ∧ w'.cell? ⟨gb459, 3, none⟩ = some (.slice (some ⟨go90, 0, none⟩) y463.length co41) ∧ w'.cell? ⟨go90, ((ji87)).toNat * 5, none⟩ = some (.int .i64 ((rd_T100 y463 (ji87)).f0)) ∧ w'.cell? ⟨go90, ((ji87)).toNat * 5 + 1, none⟩ = some (.int .i64 ((rd_T100 y463 (ji87)).f1)) ∧ w'.cell? ⟨go90, ((ji87)).toNat * 5 + 2, none⟩ = some (.int .i64 ((rd_T100 y463 (ji87)).f2)) ∧ w'.cell? ⟨go90, ((ji87)).toNat * 5 + 3, none⟩ = some (.int .i64 ((rd_T100 y463 (ji87)).f3)) ∧ w'.cell? ⟨go90, ((ji87)).toNat * 5 + 4, none⟩ = some (.int .i64 ((rd_T100 y463 (ji87)).f4))) (ds := [13]) (rb12 [0, 14]) z12_10 rfl rfl ⟨(qb0 BK459.out 0).trans rfl, (qb0 BK459.out 1).trans rfl, (qb0 BK459.out 2).trans rfl, (qb0 BK459.out 3).trans rfl, hx477_0, hx477_1, hx477_2, hx477_3, hx477_4⟩ (fun hHeld => ?_); refine with_tabW laws_FnChained.tab32 laws_FnChained.bits32 (fun HT_ HW_ => ?_)
       generalize w93.drew = w94 at HO_3 HL458_3 HO465 BK459 HB GG90 HQ95 hf90_0 hf90_1 hf90_2 hf90_3 hf90_4 hx477_0 hx477_1 hx477_2 hx477_3 hx477_4 hx90_0 hx90_1 hx90_2 hx90_3 hx90_4 hHeld ⊢
       refine pure_ (i := 0) (N := some 141) (v := ?_) (a' := ?_) (rb12 [1, 13]) rfl rfl (qs0 HT_.out z12_10) (fun _ _ _ h => h) (Or.inl ⟨by rfl, ?_⟩) ?_ ?_
       rotate_left
       ·intro w'
        go_simp
        with_reducible rfl
       rotate_left
       ·simp only [Act.put, List.setIfInBounds_toArray, List.set_cons_zero, List.set_cons_succ, i64_w, i32_w]
        rfl
       refine pure_ (i := 2) (N := some 143) (v := ?_) (a' := ?_) (rb12 [1, 1, 1, 11]) rfl rfl (qs0 HT_.out z12_10) (fun _ _ _ h => h) (Or.inl ⟨by rfl, ?_⟩) ?_ ?_
       rotate_left
       ·intro w'
        go_simp
        with_reducible rfl
       rotate_left
       ·simp only [Act.put, List.setIfInBounds_toArray, List.set_cons_zero, List.set_cons_succ, i64_w, i32_w]
        rfl
       refine pure_ (i := 3) (N := some 144) (v := ?_) (a' := ?_) (rb12 [1, 1, 2, 10]) rfl rfl (qs0 HT_.out z12_10) (fun _ _ _ h => h) (Or.inl ⟨by rfl, ?_⟩) ?_ ?_
       rotate_left
       ·intro w'
        go_simp
        with_reducible rfl
       rotate_left
       ·simp only [Act.put, List.setIfInBounds_toArray, List.set_cons_zero, List.set_cons_succ, i64_w, i32_w]
        rfl
       refine pure_ (i := 5) (N := some 146) (v := ?_) (a' := ?_) (rb12 [1, 1, 2, 1, 1, 8]) rfl rfl (qs0 HT_.out z12_10) (fun _ _ _ h => h) (Or.inl ⟨by rfl, ?_⟩) ?_ ?_
       rotate_left
       ·intro w'
        go_simp
        with_reducible rfl
       rotate_left
       ·simp only [Act.put, List.setIfInBounds_toArray, List.set_cons_zero, List.set_cons_succ, i64_w, i32_w]
        rfl
       refine pure_ (i := 9) (N := some 150) (v := ?_) (a' := ?_) (rb12 [1, 1, 2, 1, 1, 3, 1, 4]) rfl rfl (qs0 HT_.out z12_10) (fun _ _ _ h => h) (Or.inl ⟨by rfl, ?_⟩) ?_ ?_
       rotate_left
       ·intro w'
        go_simp
        with_reducible rfl
       rotate_left
       ·simp only [Act.put, List.setIfInBounds_toArray, List.set_cons_zero, List.set_cons_succ, i64_w, i32_w]
        rfl
       refine take_ (i := 1) (N := some 142) (v := ?_) (a' := ?_) (rb12 [4, 1, 1, 3, 1, 4]) rfl rfl (ql1 HT_.out HW_.out z12_10) (fun _ _ _ h => h) (Or.inl ⟨by rfl, ?_⟩) hHeld ?_ ?_
       rotate_left
       ·rintro w' ⟨s0, s1, s2, s3, s4, s5, s6, s7, s8⟩
        go_simp
        with_reducible rfl
       rotate_left
       ·simp only [Act.put, List.setIfInBounds_toArray, List.set_cons_zero, List.set_cons_succ, i64_w, i32_w]
        rfl
       refine take_ (i := 4) (N := some 145) (v := ?_) (a' := ?_) (rb12 [6, 3, 1, 4]) rfl rfl (ql1 HT_.out HW_.out z12_10) (fun _ _ _ h => h) (Or.inl ⟨by rfl, ?_⟩) hHeld ?_ ?_
       rotate_left
       ·rintro w' ⟨s0, s1, s2, s3, s4, s5, s6, s7, s8⟩
        go_simp
        with_reducible rfl
       rotate_left
       ·simp only [Act.put, List.setIfInBounds_toArray, List.set_cons_zero, List.set_cons_succ, i64_w, i32_w]
        rfl
       refine pure_ (i := 6) (N := some 147) (v := ?_) (a' := ?_) (rb12 [7, 2, 1, 4]) rfl rfl (qs0 HT_.out z12_10) (fun _ _ _ h => h) (Or.inl ⟨by rfl, ?_⟩) ?_ ?_
       rotate_left
       ·intro w'
        go_simp
        with_reducible rfl
       rotate_left
       ·simp only [Act.put, List.setIfInBounds_toArray, List.set_cons_zero, List.set_cons_succ, i64_w, i32_w]
        rfl
       refine pure_ (i := 7) (N := some 148) (v := ?_) (a' := ?_) (rb12 [8, 1, 1, 4]) rfl rfl (qs0 HT_.out z12_10) (fun _ _ _ h => h) (Or.inl ⟨by rfl, ?_⟩) ?_ ?_
       rotate_left
       ·intro w'
        go_simp
        with_reducible rfl
       rotate_left
       ·simp only [Act.put, List.setIfInBounds_toArray, List.set_cons_zero, List.set_cons_succ, i64_w, i32_w]
        rfl
       refine take_ (i := 8) (N := some 149) (v := ?_) (a' := ?_) (rb12 [10, 4]) rfl rfl (ql1 HT_.out HW_.out z12_10) (fun _ _ _ h => h) (Or.inl ⟨by rfl, ?_⟩) hHeld ?_ ?_
       rotate_left
       ·rintro w' ⟨s0, s1, s2, s3, s4, s5, s6, s7, s8⟩
        go_simp
        with_reducible rfl
       rotate_left
       ·simp only [Act.put, List.setIfInBounds_toArray, List.set_cons_zero, List.set_cons_succ, i64_w, i32_w]
        rfl
       refine pure_ (i := 10) (N := some 151) (v := ?_) (a' := ?_) (rb12 [11, 3]) rfl rfl (qs0 HT_.out z12_10) (fun _ _ _ h => h) (Or.inl ⟨by rfl, ?_⟩) ?_ ?_
       rotate_left
       ·intro w'
        go_simp
        with_reducible rfl
       rotate_left
       ·simp only [Act.put, List.setIfInBounds_toArray, List.set_cons_zero, List.set_cons_succ, i64_w, i32_w]
        rfl
       refine pure_ (i := 11) (N := some 152) (v := ?_) (a' := ?_) (rb12 [12, 2]) rfl rfl (qs0 HT_.out z12_10) (fun _ _ _ h => h) (Or.inl ⟨by rfl, ?_⟩) ?_ ?_
       rotate_left
       ·intro w'
        go_simp
        with_reducible rfl
       rotate_left
       ·simp only [Act.put, List.setIfInBounds_toArray, List.set_cons_zero, List.set_cons_succ, i64_w, i32_w]
        rfl
       refine pure_ (i := 12) (N := some 153) (v := ?_) (a' := ?_) (rb12 [13, 1]) rfl rfl (qs0 HT_.out z12_10) (fun _ _ _ h => h) (Or.inl ⟨by rfl, ?_⟩) ?_ ?_
       rotate_left
       ·intro w'
        go_simp
        with_reducible rfl
       rotate_left
       ·simp only [Act.put, List.setIfInBounds_toArray, List.set_cons_zero, List.set_cons_succ, i64_w, i32_w]
        rfl
       refine last_ (i := 13) (N := none) (rb12 [14]) rfl rfl (qt1 HT_.out z12_10) (by decide) (fun K hK => ?_)
       refine skip_ (w1 := ?_) (by rfl) rfl ?_ ?_
       rotate_left
       ·go_simp
        rfl
       refine hK.out _ _ ?_
       clear hK K
       refine done_ (done_of HT_.out z12_10) ?_
       try go_wp2
       go_meet
       case rel => exact ⟨_, ((rd_T98 t448 (ji28)).f0), ((rd_T98 t448 (ji28)).f1), ((rd_T98 t448 (ji28)).f2), (y478), (.slice (some ⟨go90, 0, none⟩) y463.length co41), H', ⟨z12_21⟩, ⟨by (with_reducible repeat (first | apply Kd.N_alloc | apply Kd.qv1 | apply Kd.qf2)); exact Kd.qe2 (Kd.N_far (p := ⟨go90, ((ji87) : Int).toNat * 5, none⟩) (Kd.qe2 HO_3.out (fun k_ hk => (⟨hk, fun e_ => hk.1 (by rw [e_]; rfl)⟩ : _ ∧ k_ ≠ go90))) (fun _ hk => hk.2) (.int .i64 (wrap64 (((rd_T100 y463 (ji87)).f0) + (wrap64 (1 + t466)))))) (fun _ hk => ⟨hk.1.1, hk.1.2⟩)⟩, ⟨by (with_reducible repeat (first | apply Kd.qr0 | apply Kd.qp0 | apply Kd.qu0)); exact HQ95.out⟩, ⟨by (with_reducible repeat (first | refine qe0 ?_ _ | refine qf0 ?_ | refine qd0 ?_ _)); refine blk_far ?_ (by have h_ := Kd.R_ne HO465.out BK459.out (by decide); intro e_; exact h_ (by rw [e_]; rfl)) _; (with_reducible repeat (first | refine qe0 ?_ _ | refine qf0 ?_ | refine qd0 ?_ _)); exact BK459.out⟩, ⟨by repeat (first | (with_reducible first | exact HB.out | apply qj0 | apply qh0 | apply qi0 | refine qk0 ?_ GB90.out | refine qk0 ?_ GE459.out) | exact HB.out)⟩⟩
      rw [if_neg c83] at H
      have c83b0 : ((Int.tmod t467 5) == 4) = false := beq_eq_false_iff_ne.mpr c83
      have c83b1 : ((Int.tmod t467 5) != 4) = true := bne_iff_ne.mpr c83
      have H' := Aside0.mk H
      clear H
      go_wp2
      go_meet
      case rel => exact ⟨_, ((rd_T98 t448 (ji28)).f0), ((rd_T98 t448 (ji28)).f1), ((rd_T98 t448 (ji28)).f2), (y463), (.slice Ao41 y463.length co41), H', ⟨z12_21⟩, ⟨z12_8⟩, ⟨z12_9⟩, ⟨z12_3⟩, ⟨z12_0⟩⟩
     case rest =>
      clear HC34
      try clear p2
      try clear c4
      try clear p4
      try clear q4
      try clear hx4
      try clear p6
      try clear c7
      try clear p7
      try clear q7
      try clear hx7
      try clear hf7
      try clear c8
      try clear c9
      try clear p9
      try clear q9
      try clear hx9
      try clear hf9
      try clear c40
      try clear c45
      try clear p47
      try clear q47
      try clear hx47
      try clear p64
      try clear c70
      try clear c70b0
      try clear c70b1
      try clear c77
      try clear p77
      try clear q77
      try clear hx77
      try clear hf77
      try clear c82
      try clear c83
      try clear c83b0
      try clear c83b1
      try clear c84
      try clear c84b0
      try clear c84b1
      try clear c84b2
      try clear c88
      try clear c88b0
      try clear c89
      try clear c89b0
      try clear c90
      try clear p90
      try clear q90
      try clear hx90
      try clear hf90
      try clear c95
      try clear hcz85_0
      try clear hcz85_1
      try clear hcz85_2
      try clear hcz85_3
      try clear hcz91_0
      try clear hcz91_1
      try clear hcz91_2
      try clear hcz91_3
      try clear hfz85_0
      try clear hfz85_1
      try clear hfz85_2
      try clear hfz85_3
      try clear hfz91_0
      try clear hfz91_1
      try clear hfz91_2
      try clear hfz91_3
      try clear hx474_0
      try clear hx474_1
      try clear hx474_2
      try clear hx474_3
      try clear hx474_4
      try clear hx477_0
      try clear hx477_1
      try clear hx477_2
      try clear hx477_3
      try clear hx477_4
      try clear hx77_0
      try clear hx77_1
      try clear hx77_2
      try clear hx77_3
      try clear hx77_4
      try clear hx90_0
      try clear hx90_1
      try clear hx90_2
      try clear hx90_3
      try clear hx90_4
      try clear p474
      try clear p477
      try clear p77
      try clear p90
      try clear q474
      try clear q477
      try clear q77
      try clear q90
      obtain ⟨kq, x460000_33, x460001_33, x460002_33, x460003_33, u460003, HA, HJ33, HO_3, HO_460003, BK459, HB⟩ := hcut
      cases kq with
      | zero => exact absurd HA.out (by simp [laws_FnChained.j2])
      | succ kj33 =>
       have H := HA.out
       clear HA
       simp only [laws_FnChained.j2] at H
       obtain ⟨y479, hy479⟩ : ∃ y_ : List (S98), y_ = (([] : List (S98))) := ⟨_, rfl⟩
       replace H : (if y479.length + t448.length < 2513169434916 then ((some (y479 ++ t448 : List (S98))).bind fun y482 => (if 0 ≤ ji28 then (if ji28 < (y482.length : Int) then ((impl_HeadOf.f kj33 (y482.set (ji28 : Int).toNat (⟨x460000_33, x460001_33, x460002_33, x460003_33⟩ : S98))).bind fun t486 => (some (t486 != t451))) else (none)) else (none))) else (none)) = some r := by first | (rw [hy479]; with_reducible exact H) | (have H2_ := (Option.bind_some _ _).symm.trans H; rw [hy479]; with_reducible exact H2_) | (have H2_ := (Option.bind_some _ _).symm.trans H; with_reducible exact H2_) | with_reducible exact H | (rw [hy479]; exact H) | exact H
       have Ny479 := Aside0.mk hy479
       clear hy479
       by_cases c96 : y479.length + t448.length < 2513169434916
       case neg => rw [if_neg c96] at H; exact absurd H (by simp)
       rw [if_pos c96] at H
       have LMc96 := Aside0.mk c96
       clear c96
       obtain ⟨y482, hy482⟩ : ∃ y_ : List (S98), y_ = (y479 ++ t448) := ⟨_, rfl⟩
       replace H : (if 0 ≤ ji28 then (if ji28 < (y482.length : Int) then ((impl_HeadOf.f kj33 (y482.set (ji28 : Int).toNat (⟨x460000_33, x460001_33, x460002_33, x460003_33⟩ : S98))).bind fun t486 => (some (t486 != t451))) else (none)) else (none)) = some r := by first | (rw [hy482]; with_reducible exact H) | (have H2_ := (Option.bind_some _ _).symm.trans H; rw [hy482]; with_reducible exact H2_) | (have H2_ := (Option.bind_some _ _).symm.trans H; with_reducible exact H2_) | with_reducible exact H | (rw [hy482]; exact H) | exact H
       have Ny482 := Aside0.mk hy482
       clear hy482
       by_cases c97 : 0 ≤ ji28
       case neg => rw [if_neg c97] at H; exact absurd H (by simp)
       rw [if_pos c97] at H
       have c97b0 : decide (0 ≤ ji28) = true := decide_eq_true c97
       clear c97
       by_cases c98 : ji28 < (y482.length : Int)
       case neg => rw [if_neg c98] at H; exact absurd H (by simp)
       rw [if_pos c98] at H
       have c98b0 : decide (ji28 < (y482.length : Int)) = true := decide_eq_true c98
       clear c98
       obtain ⟨y485, hy485⟩ : ∃ y_ : List (S98), y_ = (y482.set (ji28 : Int).toNat (⟨x460000_33, x460001_33, x460002_33, x460003_33⟩ : S98)) := ⟨_, rfl⟩
       replace H : ((impl_HeadOf.f kj33 y485).bind fun t486 => (some (t486 != t451))) = some r := by first | (rw [hy485]; with_reducible exact H) | (have H2_ := (Option.bind_some _ _).symm.trans H; rw [hy485]; with_reducible exact H2_) | (have H2_ := (Option.bind_some _ _).symm.trans H; with_reducible exact H2_) | with_reducible exact H | (rw [hy485]; exact H) | exact H
       have Ny485 := Aside0.mk hy485
       clear hy485
       replace H := Option.bind_eq_some_iff.mp H
       obtain ⟨t486, A1000, H⟩ := H
       replace H : (some (t486 != t451)) = some r := H
       have A100 := Aside0.mk A1000
       clear A1000
       obtain rfl := Option.some.inj H
       go_wp2_with (first | ((with_reducible refine qa1 (N := 154) rfl ?_); refine Kd.N_lit k98 _ 98 ?hg (N' := 154) ?hd (xs := ([] : List (S98))) (inner := []) (ok := (fun k_ => some k_ ≠ (.slice (some ad458) t448.length co8 : Value).ownBlock ∧ some k_ ≠ (u460003 : Value).ownBlock ∧ k_ ≠ gb459)) (okp := (fun k_ => some k_ ≠ (.slice (some ad458) t448.length co8 : Value).ownBlock ∧ some k_ ≠ (u460003 : Value).ownBlock ∧ k_ ≠ gb459)) ?hr ?hp (fun _ hk => hk) ((show ∀ k_, wc.heap.size ≤ k_ → (fun k_ => some k_ ≠ (.slice (some ad458) t448.length co8 : Value).ownBlock ∧ some k_ ≠ (u460003 : Value).ownBlock ∧ k_ ≠ gb459) k_ from fun k_ hk => ⟨Kd.fresh' (Kd.N_lt z12_4) k_ hk, Kd.fresh' (Kd.R_lt z12_20) k_ hk, Kd.freshB (g := gb459) (o := .cells #[.int .i64 x460000_33, .int .i64 x460001_33, .string x460002_33, u460003] 98 (0, 0)) z12_6 k_ hk⟩) _ (Nat.le_refl _)) (Below.refl _ _) (Nat.le_refl _) (by simp) ?_; (case hd => rfl); (case hg => rfl); (case hr => exact z12_31); (case hp => exact (Reps.none _ _)); intro v480 w101 ho102 hb hg_ hnew_; clear hg_ hnew_; (first | rw [← Ny479.out] at ho102 | (simp only [Int.reduceToNat] at ho102; rw [← Ny479.out] at ho102)); have n0_ := Aside0.mk (Kd.N_elder' z12_4 (Kd.N_base ho102) hb); have n1_ := Aside0.mk (Kd.qy1 z12_20 hb); have n2_ := Aside0.mk (Kd.N_lower ho102 (qv0 z12_0)); have n3_ := Aside0.mk (qz0 (g := gb459) (o := .cells #[.int .i64 x460000_33, .int .i64 x460001_33, .string x460002_33, u460003] 98 (0, 0)) z12_6 hb); have n4_ := Aside0.mk (ql0 z12_0 hb); clear HO_3; clear HO_460003; clear BK459; clear HB; have HO_3 := n0_; have HO_460003 := n1_; have HO481 := n2_; have BK459 := n3_; have HB := n4_; clear n0_ n1_ n2_ n3_ n4_; clear hb ho102) | ((with_reducible refine qw0 (b := .append) (xs := #[.tmp 154, .tmp 155]) rfl ?_); at_builtin; refine Kd.N_append_rows k98 (w0 := w) w.heap.size rfl (.tmp 154) (.tmp 155) 93 98 (.agg #[(.int .i64 0), (.int .i64 0), (.string ⟨#[]⟩), (.slice none 0 0)]) 56 rfl Try.underlying93 info98 rfl (by decide) (by omega) v480 y479 t448 _ _ _ (fun k_ => some k_ ≠ (u460003 : Value).ownBlock ∧ k_ ≠ gb459) (fun k_ => ((fun k_ => some k_ ≠ (u460003 : Value).ownBlock ∧ k_ ≠ gb459)) k_ ∧ some k_ ≠ (v480 : Value).ownBlock) rfl rfl ?aO ?aR (fun _ hk => hk) ?aF ?aB ?aS ?aL ?_; (case aR => exact (by skip; exact Kd.N_F (Kd.qe2 (ok' := (fun k_ => ((fun k_ => some k_ ≠ (u460003 : Value).ownBlock ∧ k_ ≠ gb459)) k_ ∧ some k_ ≠ (v480 : Value).ownBlock)) (HO_3.out) (fun k_ hk => ⟨⟨hk.1.1, hk.1.2⟩, hk.2⟩)))); (case aB => exact z12_0); (case aF => exact (fun k_ hk => ⟨Kd.fresh' (Kd.R_lt z12_20) k_ hk, Kd.freshB (g := gb459) (o := .cells #[.int .i64 x460000_33, .int .i64 x460001_33, .string x460002_33, u460003] 98 (0, 0)) z12_6 k_ hk⟩)); (case aO => exact (by (with_reducible repeat (first | apply Kd.N_alloc | apply Kd.qv1 | apply Kd.qf2)); exact Kd.qe2 HO481.out (fun _ hk => ⟨hk.2.1, hk.2.2⟩))); (case aS => exact (qv0 z12_0)); (case aL => have := LMc96.out; omega); intro v483 w103 ho hb hg hat; rw [← Ny482.out] at ho; have n0_ := Aside0.mk (Kd.N_afterv (ok := (fun k_ => some k_ ≠ (u460003 : Value).ownBlock ∧ k_ ≠ gb459)) z12_4 hg hat); have n1_ := Aside0.mk (Kd.R_over' z12_20 (Kd.N_typed (by (with_reducible repeat (first | apply Kd.N_alloc | apply Kd.qv1 | apply Kd.qf2)); exact HO481.out)) (by decide) hg); have n2_ := Aside0.mk (qq0 (g := gb459) (o := .cells #[.int .i64 x460000_33, .int .i64 x460001_33, .string x460002_33, u460003] 98 (0, 0)) z12_6 hg (Kd.N_away HO481.out (fun _ hk => hk.2.2))); have n3_ := Aside0.mk (hb); have n4_ := Aside0.mk (ho); clear HO_3; clear HO_460003; clear BK459; clear HB; clear HO481; have HO_3 := n0_; have HO_460003 := n1_; have BK459 := n2_; have HB := n3_; have HO484 := n4_; clear n0_ n1_ n2_ n3_ n4_; clear ho hb hg hat; have hcz104_0 : w103.cell? ⟨gb459, 0, none⟩ = some (.int .i64 x460000_33) := (qb0 BK459.out 0).trans rfl; have hcz104_1 : w103.cell? ⟨gb459, 1, none⟩ = some (.int .i64 x460001_33) := (qb0 BK459.out 1).trans rfl; have hcz104_2 : w103.cell? ⟨gb459, 2, none⟩ = some (.string x460002_33) := (qb0 BK459.out 2).trans rfl; have hcz104_3 : w103.cell? ⟨gb459, 3, none⟩ = some (u460003) := (qb0 BK459.out 3).trans rfl; have hfz104_0 := qa0 BK459.out 0; have hfz104_1 := qa0 BK459.out 1; have hfz104_2 := qa0 BK459.out 2; have hfz104_3 := qa0 BK459.out 3; have p99 : 0 ≤ (ji28 : Int) := of_decide_eq_true z12_5; have q99 : (ji28 : Int) < ((y482.length : Int) : Int) := of_decide_eq_true z12_5; obtain ⟨go99, co99, eo99, gb99, gl99, cl99, HG99⟩ := Kd.N_form HO484.out (by omega); (first | cases eo99 | (injection eo99 with ea_ en_ ec_; (first | subst ea_ | (injection ea_ with ea_; subst ea_)); subst ec_; clear en_)); have GB99 := Aside0.mk gb99; have GG99 := Aside0.mk HG99; clear gb99 gl99 HG99; obtain ⟨ce99, hcl99, hM99, hcc99, hfr99⟩ := Kd.N_elem HO484.out z98 (ji28 : Int) p99 q99; obtain ⟨ua99_3, uc99_3, rfl, ul99_3, ge99_3⟩ := k98_openF hM99; have hx99_0 : w103.cell? ⟨go99, (ji28 : Int).toNat * 4, none⟩ = some (.int .i64 ((rd_T98 y482 ji28).f0)) := hcc99 0 _ rfl; have hx99_1 : w103.cell? ⟨go99, (ji28 : Int).toNat * 4 + 1, none⟩ = some (.int .i64 ((rd_T98 y482 ji28).f1)) := hcc99 1 _ rfl; have hx99_2 : w103.cell? ⟨go99, (ji28 : Int).toNat * 4 + 2, none⟩ = some (.string ((rd_T98 y482 ji28).f2)) := hcc99 2 _ rfl; have hx99_3 : w103.cell? ⟨go99, (ji28 : Int).toNat * 4 + 3, none⟩ = some (.slice ua99_3 ((rd_T98 y482 ji28).f3).length uc99_3) := hcc99 3 _ rfl; have hf99_0 : w103.frozen? ⟨go99, (ji28 : Int).toNat * 4, none⟩ = false := hfr99 0; have hf99_1 : w103.frozen? ⟨go99, (ji28 : Int).toNat * 4 + 1, none⟩ = false := hfr99 1; have hf99_2 : w103.frozen? ⟨go99, (ji28 : Int).toNat * 4 + 2, none⟩ = false := hfr99 2; have hf99_3 : w103.frozen? ⟨go99, (ji28 : Int).toNat * 4 + 3, none⟩ = false := hfr99 3; clear hcl99 hcc99 hfr99 hM99; replace p99 := eq_true p99; replace q99 := eq_true q99; obtain ⟨Ao107, co107, eo107⟩ := Kd.qn1 HO_460003.out; subst eo107; have HX105 := Aside0.mk (show Kd.N k98 98 w103 w.heap.size (fun k_ => k_ ≠ gb459) (.slice (some ⟨go99, 0, none⟩) y482.length co99) y482 from (by (with_reducible repeat (first | apply Kd.N_alloc | apply Kd.qv1 | apply Kd.qf2)); exact Kd.qe2 HO484.out (fun _ hk => hk.2))); obtain ⟨ce105, hcl105, hM105, hcc105, hfr105⟩ := Kd.N_elem HX105.out z98 (ji28 : Int) (of_decide_eq_true z12_5) (by have h_ : (ji28 : Int) < ((y482.length : Int) : Int) := of_decide_eq_true z12_5; first | exact h_ | (have e_ := (Kd.N_reads' HO484.out).1; omega) | simpa using h_); obtain ⟨ua105_3, uc105_3, rfl, ul105_3, ge105_3⟩ := k98_openF hM105; have HP105 := Kd.N_seg HX105.out (ji28 : Int) (of_decide_eq_true z12_5) (by have h_ : (ji28 : Int) < ((y482.length : Int) : Int) := of_decide_eq_true z12_5; first | exact h_ | (have e_ := (Kd.N_reads' HO484.out).1; omega) | simpa using h_) (seg := [.int .i64 x460000_33, .int .i64 x460001_33, .string x460002_33, .slice Ao107 x460003_33.length co107]) (j := 0) hcl105 hcc105 (show 4 ≤ 4 from by decide) (x' := (⟨x460000_33, x460001_33, x460002_33, x460003_33⟩ : S98)) (k98_mkF _ _ (⟨x460000_33, x460001_33, x460002_33, x460003_33⟩ : S98) (Kd.qn0 (Kd.qm0 (ok' := (fun k_ => ((fun k_ => k_ ≠ gb459)) k_ ∧ k_ ≠ go99)) (Kd.qi1 (Kd.R_apart' (HO_460003.out) (Kd.N_typed HO484.out) (by decide)) BK459.out (by decide)) (fun k_ hk => ⟨hk.2, fun e_ => (hk.1.2) (by rw [e_]; rfl)⟩))).2.1 (Kd.R_F (Kd.qm0 (ok' := (fun k_ => ((fun k_ => k_ ≠ gb459)) k_ ∧ k_ ≠ go99)) (Kd.qi1 (Kd.R_apart' (HO_460003.out) (Kd.N_typed HO484.out) (by decide)) BK459.out (by decide)) (fun k_ hk => ⟨hk.2, fun e_ => (hk.1.2) (by rw [e_]; rfl)⟩)))) (fun _ hk => hk); have hx105_0 := hcc105 0 _ rfl; (try simp only [show (k98).sz = 4 from rfl, Nat.mul_one, Nat.add_zero] at hx105_0); have hf105_0 := hfr105 0; (try simp only [show (k98).sz = 4 from rfl, Nat.mul_one, Nat.add_zero] at hf105_0); have hx105_1 := hcc105 1 _ rfl; (try simp only [show (k98).sz = 4 from rfl, Nat.mul_one, Nat.add_zero] at hx105_1); have hf105_1 := hfr105 1; (try simp only [show (k98).sz = 4 from rfl, Nat.mul_one, Nat.add_zero] at hf105_1); have hx105_2 := hcc105 2 _ rfl; (try simp only [show (k98).sz = 4 from rfl, Nat.mul_one, Nat.add_zero] at hx105_2); have hf105_2 := hfr105 2; (try simp only [show (k98).sz = 4 from rfl, Nat.mul_one, Nat.add_zero] at hf105_2); have hx105_3 := hcc105 3 _ rfl; (try simp only [show (k98).sz = 4 from rfl, Nat.mul_one, Nat.add_zero] at hx105_3); have hf105_3 := hfr105 3; (try simp only [show (k98).sz = 4 from rfl, Nat.mul_one, Nat.add_zero] at hf105_3); clear hcl105 hcc105 hfr105 hM105) | ((with_reducible refine gate_store (t := 98) (p := 160) rfl ?_); refine store_event (t := 98) (p := 160) (v := ?vo_w106) (w1 := ((((w103.setCell ⟨go99, (ji28 : Int).toNat * 4, none⟩ (.int .i64 x460000_33)).setCell ⟨go99, (ji28 : Int).toNat * 4 + 1, none⟩ (.int .i64 x460001_33)).setCell ⟨go99, (ji28 : Int).toNat * 4 + 2, none⟩ (.string x460002_33)).setCell ⟨go99, (ji28 : Int).toNat * 4 + 3, none⟩ (.slice Ao107 x460003_33.length co107))) ?hg ?ho ?hn ?hr ?_; (case ho => rfl); (case hg => rfl); (case hn => rfl); (case hr => exact z12_31); intro w106 hw; have hg : w103.grownBy w106 (some go99) := (by rw [hw]; exact HP105.2); have hp_ : Kd.N k98 98 w106 w.heap.size (fun k_ => k_ ≠ gb459) (.slice (some ⟨go99, 0, none⟩) y482.length co99) y485 := (by rw [hw, Ny485.out]; exact HP105.1); clear HP105; have n0_ := Aside0.mk (Kd.N_afterv (v := (.slice (some ⟨go99, 0, none⟩) y482.length co99)) (v1 := (.slice (some ⟨go99, 0, none⟩) y482.length co99)) (ok := (fun k_ => some k_ ≠ (.slice Ao107 x460003_33.length co107 : Value).ownBlock ∧ k_ ≠ gb459)) z12_4 hg (.inl rfl)); have n1_ := Aside0.mk (qq0 (g := gb459) (o := .cells #[.int .i64 x460000_33, .int .i64 x460001_33, .string x460002_33, .slice Ao107 x460003_33.length co107] 98 (0, 0)) z12_6 hg (Kd.N_away HO484.out (fun _ hk => hk.2))); have n2_ := Aside0.mk (hp_); have n3_ := Aside0.mk ((by rw [hw]; exact qk0 (qk0 (qk0 (qk0 (HB.out) GB99.out) GB99.out) GB99.out) GB99.out : Below w.heap.size w w106)); clear HO_3; clear BK459; clear HO484; clear HB; clear HO_460003; have HO_3 := n0_; have BK459 := n1_; have HO484 := n2_; have HB := n3_; clear n0_ n1_ n2_ n3_; clear hg hw hp_) | ((with_reducible refine qg0 (f := 51) rfl ?_); refine qt0 (some 162) rfl rfl Try.func51 z12_10 rfl #[.slice (some ⟨go99, 0, none⟩) y485.length co99] rfl (by (try simp only [List.map_toArray, List.map_cons, List.map_nil]); first | done | (rw [show y485.length = y482.length from (Kd.N_reads' HO484.out).1.symm] <;> rfl) | rfl | (simp only [List.length_drop, List.length_take]; rfl)) ?_; (with_reducible refine (impl_HeadOf.calls kj33 _ _ y485 t486 _ ?side1 ?side2 A100.out).mono ?_); (case side1 => repeat (first | exact (Kd.N_reads' HO484.out).2.2 | (with_reducible refine Kd.qx1 ?_ _) | (with_reducible refine Kd.qw1 ?_ _) | (with_reducible refine Kd.qg2 ?_))); (case side2 => rw [show y485.length = y482.length from (Kd.N_reads' HO484.out).1.symm]; exact (Kd.N_reads' HO484.out).2.1); rintro e w108 ⟨rfl, hb⟩; refine ⟨_, rfl, ?_⟩; have n0_ := Aside0.mk (Kd.N_below z12_4 hb); have n1_ := Aside0.mk (Kd.N_below (by (with_reducible repeat (first | apply Kd.N_alloc | apply Kd.qv1 | apply Kd.qf2)); exact HO484.out) hb); have n2_ := Aside0.mk (qz0 (g := gb459) (o := .cells #[.int .i64 x460000_33, .int .i64 x460001_33, .string x460002_33, .slice Ao107 x460003_33.length co107] 98 (0, 0)) z12_6 hb); have n3_ := Aside0.mk (ql0 z12_0 hb); clear HO_3; clear HO484; clear BK459; clear HB; have HO_3 := n0_; have HO484 := n1_; have BK459 := n2_; have HB := n3_; clear n0_ n1_ n2_ n3_; (try clear hb); (try clear hb2); (try clear hk); (try clear hi)))
       go_ret
       exact ⟨z12_14, z12_0⟩

/-- THE ONE PURE STATEMENT of laws_FnChained: yours. -/
def laws_FnChained.Pure : Prop := ∀ (l0 : List Int), l0.length ≤ maxLen → l0.length * 1 ≤ 140737488351232 → (∀ x ∈ l0, (Lit.int .u8 x).wf = true) → ∃ k, laws_FnChained.f k l0 = some true
theorem laws_FnChained.walk (P : laws_FnChained.Pure) (a0 : Option Addr) (len0 cap0 : Nat) (z0 : List Int) (w : World) (w0 : (a0 = none ∧ len0 = 0 ∧ cap0 = 0 ∧ z0 = []) ∨ ∃ x, a0 = some x ∧ len0 ≤ cap0 ∧ cap0 ≤ maxLen ∧ z0.length = cap0 ∧ (∀ i, i < z0.length → w.cell? (x.add i) = some (.int .u8 (z0.getD i 0))) ∧ ∀ n ∈ z0, (Lit.int .u8 n).wf = true) (y0 : len0 * 1 ≤ 140737488351232) :
  Calls Try.prog 11 #[.slice a0 len0 cap0] w fun e w' => e = .returned (.bool true) ∧ Below w.heap.size w w' := by
 obtain ⟨l0, rfl, hr0, hm0, hw0, hc0⟩ := qj1.ofRowC w0
 obtain ⟨k, h⟩ := P l0 hm0 y0 hw0
 refine (laws_FnChained.calls k _ _ l0 true w (Kd.C_of_reads (d := (0 : Int)) (h1 := fun _ => rfl) hr0) hc0 h).mono ?_
 rintro e w' ⟨rfl, hd⟩
 exact ⟨rfl, hd⟩

end Go.Proofs.Ytkkdmmefnicmaaa.PFnChained
