/- Lines by a program (a changed copy of the kit's print: this repo's wip/tools): Go functions as Lean functions, and proofs that the calls answer so. -/
import Derived.Test.YtkkdmmefnicmaaaZPFnChainedx0
import Derived.Test.YtkkdmmefnicmaaaZPFnChainedx1
import Derived.Test.YtkkdmmefnicmaaaZPFnChainedx4
import Derived.Test.YtkkdmmefnicmaaaZPFnChainedx8
import Derived.Test.YtkkdmmefnicmaaaZPFnChainedx9
namespace Go.Proofs.Ytkkdmmefnicmaaa.PFnChained
open Go.RowKit Go.Proofs.YtkkdmmefnicmaaaW.PrintWords Go.Proofs.YtkkdmmefnicmaaaW.PrintLast Go.Proofs.YtkkdmmefnicmaaaW.PrintMore
/-- Closing blocks told once. -/
theorem z10_0 {P : Prop} (h : P := by repeat (first | (with_reducible first | exact HI381.out | apply IsS186.alloc | apply IsS186.drewN | apply IsS186.drew | apply IsS186.set_1 | apply IsS186.set_2) | exact HI381.out)) : P := h
theorem z10_1 {P : Prop} (h : P := by repeat (first | (with_reducible first | exact HB.out | apply qj0 | apply qh0 | apply qi0 | refine qk0 ?_ (IsS186.ge HI381.out)) | exact HB.out)) : P := h
theorem z10_2 {P : Prop} (h : P := by repeat (first | (with_reducible first | exact HI381.out | apply IsS186.alloc | apply IsS186.drewN | apply IsS186.drew | apply IsS186.set_1 | apply IsS186.set_2 | refine IsS186.far ?_ NB381_405.out _) | exact HI381.out)) : P := h
theorem z10_3 {P : Prop} (h : P := by repeat (first | (with_reducible first | exact HI1.out | apply IsS178.alloc | apply IsS178.drewN | apply IsS178.drew | apply IsS178.set_0 | apply IsS178.set_1 | refine IsS178.far ?_ NB1_419.out _) | exact HI1.out)) : P := h
theorem z10_4 {P : Prop} (h : P := by (try simp only [List.map_toArray, List.map_cons, List.map_nil]); first | done | rfl | (simp only [List.length_drop, List.length_take]; rfl)) : P := h
theorem z10_5 {P : Prop} (h : P := by repeat (first | (with_reducible first | exact HK.out | apply qc0.set_ | apply qf1 | apply qh1 | apply qg1 | refine qp1 ?_ GW419.out _) | exact HK.out)) : P := h
theorem z10_6 {P : Prop} (h : P := by repeat (first | (with_reducible first | exact HB.out | apply qj0 | apply qh0 | apply qi0 | refine qk0 ?_ (IsS178.ge HI1.out) | refine qk0 ?_ GE419.out) | exact HB.out)) : P := h
theorem z10_7 {P : Prop} (h : P := by repeat (first | (with_reducible first | exact HB.out | apply qj0 | apply qh0 | apply qi0 | refine qk0 ?_ (IsS186.ge HI381.out) | refine qk0 ?_ GE405.out) | exact HB.out)) : P := h
theorem z10_8 {P : Prop} (h : P := by (with_reducible repeat (first | refine qe0 ?_ _ | refine qf0 ?_ | refine qd0 ?_ _)); exact BK419.out) : P := h
theorem z10_9 {P : Prop} (h : P := by (with_reducible repeat (first | apply Kd.qr0 | apply Kd.qp0 | apply Kd.qu0)); exact HO384.out) : P := h
theorem z10_10 {P : Prop} (h : P := by repeat (first | (with_reducible first | exact HI1.out | apply IsS178.alloc | apply IsS178.drewN | apply IsS178.drew | apply IsS178.set_0 | apply IsS178.set_1 | refine IsS178.far ?_ NB1_419.out _ | refine IsS178.far ?_ NB1_431.out _) | exact HI1.out)) : P := h
theorem z10_11 {P : Prop} (h : P := by repeat (first | (with_reducible first | exact HB.out | apply qj0 | apply qh0 | apply qi0 | refine qk0 ?_ (IsS178.ge HI1.out) | refine qk0 ?_ GE419.out | refine qk0 ?_ GE431.out) | exact HB.out)) : P := h
theorem z10_12 {P : Prop} (h : P := by repeat (first | (with_reducible first | exact HK.out | apply qc0.set_ | apply qf1 | apply qh1 | apply qg1 | refine qp1 ?_ GW419.out _ | refine qp1 ?_ GW431.out _) | exact HK.out)) : P := h
theorem z10_13 {P : Prop} (h : P := by rw [hg]; exact (qv0 (by repeat (first | (with_reducible first | exact HB.out | apply qj0 | apply qh0 | apply qi0 | refine qk0 ?_ (IsS186.ge HI381.out)) | exact HB.out)))) : P := h
theorem z10_14 {P : Prop} (h : P := by repeat (first | (with_reducible first | exact HK.out | apply qc0.set_ | apply qf1 | apply qh1 | apply qg1) | exact HK.out)) : P := h
theorem z10_15 {P : Prop} (h : P := by (with_reducible repeat (first | apply Kd.qa2 | apply Kd.qz1 | apply Kd.qd2)); exact HO395.out) : P := h
theorem z10_16 {P : Prop} (h : P := by (with_reducible repeat (first | apply Kd.qa2 | apply Kd.qz1 | apply Kd.qd2)); exact HO401.out) : P := h
theorem z10_17 {P : Prop} (h : P := by rw [hg]; exact Nat.ne_of_lt (IsS186.lt (show IsS186 w _ g381 t378 t403 t404 from by repeat (first | (with_reducible first | exact HI381.out | apply IsS186.alloc | apply IsS186.drewN | apply IsS186.drew | apply IsS186.set_1 | apply IsS186.set_2) | exact HI381.out)))) : P := h
theorem z10_18 {P : Prop} (h : P := by rw [hg]; exact Nat.ne_of_gt (IsS186.lt (show IsS186 w _ g381 t378 t403 t404 from by repeat (first | (with_reducible first | exact HI381.out | apply IsS186.alloc | apply IsS186.drewN | apply IsS186.drew | apply IsS186.set_1 | apply IsS186.set_2) | exact HI381.out)))) : P := h
theorem z10_19 {P : Prop} (h : P := by repeat (first | (with_reducible first | exact HI1.out | apply IsS178.alloc | apply IsS178.drewN | apply IsS178.drew | apply IsS178.set_0 | apply IsS178.set_1) | exact HI1.out)) : P := h
theorem z10_20 {P : Prop} (h : P := by rw [hg]; exact (qx0 (w := w) (g := g) (row := none) (by repeat (first | (with_reducible first | exact HK.out | apply qc0.set_ | apply qf1 | apply qh1 | apply qg1 | refine qp1 ?_ GW419.out _) | exact HK.out)))) : P := h
theorem z10_21 {P : Prop} (h : P := by first | rfl | (simp [errW_none, errW_some] <;> rfl) | (simp [*, errW_none, errW_some] <;> rfl)) : P := h
theorem z10_22 {P : Prop} (h : P := by (with_reducible repeat (first | refine qe0 ?_ _ | refine qf0 ?_ | refine qd0 ?_ _)); exact BK431.out) : P := h
theorem z10_23 {P : Prop} (h : P := by rw [hg]; exact (qx0 (w := w) (g := g) (row := none) (by repeat (first | (with_reducible first | exact HK.out | apply qc0.set_ | apply qf1 | apply qh1 | apply qg1) | exact HK.out)))) : P := h
theorem z10_24 {P : Prop} (h : P := by rw [← hq_]; exact (by repeat (first | (with_reducible first | exact HI381.out | apply IsS186.alloc | apply IsS186.drewN | apply IsS186.drew | apply IsS186.set_1 | apply IsS186.set_2) | exact HI381.out))) : P := h
theorem z10_25 {P : Prop} (h : P := by rw [← hq_]; exact (by repeat (first | (with_reducible first | exact HB.out | apply qj0 | apply qh0 | apply qi0 | refine qk0 ?_ (IsS186.ge HI381.out)) | exact HB.out))) : P := h
theorem z10_26 {P : Prop} (h : P := by (with_reducible repeat (first | refine qe0 ?_ _ | refine qf0 ?_ | refine qd0 ?_ _)); exact BK405.out) : P := h
theorem z10_27 {P : Prop} (h : P := by repeat (first | (with_reducible first | exact HI0.out | apply IsS178.alloc | apply IsS178.drewN | apply IsS178.drew | apply IsS178.set_0 | apply IsS178.set_1) | exact HI0.out)) : P := h
theorem z10_28 {P : Prop} (h : P := by repeat (first | (with_reducible first | exact HB.out | apply qj0 | apply qh0 | apply qi0 | refine qk0 ?_ (IsS178.ge HI0.out)) | exact HB.out)) : P := h
theorem z10_29 {P : Prop} (h : P := by repeat (first | exact (Kd.C_below HR0.out HB.out) | (with_reducible refine Kd.qx1 ?_ _) | (with_reducible refine Kd.qw1 ?_ _) | (with_reducible refine Kd.qg2 ?_))) : P := h
theorem z10_30 {P : Prop} (h : P := by kernel_rfl) : P := h
theorem z10_31 {P : Prop} (h : P := by first | rfl | (simp; done) | (simp [*]; done)) : P := h
theorem z10_32 {P : Prop} (h : P := by repeat (first | (with_reducible first | exact HB.out | apply qj0 | apply qh0 | apply qi0) | exact HB.out)) : P := h
theorem z10_33 {P : Prop} (h : P := by rw [← hq_]; exact (by (with_reducible repeat (first | apply Kd.qr0 | apply Kd.qp0 | apply Kd.qu0)); exact HO384.out)) : P := h
theorem z10_34 {P : Prop} (h : P := by first | (go_simp; done) | (go_simp; rfl)) : P := h
theorem z10_35 {P : Prop} (h : P := by first | (with_reducible assumption) | assumption) : P := h
attribute [local go_sem] max2_int min2_int max_two min_two max_three min_three max_four min_four   -- for this text's walks alone
set_option linter.unusedVariables false
set_option linter.unusedSimpArgs false

/-! ### spec_DrawHeadOf: function 50 -/
def spec_DrawHeadOf.f (k : Nat) (l0 : List Int) : Option ((List (S98))) := (spec_l1New.f k l0).bind fun bt378 => ((spec_l5DrawFrame.f k bt378.1 bt378.2.1 bt378.2.2).bind fun bt382 => ((spec_l1Size.f l0 8).bind fun t389 => ((spec_l1Below.f bt378.1 bt382.2.2.2.1 bt382.2.2.2.2 t389).bind fun bt390 => ((spec_l5DrawLedger.f k bt378.1 bt390.2.1 bt390.2.2 bt382.1 bt382.2.1 bt382.2.2.1 bt390.1).bind fun bt393 => ((spec_l5SpoilLedger.f k bt378.1 bt393.2.2.1 bt393.2.2.2 bt393.1 bt393.2.1).bind fun bt399 => ((spec_l1Once.f bt378.1 bt399.2.2.1 bt399.2.2.2 30).bind fun bt406 => (if bt406.1 = true then ((spec_l1PickInt.f bt378.1 bt406.2.1 bt406.2.2 (([549755813887, 549755813888, (-549755813888), (-549755813889)] : List Int))).bind fun bt412 => (if bt399.1.length < 2513169434916 then (some (bt399.1 ++ [(⟨0, bt412.1, (⟨#[]⟩ : ByteArray), ([] : List (S100))⟩ : S98)])) else (none))) else (some bt399.1))))))))
theorem spec_DrawHeadOf.mono : ∀ a0 k, LeO (spec_DrawHeadOf.f k a0) (spec_DrawHeadOf.f (k + 1) a0) := by
 intro a0 k
 unfold spec_DrawHeadOf.f
 repeat' first
   | (with_reducible exact spec_l1New.mono _ _)
   | (with_reducible exact spec_l5DrawFrame.mono _ _ _ _)
   | (with_reducible exact spec_l5DrawLedger.mono _ _ _ _ _ _ _ _)
   | (with_reducible exact spec_l5SpoilLedger.mono _ _ _ _ _ _)
   | (with_reducible exact LeO.refl _)
   | (with_reducible exact LeO.none _)
   | (with_reducible refine LeO.ite ?_ ?_)
   | (with_reducible refine LeO.bind ?_ (fun _ => ?_))
   | exact spec_l1New.mono _ _
   | exact spec_l5DrawFrame.mono _ _ _ _
   | exact spec_l5DrawLedger.mono _ _ _ _ _ _ _ _
   | exact spec_l5SpoilLedger.mono _ _ _ _ _ _
   | exact LeO.none _
   | refine LeO.ite ?_ ?_
   | refine LeO.bind ?_ (fun _ => ?_)
def spec_DrawHeadOf.T4 : Bool × List (List Nat × List Nat) := (true, [([], []), ([0], [0]), ([], []), ([], []), ([2, 3], [2, 3]), ([4], [4]), ([5], [5]), ([1, 6, 4], [1, 6]), ([0, 1, 2, 3, 4, 5, 6, 7], []), ([8, 7, 7, 0, 1, 2, 3, 4, 5, 6, 7], [7, 8])])
def spec_DrawHeadOf.B4 : List Nat := [0, 1, 0, 0, 12, 28, 60, 127, 255, 511]
theorem spec_DrawHeadOf.tab4 : rtab .any (opsOf Try.f50 4) = spec_DrawHeadOf.T4 := by kernel_rfl
theorem spec_DrawHeadOf.bits4 : waitsOk spec_DrawHeadOf.T4.2 spec_DrawHeadOf.B4 = true := by kernel_rfl
set_option maxHeartbeats 8000000 in
set_option maxRecDepth 100000 in
theorem spec_DrawHeadOf.calls (k : Nat) (A0 : Option Addr) (c0 : Nat) (l0 : List Int) (r : List (S98)) (w : World) (hr0 : Kd.C (Kd.int .u8) w A0 l0.length l0) (hc0 : l0.length ≤ c0) (h : spec_DrawHeadOf.f k l0 = some r) :
  Calls Try.prog 50 #[.slice A0 l0.length c0] w fun e w' => ∃ v0_ : Value, e = .returned (v0_) ∧ Kd.S k98 98 w' w.heap.size (fun _ => True) v0_ r ∧ Below w.heap.size w w' := by
 have hu169 := Try.underlying169
 have hu98 := Try.underlying98
 have HR0 := Aside0.mk hr0
 have HC0 := Aside0.mk hc0
 clear hr0 hc0
 have HB := Aside0.mk (Below.refl w.heap.size w)
 have H : ((spec_l1New.f k l0).bind fun bt378 => ((spec_l5DrawFrame.f k bt378.1 bt378.2.1 bt378.2.2).bind fun bt382 => ((spec_l1Size.f l0 8).bind fun t389 => ((spec_l1Below.f bt378.1 bt382.2.2.2.1 bt382.2.2.2.2 t389).bind fun bt390 => ((spec_l5DrawLedger.f k bt378.1 bt390.2.1 bt390.2.2 bt382.1 bt382.2.1 bt382.2.2.1 bt390.1).bind fun bt393 => ((spec_l5SpoilLedger.f k bt378.1 bt393.2.2.1 bt393.2.2.2 bt393.1 bt393.2.1).bind fun bt399 => ((spec_l1Once.f bt378.1 bt399.2.2.1 bt399.2.2.2 30).bind fun bt406 => (if bt406.1 = true then ((spec_l1PickInt.f bt378.1 bt406.2.1 bt406.2.2 (([549755813887, 549755813888, (-549755813888), (-549755813889)] : List Int))).bind fun bt412 => (if bt399.1.length < 2513169434916 then (some (bt399.1 ++ [(⟨0, bt412.1, (⟨#[]⟩ : ByteArray), ([] : List (S100))⟩ : S98)])) else (none))) else (some bt399.1))))))))) = some r := h
 clear h
 replace H := Option.bind_eq_some_iff.mp H
 obtain ⟨⟨t378, t379, t380⟩, A20, H⟩ := H
 replace H : ((spec_l5DrawFrame.f k t378 t379 t380).bind fun bt382 => ((spec_l1Size.f l0 8).bind fun t389 => ((spec_l1Below.f t378 bt382.2.2.2.1 bt382.2.2.2.2 t389).bind fun bt390 => ((spec_l5DrawLedger.f k t378 bt390.2.1 bt390.2.2 bt382.1 bt382.2.1 bt382.2.2.1 bt390.1).bind fun bt393 => ((spec_l5SpoilLedger.f k t378 bt393.2.2.1 bt393.2.2.2 bt393.1 bt393.2.1).bind fun bt399 => ((spec_l1Once.f t378 bt399.2.2.1 bt399.2.2.2 30).bind fun bt406 => (if bt406.1 = true then ((spec_l1PickInt.f t378 bt406.2.1 bt406.2.2 (([549755813887, 549755813888, (-549755813888), (-549755813889)] : List Int))).bind fun bt412 => (if bt399.1.length < 2513169434916 then (some (bt399.1 ++ [(⟨0, bt412.1, (⟨#[]⟩ : ByteArray), ([] : List (S100))⟩ : S98)])) else (none))) else (some bt399.1)))))))) = some r := H
 have A2 := Aside0.mk A20
 clear A20
 replace H := Option.bind_eq_some_iff.mp H
 obtain ⟨⟨t382, t385, t386, t387, t388⟩, A30, H⟩ := H
 replace H : ((spec_l1Size.f l0 8).bind fun t389 => ((spec_l1Below.f t378 t387 t388 t389).bind fun bt390 => ((spec_l5DrawLedger.f k t378 bt390.2.1 bt390.2.2 t382 t385 t386 bt390.1).bind fun bt393 => ((spec_l5SpoilLedger.f k t378 bt393.2.2.1 bt393.2.2.2 bt393.1 bt393.2.1).bind fun bt399 => ((spec_l1Once.f t378 bt399.2.2.1 bt399.2.2.2 30).bind fun bt406 => (if bt406.1 = true then ((spec_l1PickInt.f t378 bt406.2.1 bt406.2.2 (([549755813887, 549755813888, (-549755813888), (-549755813889)] : List Int))).bind fun bt412 => (if bt399.1.length < 2513169434916 then (some (bt399.1 ++ [(⟨0, bt412.1, (⟨#[]⟩ : ByteArray), ([] : List (S100))⟩ : S98)])) else (none))) else (some bt399.1))))))) = some r := H
 have A3 := Aside0.mk A30
 clear A30
 replace H := Option.bind_eq_some_iff.mp H
 obtain ⟨t389, A40, H⟩ := H
 replace H : ((spec_l1Below.f t378 t387 t388 t389).bind fun bt390 => ((spec_l5DrawLedger.f k t378 bt390.2.1 bt390.2.2 t382 t385 t386 bt390.1).bind fun bt393 => ((spec_l5SpoilLedger.f k t378 bt393.2.2.1 bt393.2.2.2 bt393.1 bt393.2.1).bind fun bt399 => ((spec_l1Once.f t378 bt399.2.2.1 bt399.2.2.2 30).bind fun bt406 => (if bt406.1 = true then ((spec_l1PickInt.f t378 bt406.2.1 bt406.2.2 (([549755813887, 549755813888, (-549755813888), (-549755813889)] : List Int))).bind fun bt412 => (if bt399.1.length < 2513169434916 then (some (bt399.1 ++ [(⟨0, bt412.1, (⟨#[]⟩ : ByteArray), ([] : List (S100))⟩ : S98)])) else (none))) else (some bt399.1)))))) = some r := H
 have A4 := Aside0.mk A40
 clear A40
 replace H := Option.bind_eq_some_iff.mp H
 obtain ⟨⟨t390, t391, t392⟩, A50, H⟩ := H
 replace H : ((spec_l5DrawLedger.f k t378 t391 t392 t382 t385 t386 t390).bind fun bt393 => ((spec_l5SpoilLedger.f k t378 bt393.2.2.1 bt393.2.2.2 bt393.1 bt393.2.1).bind fun bt399 => ((spec_l1Once.f t378 bt399.2.2.1 bt399.2.2.2 30).bind fun bt406 => (if bt406.1 = true then ((spec_l1PickInt.f t378 bt406.2.1 bt406.2.2 (([549755813887, 549755813888, (-549755813888), (-549755813889)] : List Int))).bind fun bt412 => (if bt399.1.length < 2513169434916 then (some (bt399.1 ++ [(⟨0, bt412.1, (⟨#[]⟩ : ByteArray), ([] : List (S100))⟩ : S98)])) else (none))) else (some bt399.1))))) = some r := H
 have A5 := Aside0.mk A50
 clear A50
 replace H := Option.bind_eq_some_iff.mp H
 obtain ⟨⟨t393, t396, t397, t398⟩, A60, H⟩ := H
 replace H : ((spec_l5SpoilLedger.f k t378 t397 t398 t393 t396).bind fun bt399 => ((spec_l1Once.f t378 bt399.2.2.1 bt399.2.2.2 30).bind fun bt406 => (if bt406.1 = true then ((spec_l1PickInt.f t378 bt406.2.1 bt406.2.2 (([549755813887, 549755813888, (-549755813888), (-549755813889)] : List Int))).bind fun bt412 => (if bt399.1.length < 2513169434916 then (some (bt399.1 ++ [(⟨0, bt412.1, (⟨#[]⟩ : ByteArray), ([] : List (S100))⟩ : S98)])) else (none))) else (some bt399.1)))) = some r := H
 have A6 := Aside0.mk A60
 clear A60
 replace H := Option.bind_eq_some_iff.mp H
 obtain ⟨⟨t399, t402, t403, t404⟩, A70, H⟩ := H
 replace H : ((spec_l1Once.f t378 t403 t404 30).bind fun bt406 => (if bt406.1 = true then ((spec_l1PickInt.f t378 bt406.2.1 bt406.2.2 (([549755813887, 549755813888, (-549755813888), (-549755813889)] : List Int))).bind fun bt412 => (if t399.length < 2513169434916 then (some (t399 ++ [(⟨0, bt412.1, (⟨#[]⟩ : ByteArray), ([] : List (S100))⟩ : S98)])) else (none))) else (some t399))) = some r := H
 have A7 := Aside0.mk A70
 clear A70
 replace H := Option.bind_eq_some_iff.mp H
 obtain ⟨⟨t406, t407, t408⟩, A80, H⟩ := H
 replace H : (if t406 = true then ((spec_l1PickInt.f t378 t407 t408 (([549755813887, 549755813888, (-549755813888), (-549755813889)] : List Int))).bind fun bt412 => (if t399.length < 2513169434916 then (some (t399 ++ [(⟨0, bt412.1, (⟨#[]⟩ : ByteArray), ([] : List (S100))⟩ : S98)])) else (none))) else (some t399)) = some r := H
 have A8 := Aside0.mk A80
 clear A80
 by_cases c9 : t406 = true
 ·subst c9
  have H1 : ((spec_l1PickInt.f t378 t407 t408 (([549755813887, 549755813888, (-549755813888), (-549755813889)] : List Int))).bind fun bt412 => (if t399.length < 2513169434916 then (some (t399 ++ [(⟨0, bt412.1, (⟨#[]⟩ : ByteArray), ([] : List (S100))⟩ : S98)])) else (none))) = some r := by rw [if_pos rfl] at H; exact H
  clear H
  have H := H1
  clear H1
  obtain ⟨y409, hy409⟩ : ∃ y_ : List Int, y_ = (([549755813887, 549755813888, (-549755813888), (-549755813889)] : List Int)) := ⟨_, rfl⟩
  replace H : ((spec_l1PickInt.f t378 t407 t408 y409).bind fun bt412 => (if t399.length < 2513169434916 then (some (t399 ++ [(⟨0, bt412.1, (⟨#[]⟩ : ByteArray), ([] : List (S100))⟩ : S98)])) else (none))) = some r := by first | (rw [hy409]; with_reducible exact H) | (have H2_ := (Option.bind_some _ _).symm.trans H; rw [hy409]; with_reducible exact H2_) | (have H2_ := (Option.bind_some _ _).symm.trans H; with_reducible exact H2_) | with_reducible exact H | (rw [hy409]; exact H) | exact H
  have Ny409 := Aside0.mk hy409
  clear hy409
  replace H := Option.bind_eq_some_iff.mp H
  obtain ⟨⟨t412, t413, t414⟩, A100, H⟩ := H
  replace H : (if t399.length < 2513169434916 then (some (t399 ++ [(⟨0, t412, (⟨#[]⟩ : ByteArray), ([] : List (S100))⟩ : S98)])) else (none)) = some r := H
  have A10 := Aside0.mk A100
  clear A100
  by_cases c11 : t399.length < 2513169434916
  case neg => rw [if_neg c11] at H; exact absurd H (by simp)
  rw [if_pos c11] at H
  have LMc11 := Aside0.mk c11
  clear c11
  obtain ⟨y415, hy415⟩ : ∃ y_ : List (S98), y_ = (t399 ++ [(⟨0, t412, (⟨#[]⟩ : ByteArray), ([] : List (S100))⟩ : S98)]) := ⟨_, rfl⟩
  replace H : (some y415) = some r := by first | (rw [hy415]; with_reducible exact H) | (have H2_ := (Option.bind_some _ _).symm.trans H; rw [hy415]; with_reducible exact H2_) | (have H2_ := (Option.bind_some _ _).symm.trans H; with_reducible exact H2_) | with_reducible exact H | (rw [hy415]; exact H) | exact H
  have Ny415 := Aside0.mk hy415
  clear hy415
  obtain rfl := Option.some.inj H
  go_enter Try.func50, Try.ntmps50
  try go_wp2_with (first | ((with_reducible refine qg0 (f := 59) rfl ?_); refine qt0 (some 6) rfl rfl Try.func59 z10_30 rfl #[.slice A0 l0.length c0] rfl z10_4 ?_; (with_reducible refine (spec_l1New.calls k _ _ l0 t378 t379 t380 w _ ?side1 ?side2 ?side3 A2.out).mono ?_); (case side1 => exact z10_32); (case side2 => exact HR0.out); (case side3 => exact HC0.out); rintro e w12 ⟨g381, rfl, hi, hb, hb2⟩; refine ⟨_, rfl, ?_⟩; have n0_ := Aside0.mk (hb); have n1_ := Aside0.mk (hi); clear HB; have HB := n0_; have HI381 := n1_; clear n0_ n1_; (try clear hb); (try clear hb2); (try clear hk); (try clear hi)) | ((with_reducible refine qg0 (f := 123) rfl ?_); refine qt0 (some 10) rfl rfl Try.func123 z10_30 rfl #[.pointer (some ⟨g381, 0, none⟩)] rfl z10_4 ?_; (with_reducible refine (spec_l5DrawFrame.calls k g381 t378 t379 t380 t382 t385 t386 t387 t388 w _ ?side1 ?side2 A3.out).mono ?_); (case side1 => exact z10_0); (case side2 => exact z10_1); rintro e w13 ⟨v383, rfl, ho0, hi, hb, hk⟩; refine ⟨_, rfl, ?_⟩; have n0_ := Aside0.mk (Kd.qu1 ho0 (qv0 z10_1)); have n1_ := Aside0.mk (hb); have n2_ := Aside0.mk (hi); clear HB; clear HI381; have HO384 := n0_; have HB := n1_; have HI381 := n2_; clear n0_ n1_ n2_; (try clear hb); (try clear hb2); (try clear hk); (try clear hi); (try clear ho0)) | ((with_reducible refine qg0 (f := 62) rfl ?_); refine qt0 (some 13) rfl rfl Try.func62 z10_30 rfl #[.slice A0 l0.length c0, .int .i64 8] rfl z10_4 ?_; (with_reducible refine (spec_l1Size.calls _ _ l0 8 t389 _ ?side1 ?side2 A4.out).mono ?_); (case side1 => exact z10_29); (case side2 => exact HC0.out); rintro e w' ⟨rfl, ⟨nd, rfl⟩⟩; refine ⟨_, rfl, ?_⟩; (try (rw [drewN_self w13]; generalize hq_ : World.drewN w13 _ = w13; have n0_ : Aside0 (Kd.R k209 209 w13 w.heap.size (fun _ => True) v383 t382) := ⟨z10_33⟩; have n1_ : Aside0 (IsS186 w w13 g381 t378 t387 t388) := ⟨z10_24⟩; have n2_ : Aside0 (Below w.heap.size w w13) := ⟨z10_25⟩; clear HO384 HI381 HB hq_; have HO384 := n0_; have HI381 := n1_; have HB := n2_; clear n0_ n1_ n2_))) | ((with_reducible refine qg0 (f := 61) rfl ?_); refine qt0 (some 14) rfl rfl Try.func61 z10_30 rfl #[.pointer (some ⟨g381, 0, none⟩), .int .i64 t389] rfl z10_4 ?_; (with_reducible refine (spec_l1Below.calls g381 t378 t387 t388 t389 t390 t391 t392 w _ ?side1 ?side2 A5.out).mono ?_); (case side1 => exact z10_0); (case side2 => exact z10_1); rintro e w14 ⟨rfl, hi, hb, hk⟩; refine ⟨_, rfl, ?_⟩; have n0_ := Aside0.mk (Kd.qm0 (Kd.qy0 (IsS186.apart (show IsS186 w _ g381 t378 t387 t388 from z10_0) z10_9 (by decide)) hk (fun _ h => h.2)) (fun _ h => h.1)); have n1_ := Aside0.mk (hb); have n2_ := Aside0.mk (hi); clear HO384; clear HB; clear HI381; have HO384 := n0_; have HB := n1_; have HI381 := n2_; clear n0_ n1_ n2_; (try clear hb); (try clear hb2); (try clear hk); (try clear hi); obtain ⟨Ao15, co15, eo15⟩ := Kd.qn1 HO384.out; subst eo15) | ((with_reducible refine qg0 (f := 122) rfl ?_); refine qt0 (some 15) rfl rfl Try.func122 z10_30 rfl #[.pointer (some ⟨g381, 0, none⟩), .agg #[.slice Ao15 t382.length co15, .int .i64 t385, .int .i64 t386], .int .i64 t390] rfl z10_4 ?_; (with_reducible refine (spec_l5DrawLedger.calls k g381 t378 t391 t392 _ _ t382 t385 t386 t390 t393 t396 t397 t398 w _ ?side1 ?side2 ?side3 ?side4 A6.out).mono ?_); (case side1 => exact z10_0); (case side2 => exact z10_1); (case side3 => exact Kd.C_foot_own (IsS186.apart (show IsS186 w _ g381 t378 t391 t392 from z10_0) z10_9 (by decide)) (fun _ h_ => h_.2)); (case side4 => exact (Kd.qn0 HO384.out).2.1); rintro e w16 ⟨v394, rfl, ho0, hi, hb, hk⟩; refine ⟨_, rfl, ?_⟩; have n0_ := Aside0.mk (Kd.qm0 (Kd.qy0 (IsS186.apart (show IsS186 w _ g381 t378 t391 t392 from z10_0) z10_9 (by decide)) hk (fun _ h => h.2)) (fun _ h => h.1)); have n1_ := Aside0.mk (Kd.S_lower ho0 (qv0 z10_1)); have n2_ := Aside0.mk (hb); have n3_ := Aside0.mk (hi); clear HO384; clear HB; clear HI381; have HO384 := n0_; have HO395 := n1_; have HB := n2_; have HI381 := n3_; clear n0_ n1_ n2_ n3_; (try clear hb); (try clear hb2); (try clear hk); (try clear hi); (try clear ho0); obtain ⟨Ao17, co17, eo17⟩ := Kd.S_slice HO395.out; subst eo17) | ((with_reducible refine qg0 (f := 121) rfl ?_); refine qt0 (some 16) rfl rfl Try.func121 z10_30 rfl #[.pointer (some ⟨g381, 0, none⟩), .agg #[.slice Ao17 t393.length co17, .int .i64 t396]] rfl z10_4 ?_; (refine (spec_l5SpoilLedger.calls k g381 t378 t397 t398 _ _ t393 t396 t399 t402 t403 t404 w _ ?side1 ?side2 (Kd.S_bound HO395.out) A7.out).mono ?_); (case side1 => exact z10_0); (case side2 => exact z10_1); rintro e w18 ⟨v400, rfl, ho0, hi, hb, hkp⟩; refine ⟨_, rfl, ?_⟩; have n0_ := Aside0.mk (kept_types (IsS186.apart (show IsS186 w _ g381 t378 t397 t398 from z10_0) z10_9 (by decide)) hkp (by decide)); have n1_ := Aside0.mk (Kd.S_nil k98 98 w18 w.heap.size (fun k_ => True ∧ some k_ ≠ (v400 : Value).ownBlock)); have n2_ := Aside0.mk (Kd.qq1 (ok' := fun k_ => True ∧ some k_ ≠ (.slice none 0 0 : Value).ownBlock) ho0 (fun k_ _ => ⟨trivial, by simp [Value.ownBlock]⟩)); have n3_ := Aside0.mk (hb); have n4_ := Aside0.mk (hi); clear HO384; clear HO395; clear HB; clear HI381; have HO384 := n0_; have HO395 := n1_; have HO401 := n2_; have HB := n3_; have HI381 := n4_; clear n0_ n1_ n2_ n3_ n4_; (try clear hb); (try clear hb2); (try clear hkp); (try clear hi); (try clear ho0)) | ((with_reducible refine qa1 (N := 4) rfl ?_); refine qe1 ?hg (N := 4) ?hd (cs := #[.slice none 0 0, .int .i64 0]) (t := 169) ?hr ?_; (case hd => rfl); (case hg => rfl); (case hr => exact z10_34); intro gb405 hg w19 hbox hb; have n0_ := Aside0.mk (Kd.qy1 z10_9 hb); have n1_ := Aside0.mk (Kd.S_below z10_15 hb); have n2_ := Aside0.mk (Kd.S_below z10_16 hb); have n3_ := Aside0.mk (IsS186.below z10_0 hb); have n4_ := Aside0.mk (ql0 z10_1 hb); have n5_ := Aside0.mk (hbox); have n6_ := Aside0.mk ((z10_13 : w.heap.size ≤ gb405)); have n7_ := Aside0.mk ((z10_13 : w.heap.size ≤ gb405)); have n8_ := Aside0.mk ((z10_17 : g381 ≠ gb405)); have n9_ := Aside0.mk ((z10_18 : gb405 ≠ g381)); clear HO384; clear HO395; clear HO401; clear HI381; clear HB; have HO384 := n0_; have HO395 := n1_; have HO401 := n2_; have HI381 := n3_; have HB := n4_; have BK405 := n5_; have GW405 := n6_; have GE405 := n7_; have NB381_405 := n8_; have NB405_381 := n9_; clear n0_ n1_ n2_ n3_ n4_ n5_ n6_ n7_ n8_ n9_; clear hb hbox hg; obtain ⟨Ao20, co20, eo20⟩ := Kd.S_slice HO401.out; subst eo20; have hnb21 := NB405_381.out; have hnc21 := NB381_405.out; have hcz22_0 : w19.cell? ⟨gb405, 0, none⟩ = some (.slice none 0 0) := (qb0 BK405.out 0).trans rfl; have hcz22_1 : w19.cell? ⟨gb405, 1, none⟩ = some (.int .i64 0) := (qb0 BK405.out 1).trans rfl; have hfz22_0 := qa0 BK405.out 0; have hfz22_1 := qa0 BK405.out 1) | ((with_reducible refine qg0 (f := 63) rfl ?_); refine qt0 (some 18) rfl rfl Try.func63 z10_30 rfl #[.pointer (some ⟨g381, 0, none⟩), .int .i64 30] rfl z10_4 ?_; (with_reducible refine (spec_l1Once.calls g381 t378 t403 t404 30 true t407 t408 w _ ?side1 ?side2 A8.out).mono ?_); (case side1 => exact z10_2); (case side2 => exact z10_7); rintro e w23 ⟨rfl, hi, hb, hk⟩; refine ⟨_, rfl, ?_⟩; have n0_ := Aside0.mk (Kd.qm0 (Kd.qy0 (IsS186.apart (show IsS186 w _ g381 t378 t403 t404 from z10_2) (by (with_reducible repeat (first | apply Kd.qr0 | apply Kd.qp0 | apply Kd.qu0)); exact (Kd.qm0 (Kd.R_far (p := ⟨gb405, 1, none⟩) (Kd.R_far (p := ⟨gb405, 0, none⟩) (Kd.qi1 HO384.out BK405.out (by decide)) (fun _ hk => hk.2) (.slice Ao20 t399.length co20)) (fun _ hk => hk.2) (.int .i64 t402)) (fun _ h_ => h_.1))) (by decide)) hk (fun _ h => h.2)) (fun _ h => h.1)); have n1_ := Aside0.mk (Kd.qq1 (Kd.S_keep (IsS186.apartS (show IsS186 w _ g381 t378 t403 t404 from z10_2) (by (with_reducible repeat (first | apply Kd.qa2 | apply Kd.qz1 | apply Kd.qd2)); exact (Kd.qq1 (Kd.S_far (p := ⟨gb405, 1, none⟩) (Kd.S_far (p := ⟨gb405, 0, none⟩) (Kd.S_types HO395.out BK405.out (by decide)) (fun _ hk => hk.2) (.slice Ao20 t399.length co20)) (fun _ hk => hk.2) (.int .i64 t402)) (fun _ h_ => h_.1))) (by decide)) hk (fun _ h => h.2)) (fun _ h => h.1)); have n2_ := Aside0.mk (Kd.qq1 (Kd.S_keep (IsS186.apartS (show IsS186 w _ g381 t378 t403 t404 from z10_2) (by (with_reducible repeat (first | apply Kd.qa2 | apply Kd.qz1 | apply Kd.qd2)); exact (Kd.qq1 (Kd.S_far (p := ⟨gb405, 1, none⟩) (Kd.S_far (p := ⟨gb405, 0, none⟩) (Kd.S_types HO401.out BK405.out (by decide)) (fun _ hk => hk.2) (.slice Ao20 t399.length co20)) (fun _ hk => hk.2) (.int .i64 t402)) (fun _ h_ => h_.1))) (by decide)) hk (fun _ h => h.2)) (fun _ h => h.1)); have n3_ := Aside0.mk (qc0.blk hk (g' := gb405) (o := .cells #[.slice Ao20 t399.length co20, .int .i64 t402] 169 (0, 0)) (by (with_reducible repeat (first | refine qe0 ?_ _ | refine qf0 ?_ | refine qd0 ?_ _)); refine qo0 (cs := #[.slice Ao20 t399.length co20, .int .i64 0]) ?_ 1 _ rfl; (with_reducible repeat (first | refine qe0 ?_ _ | refine qf0 ?_ | refine qd0 ?_ _)); refine qo0 (cs := #[.slice none 0 0, .int .i64 0]) ?_ 0 _ rfl; (with_reducible repeat (first | refine qe0 ?_ _ | refine qf0 ?_ | refine qd0 ?_ _)); exact BK405.out) NB405_381.out (by simp)); have n4_ := Aside0.mk (hb); have n5_ := Aside0.mk (hi); clear HO384; clear HO395; clear HO401; clear BK405; clear HB; clear HI381; have HO384 := n0_; have HO395 := n1_; have HO401 := n2_; have BK405 := n3_; have HB := n4_; have HI381 := n5_; clear n0_ n1_ n2_ n3_ n4_ n5_; (try clear hb); (try clear hb2); (try clear hk); (try clear hi)))
  have n0_ := Aside0.mk (Kd.qu0 HO384.out)
  have n1_ := Aside0.mk (Kd.qd2 HO395.out)
  have n2_ := Aside0.mk (Kd.qd2 HO401.out)
  have n3_ := Aside0.mk (qf0 BK405.out)
  have n4_ := Aside0.mk (IsS186.drew HI381.out)
  have n5_ := Aside0.mk (qi0 HB.out)
  clear HO384
  clear HO395
  clear HO401
  clear BK405
  clear HI381
  clear HB
  have HO384 := n0_
  have HO395 := n1_
  have HO401 := n2_
  have BK405 := n3_
  have HI381 := n4_
  have HB := n5_
  clear n0_ n1_ n2_ n3_ n4_ n5_
  refine start_ (n := 10) (S := fun w' => w'.cell? ⟨gb405, 0, none⟩ = some (.slice Ao20 t399.length co20) ∧ w'.cell? ⟨gb405, 1, none⟩ = some (.int .i64 t402)) (ds := [9]) #[false, false, false, false, false, false, false, false, false, false] z10_30 rfl rfl ⟨(qb0 BK405.out 0).trans rfl, (qb0 BK405.out 1).trans rfl⟩ (fun hHeld => ?_); refine with_tabW spec_DrawHeadOf.tab4 spec_DrawHeadOf.bits4 (fun HT_ HW_ => ?_)
  generalize w23.drew = w24 at HO384 HO395 HO401 BK405 HI381 HB hHeld ⊢
  refine pure_ (i := 0) (N := some 19) (v := ?_) (a' := ?_) #[true, false, false, false, false, false, false, false, false, false] rfl rfl (qs0 HT_.out z10_30) (fun _ _ _ h => h) (Or.inl ⟨by rfl, ?_⟩) ?_ ?_
  rotate_left
  ·intro w'
   go_simp
   with_reducible rfl
  rotate_left
  ·simp only [Act.put, List.setIfInBounds_toArray, List.set_cons_zero, List.set_cons_succ, i64_w, i32_w]
   rfl
  refine pure_ (i := 2) (N := some 21) (v := ?_) (a' := ?_) #[true, false, true, false, false, false, false, false, false, false] rfl rfl (qs0 HT_.out z10_30) (fun _ _ _ h => h) (Or.inl ⟨by rfl, ?_⟩) ?_ ?_
  rotate_left
  ·intro w'
   go_simp
   with_reducible rfl
  rotate_left
  ·simp only [Act.put, List.setIfInBounds_toArray, List.set_cons_zero, List.set_cons_succ, i64_w, i32_w]
   rfl
  refine take_ (i := 1) (N := some 20) (v := ?_) (a' := ?_) #[true, true, true, false, false, false, false, false, false, false] rfl rfl (ql1 HT_.out HW_.out z10_30) (fun _ _ _ h => h) (Or.inl ⟨by rfl, ?_⟩) hHeld ?_ ?_
  rotate_left
  ·rintro w' ⟨s0, s1⟩
   go_simp
   with_reducible rfl
  rotate_left
  ·simp only [Act.put, List.setIfInBounds_toArray, List.set_cons_zero, List.set_cons_succ, i64_w, i32_w]
   rfl
  refine one_ (i := 3) (N := some 22) #[true, true, true, true, false, false, false, false, false, false] rfl rfl (qt1 HT_.out z10_30) (by decide) (fun K hK => ?_)
  refine Kd.R_lit_step (Kd.int .i64) _ 3 ?hg (N := 22) ?hd (xs := ([549755813887, 549755813888, (-549755813888), (-549755813889)] : List Int)) (inner := [.int .i64 549755813887, .int .i64 549755813888, .int .i64 (-549755813888), .int .i64 (-549755813889)]) (ok := fun _ => True) (okp := fun _ => True) ?hr ?hp (fun _ hk => hk) trivial (Below.refl _ _) (Nat.le_refl _) (by simp) ?_; (case hd => rfl); (case hg => rfl); (case hr => exact z10_34); (case hp => exact (Reps.one (show Kd.M (Kd.int .i64) _ _ _ 549755813887 [.int .i64 549755813887] from rfl) (Reps.one (show Kd.M (Kd.int .i64) _ _ _ 549755813888 [.int .i64 549755813888] from rfl) (Reps.one (show Kd.M (Kd.int .i64) _ _ _ (-549755813888) [.int .i64 (-549755813888)] from rfl) (Reps.one (show Kd.M (Kd.int .i64) _ _ _ (-549755813889) [.int .i64 (-549755813889)] from rfl) (Reps.none _ _))))))
  intro v410 w25 ho26 hb hg_ hnew_
  clear hg_ hnew_
  (first | rw [← Ny409.out] at ho26 | (simp only [Int.reduceToNat] at ho26; rw [← Ny409.out] at ho26))
  have n0_ := Aside0.mk (Kd.qy1 z10_9 hb)
  have n1_ := Aside0.mk (Kd.S_below z10_15 hb)
  have n2_ := Aside0.mk (Kd.S_below z10_16 hb)
  have n3_ := Aside0.mk (Kd.qu1 ho26 (qv0 z10_7))
  have n4_ := Aside0.mk (IsS186.below z10_2 hb)
  have n5_ := Aside0.mk (qz0 (g := gb405) (o := .cells #[.slice Ao20 t399.length co20, .int .i64 t402] 169 (0, 0)) z10_26 hb)
  have n6_ := Aside0.mk (ql0 z10_7 hb)
  clear HO384
  clear HO395
  clear HO401
  clear HI381
  clear BK405
  clear HB
  have HO384 := n0_
  have HO395 := n1_
  have HO401 := n2_
  have HO411 := n3_
  have HI381 := n4_
  have BK405 := n5_
  have HB := n6_
  clear n0_ n1_ n2_ n3_ n4_ n5_ n6_
  clear hb ho26
  obtain ⟨Ao27, co27, eo27⟩ := Kd.qn1 HO411.out
  (first | subst eo27 | (injection eo27 with f1_ f2_ f3_; have f4_ := f1_.symm; have f5_ := f3_.symm; clear f1_ f2_ f3_; subst f4_; subst f5_))
  refine hK.out _ _ ⟨(qb0 BK405.out 0).trans rfl, (qb0 BK405.out 1).trans rfl⟩ (fun hHeld => ?_)
  clear hK K
  refine norm_ (a' := ?_) ?_ ?_
  rotate_left
  ·show Act.put _ (some 22) _ = _
   simp only [Act.put, List.setIfInBounds_toArray, List.set_cons_zero, List.set_cons_succ, i64_w, i32_w]
   rfl
  refine one_ (i := 4) (N := some 23) #[true, true, true, true, true, false, false, false, false, false] rfl rfl (qt1 HT_.out z10_30) (by decide) (fun K hK => ?_)
  refine goes_ Try.func64 z10_30 rfl #[.pointer (some ⟨g381, 0, none⟩), .slice Ao27 y409.length co27] (by rfl) rfl rfl z10_4 ?_
  with_reducible refine (spec_l1PickInt.calls g381 t378 t407 t408 _ _ y409 t412 t413 t414 w _ ?side1 ?side2 ?side3 ?side4 ?side5 A10.out).mono ?_
  (case side1 => exact z10_2)
  (case side2 => exact z10_7)
  (case side3 => repeat (first | exact (Kd.qn0 HO411.out).2.2 | (with_reducible refine Kd.qx1 ?_ _) | (with_reducible refine Kd.qw1 ?_ _) | (with_reducible refine Kd.qg2 ?_)))
  (case side4 => exact (Kd.qn0 HO411.out).2.1)
  (case side5 => exact far_slice (IsS186.own_ne HI381.out HO411.out (by decide)))
  rintro e w28 ⟨rfl, hi, hb, hk⟩
  refine ⟨_, rfl, ?_⟩
  have n0_ := Aside0.mk (Kd.qm0 (Kd.qy0 (IsS186.apart (show IsS186 w _ g381 t378 t407 t408 from z10_2) z10_9 (by decide)) hk (fun _ h => h.2)) (fun _ h => h.1))
  have n1_ := Aside0.mk (Kd.qq1 (Kd.S_keep (IsS186.apartS (show IsS186 w _ g381 t378 t407 t408 from z10_2) z10_15 (by decide)) hk (fun _ h => h.2)) (fun _ h => h.1))
  have n2_ := Aside0.mk (Kd.qq1 (Kd.S_keep (IsS186.apartS (show IsS186 w _ g381 t378 t407 t408 from z10_2) z10_16 (by decide)) hk (fun _ h => h.2)) (fun _ h => h.1))
  have n3_ := Aside0.mk (qc0.blk hk (g' := gb405) (o := .cells #[.slice Ao20 t399.length co20, .int .i64 t402] 169 (0, 0)) z10_26 NB405_381.out (by simp))
  have n4_ := Aside0.mk (Kd.qm0 (Kd.qy0 (IsS186.apart (show IsS186 w _ g381 t378 t407 t408 from z10_2) (by (with_reducible repeat (first | apply Kd.qr0 | apply Kd.qp0 | apply Kd.qu0)); exact HO411.out) (by decide)) hk (fun _ h => h.2)) (fun _ h => h.1))
  have n5_ := Aside0.mk (hb)
  have n6_ := Aside0.mk (hi)
  clear HO384
  clear HO395
  clear HO401
  clear BK405
  clear HO411
  clear HB
  clear HI381
  have HO384 := n0_
  have HO395 := n1_
  have HO401 := n2_
  have BK405 := n3_
  have HO411 := n4_
  have HB := n5_
  have HI381 := n6_
  clear n0_ n1_ n2_ n3_ n4_ n5_ n6_
  (try clear hb)
  (try clear hb2)
  (try clear hk)
  (try clear hi)
  refine hK.out _ _ ⟨(qb0 BK405.out 0).trans rfl, (qb0 BK405.out 1).trans rfl⟩ (fun hHeld => ?_)
  clear hK K
  refine norm_ (a' := ?_) ?_ ?_
  rotate_left
  ·show Act.put _ (some 23) _ = _
   simp only [Act.put, List.setIfInBounds_toArray, List.set_cons_zero, List.set_cons_succ, i64_w, i32_w]
   rfl
  refine pure_ (i := 5) (N := some 24) (v := ?_) (a' := ?_) #[true, true, true, true, true, true, false, false, false, false] rfl rfl (qs0 HT_.out z10_30) (fun _ _ _ h => h) (Or.inl ⟨by rfl, ?_⟩) ?_ ?_
  rotate_left
  ·intro w'
   go_simp
   with_reducible rfl
  rotate_left
  ·simp only [Act.put, List.setIfInBounds_toArray, List.set_cons_zero, List.set_cons_succ, i64_w, i32_w]
   rfl
  refine one_ (i := 6) (N := some 25) #[true, true, true, true, true, true, true, false, false, false] rfl rfl (qt1 HT_.out z10_30) (by decide) (fun K hK => ?_)
  refine value_ (w1 := ?_) (v := ?_) (by rfl) rfl ?_ ?_
  rotate_left 2
  ·go_simp
   constructor
   ·rfl
   ·rfl
  refine hK.out _ _ ⟨(qb0 (qd0 BK405.out _) 0).trans rfl, (qb0 (qd0 BK405.out _) 1).trans rfl⟩ (fun hHeld => ?_)
  clear hK K
  refine norm_ (a' := ?_) ?_ ?_
  rotate_left
  ·show Act.put _ (some 25) _ = _
   simp only [Act.put, List.setIfInBounds_toArray, List.set_cons_zero, List.set_cons_succ, i64_w, i32_w]
   rfl
  refine one_ (i := 7) (N := some 26) #[true, true, true, true, true, true, true, true, false, false] rfl rfl (qt1 HT_.out z10_30) (by decide) (fun K hK => ?_)
  refine Kd.S_append_step k98 (w0 := w) w.heap.size (by rfl) (.tmp 20) (.tmp 25) 93 98 (.agg #[(.int .i64 0), (.int .i64 0), (.string ⟨#[]⟩), (.slice none 0 0)]) 56 rfl Try.underlying93 info98 rfl (by decide) (by omega) (.slice Ao20 t399.length co20) t399 (⟨0, t412, (⟨#[]⟩ : ByteArray), ([] : List (S100))⟩ : S98) [.int .i64 0, .int .i64 t412, .string (⟨#[]⟩ : ByteArray), .slice none 0 0] (fun k_ => some k_ ≠ (.slice none 0 0 : Value).ownBlock) (fun _ => False) rfl rfl ?aP (fun k_ hk_ => hk_.elim) ?aF ?aO ?aB ?aS ?aL ?_
  (case aP => exact k98_mkM _ _ _ (⟨0, t412, (⟨#[]⟩ : ByteArray), ([] : List (S100))⟩ : S98) (Kd.R_nil _ _ _ _ _))
  (case aB => exact z10_7)
  (case aF => exact (fun k_ hk => Kd.fresh' (Kd.S_lt z10_15) k_ hk))
  (case aO => exact (by (with_reducible repeat (first | apply Kd.qa2 | apply Kd.qz1 | apply Kd.qd2)); exact Kd.qq1 HO401.out (fun k_ hk => ⟨hk.2, fun e_ => e_⟩)))
  (case aS => exact (qv0 z10_7))
  (case aL => have := LMc11.out; omega)
  intro v416 w29 ho hb hg hat
  rw [← Ny415.out] at ho
  have n0_ := Aside0.mk (IsS186.grown (show IsS186 w _ g381 t378 t413 t414 from z10_2) hg (IsS186.own_neS HI381.out HO401.out (by decide)))
  have n1_ := Aside0.mk (Kd.R_over' z10_9 (Kd.S_typed z10_16) (by decide) hg)
  have n2_ := Aside0.mk (Kd.S_after (ok := (fun _ => True)) z10_15 hg hat)
  have n3_ := Aside0.mk (qq0 (g := gb405) (o := .cells #[.slice Ao20 t399.length co20, .int .i64 t402] 169 (0, 0)) z10_26 hg (Kd.S_ne HO401.out BK405.out (by decide)))
  have n4_ := Aside0.mk (Kd.R_over' (by (with_reducible repeat (first | apply Kd.qr0 | apply Kd.qp0 | apply Kd.qu0)); exact HO411.out) (Kd.S_typed z10_16) (by decide) hg)
  have n5_ := Aside0.mk (hb)
  have n6_ := Aside0.mk (ho)
  clear HI381
  clear HO384
  clear HO395
  clear BK405
  clear HO411
  clear HB
  clear HO401
  have HI381 := n0_
  have HO384 := n1_
  have HO395 := n2_
  have BK405 := n3_
  have HO411 := n4_
  have HB := n5_
  have HO417 := n6_
  clear n0_ n1_ n2_ n3_ n4_ n5_ n6_
  clear ho hb hg hat
  obtain ⟨Ao30, co30, eo30⟩ := Kd.S_slice HO417.out
  (first | subst eo30 | (injection eo30 with f1_ f2_ f3_; have f4_ := f1_.symm; have f5_ := f3_.symm; clear f1_ f2_ f3_; subst f4_; subst f5_))
  refine hK.out _ _ ⟨(qb0 BK405.out 0).trans rfl, (qb0 BK405.out 1).trans rfl⟩ (fun hHeld => ?_)
  clear hK K
  refine norm_ (a' := ?_) ?_ ?_
  rotate_left
  ·show Act.put _ (some 26) _ = _
   simp only [Act.put, List.setIfInBounds_toArray, List.set_cons_zero, List.set_cons_succ, i64_w, i32_w]
   rfl
  refine pure_ (i := 8) (N := some 27) (v := ?_) (a' := ?_) #[true, true, true, true, true, true, true, true, true, false] rfl rfl (qs0 HT_.out z10_30) (fun _ _ _ h => h) (Or.inl ⟨by rfl, ?_⟩) ?_ ?_
  rotate_left
  ·intro w'
   go_simp
   with_reducible rfl
  rotate_left
  ·simp only [Act.put, List.setIfInBounds_toArray, List.set_cons_zero, List.set_cons_succ, i64_w, i32_w]
   rfl
  refine last_ (i := 9) (N := none) #[true, true, true, true, true, true, true, true, true, true] rfl rfl (qt1 HT_.out z10_30) (by decide) (fun K hK => ?_)
  have hs31 : w29.cell? ⟨gb405, 0, none⟩ = some (.slice Ao20 t399.length co20) := (qb0 BK405.out 0).trans rfl
  have hfs31 := qa0 BK405.out 0
  refine skip_ (w1 := ?_) (by rfl) rfl ?_ ?_
  rotate_left
  ·go_simp
   rfl
  refine hK.out _ _ ?_
  clear hK K
  refine done_ (done_of HT_.out z10_30) ?_
  have hcz32_0 : w29.cell? ⟨gb405, 0, none⟩ = some (.slice Ao20 t399.length co20) := (qb0 BK405.out 0).trans rfl
  have hcz32_1 : w29.cell? ⟨gb405, 1, none⟩ = some (.int .i64 t402) := (qb0 BK405.out 1).trans rfl
  have hfz32_0 := qa0 BK405.out 0
  have hfz32_1 := qa0 BK405.out 1
  try go_wp2
  go_ret
  exact ⟨_, z10_21, by (with_reducible repeat (first | apply Kd.qa2 | apply Kd.qz1 | apply Kd.qd2)); exact Kd.qq1 (Kd.S_far (p := ⟨gb405, 0, none⟩) (Kd.S_types HO417.out BK405.out (by decide)) (fun _ hk => hk.2) (.slice Ao30 y415.length co30)) (fun _ hk => trivial), z10_7⟩
 replace c9 := Bool.eq_false_iff.mpr c9
 subst c9
 have H1 : (some t399) = some r := by rw [if_neg (show ¬ (false = true) by decide)] at H; exact H
 clear H
 have H := H1
 clear H1
 obtain rfl := Option.some.inj H
 go_enter Try.func50, Try.ntmps50
 go_wp2_with (first | ((with_reducible refine qg0 (f := 59) rfl ?_); refine qt0 (some 6) rfl rfl Try.func59 z10_30 rfl #[.slice A0 l0.length c0] rfl z10_4 ?_; (with_reducible refine (spec_l1New.calls k _ _ l0 t378 t379 t380 w _ ?side1 ?side2 ?side3 A2.out).mono ?_); (case side1 => exact z10_32); (case side2 => exact HR0.out); (case side3 => exact HC0.out); rintro e w33 ⟨g381, rfl, hi, hb, hb2⟩; refine ⟨_, rfl, ?_⟩; have n0_ := Aside0.mk (hb); have n1_ := Aside0.mk (hi); clear HB; have HB := n0_; have HI381 := n1_; clear n0_ n1_; (try clear hb); (try clear hb2); (try clear hk); (try clear hi)) | ((with_reducible refine qg0 (f := 123) rfl ?_); refine qt0 (some 10) rfl rfl Try.func123 z10_30 rfl #[.pointer (some ⟨g381, 0, none⟩)] rfl z10_4 ?_; (with_reducible refine (spec_l5DrawFrame.calls k g381 t378 t379 t380 t382 t385 t386 t387 t388 w _ ?side1 ?side2 A3.out).mono ?_); (case side1 => exact z10_0); (case side2 => exact z10_1); rintro e w34 ⟨v383, rfl, ho0, hi, hb, hk⟩; refine ⟨_, rfl, ?_⟩; have n0_ := Aside0.mk (Kd.qu1 ho0 (qv0 z10_1)); have n1_ := Aside0.mk (hb); have n2_ := Aside0.mk (hi); clear HB; clear HI381; have HO384 := n0_; have HB := n1_; have HI381 := n2_; clear n0_ n1_ n2_; (try clear hb); (try clear hb2); (try clear hk); (try clear hi); (try clear ho0)) | ((with_reducible refine qg0 (f := 62) rfl ?_); refine qt0 (some 13) rfl rfl Try.func62 z10_30 rfl #[.slice A0 l0.length c0, .int .i64 8] rfl z10_4 ?_; (with_reducible refine (spec_l1Size.calls _ _ l0 8 t389 _ ?side1 ?side2 A4.out).mono ?_); (case side1 => exact z10_29); (case side2 => exact HC0.out); rintro e w' ⟨rfl, ⟨nd, rfl⟩⟩; refine ⟨_, rfl, ?_⟩; (try (rw [drewN_self w34]; generalize hq_ : World.drewN w34 _ = w34; have n0_ : Aside0 (Kd.R k209 209 w34 w.heap.size (fun _ => True) v383 t382) := ⟨z10_33⟩; have n1_ : Aside0 (IsS186 w w34 g381 t378 t387 t388) := ⟨z10_24⟩; have n2_ : Aside0 (Below w.heap.size w w34) := ⟨z10_25⟩; clear HO384 HI381 HB hq_; have HO384 := n0_; have HI381 := n1_; have HB := n2_; clear n0_ n1_ n2_))) | ((with_reducible refine qg0 (f := 61) rfl ?_); refine qt0 (some 14) rfl rfl Try.func61 z10_30 rfl #[.pointer (some ⟨g381, 0, none⟩), .int .i64 t389] rfl z10_4 ?_; (with_reducible refine (spec_l1Below.calls g381 t378 t387 t388 t389 t390 t391 t392 w _ ?side1 ?side2 A5.out).mono ?_); (case side1 => exact z10_0); (case side2 => exact z10_1); rintro e w35 ⟨rfl, hi, hb, hk⟩; refine ⟨_, rfl, ?_⟩; have n0_ := Aside0.mk (Kd.qm0 (Kd.qy0 (IsS186.apart (show IsS186 w _ g381 t378 t387 t388 from z10_0) z10_9 (by decide)) hk (fun _ h => h.2)) (fun _ h => h.1)); have n1_ := Aside0.mk (hb); have n2_ := Aside0.mk (hi); clear HO384; clear HB; clear HI381; have HO384 := n0_; have HB := n1_; have HI381 := n2_; clear n0_ n1_ n2_; (try clear hb); (try clear hb2); (try clear hk); (try clear hi); obtain ⟨Ao36, co36, eo36⟩ := Kd.qn1 HO384.out; subst eo36) | ((with_reducible refine qg0 (f := 122) rfl ?_); refine qt0 (some 15) rfl rfl Try.func122 z10_30 rfl #[.pointer (some ⟨g381, 0, none⟩), .agg #[.slice Ao36 t382.length co36, .int .i64 t385, .int .i64 t386], .int .i64 t390] rfl z10_4 ?_; (with_reducible refine (spec_l5DrawLedger.calls k g381 t378 t391 t392 _ _ t382 t385 t386 t390 t393 t396 t397 t398 w _ ?side1 ?side2 ?side3 ?side4 A6.out).mono ?_); (case side1 => exact z10_0); (case side2 => exact z10_1); (case side3 => exact Kd.C_foot_own (IsS186.apart (show IsS186 w _ g381 t378 t391 t392 from z10_0) z10_9 (by decide)) (fun _ h_ => h_.2)); (case side4 => exact (Kd.qn0 HO384.out).2.1); rintro e w37 ⟨v394, rfl, ho0, hi, hb, hk⟩; refine ⟨_, rfl, ?_⟩; have n0_ := Aside0.mk (Kd.qm0 (Kd.qy0 (IsS186.apart (show IsS186 w _ g381 t378 t391 t392 from z10_0) z10_9 (by decide)) hk (fun _ h => h.2)) (fun _ h => h.1)); have n1_ := Aside0.mk (Kd.S_lower ho0 (qv0 z10_1)); have n2_ := Aside0.mk (hb); have n3_ := Aside0.mk (hi); clear HO384; clear HB; clear HI381; have HO384 := n0_; have HO395 := n1_; have HB := n2_; have HI381 := n3_; clear n0_ n1_ n2_ n3_; (try clear hb); (try clear hb2); (try clear hk); (try clear hi); (try clear ho0); obtain ⟨Ao38, co38, eo38⟩ := Kd.S_slice HO395.out; subst eo38) | ((with_reducible refine qg0 (f := 121) rfl ?_); refine qt0 (some 16) rfl rfl Try.func121 z10_30 rfl #[.pointer (some ⟨g381, 0, none⟩), .agg #[.slice Ao38 t393.length co38, .int .i64 t396]] rfl z10_4 ?_; (refine (spec_l5SpoilLedger.calls k g381 t378 t397 t398 _ _ t393 t396 t399 t402 t403 t404 w _ ?side1 ?side2 (Kd.S_bound HO395.out) A7.out).mono ?_); (case side1 => exact z10_0); (case side2 => exact z10_1); rintro e w39 ⟨v400, rfl, ho0, hi, hb, hkp⟩; refine ⟨_, rfl, ?_⟩; have n0_ := Aside0.mk (kept_types (IsS186.apart (show IsS186 w _ g381 t378 t397 t398 from z10_0) z10_9 (by decide)) hkp (by decide)); have n1_ := Aside0.mk (Kd.S_nil k98 98 w39 w.heap.size (fun k_ => True ∧ some k_ ≠ (v400 : Value).ownBlock)); have n2_ := Aside0.mk (Kd.qq1 (ok' := fun k_ => True ∧ some k_ ≠ (.slice none 0 0 : Value).ownBlock) ho0 (fun k_ _ => ⟨trivial, by simp [Value.ownBlock]⟩)); have n3_ := Aside0.mk (hb); have n4_ := Aside0.mk (hi); clear HO384; clear HO395; clear HB; clear HI381; have HO384 := n0_; have HO395 := n1_; have HO401 := n2_; have HB := n3_; have HI381 := n4_; clear n0_ n1_ n2_ n3_ n4_; (try clear hb); (try clear hb2); (try clear hkp); (try clear hi); (try clear ho0)) | ((with_reducible refine qa1 (N := 4) rfl ?_); refine qe1 ?hg (N := 4) ?hd (cs := #[.slice none 0 0, .int .i64 0]) (t := 169) ?hr ?_; (case hd => rfl); (case hg => rfl); (case hr => exact z10_34); intro gb405 hg w40 hbox hb; have n0_ := Aside0.mk (Kd.qy1 z10_9 hb); have n1_ := Aside0.mk (Kd.S_below z10_15 hb); have n2_ := Aside0.mk (Kd.S_below z10_16 hb); have n3_ := Aside0.mk (IsS186.below z10_0 hb); have n4_ := Aside0.mk (ql0 z10_1 hb); have n5_ := Aside0.mk (hbox); have n6_ := Aside0.mk ((z10_13 : w.heap.size ≤ gb405)); have n7_ := Aside0.mk ((z10_13 : w.heap.size ≤ gb405)); have n8_ := Aside0.mk ((z10_17 : g381 ≠ gb405)); have n9_ := Aside0.mk ((z10_18 : gb405 ≠ g381)); clear HO384; clear HO395; clear HO401; clear HI381; clear HB; have HO384 := n0_; have HO395 := n1_; have HO401 := n2_; have HI381 := n3_; have HB := n4_; have BK405 := n5_; have GW405 := n6_; have GE405 := n7_; have NB381_405 := n8_; have NB405_381 := n9_; clear n0_ n1_ n2_ n3_ n4_ n5_ n6_ n7_ n8_ n9_; clear hb hbox hg; obtain ⟨Ao41, co41, eo41⟩ := Kd.S_slice HO401.out; subst eo41; have hnb42 := NB405_381.out; have hnc42 := NB381_405.out; have hcz43_0 : w40.cell? ⟨gb405, 0, none⟩ = some (.slice none 0 0) := (qb0 BK405.out 0).trans rfl; have hcz43_1 : w40.cell? ⟨gb405, 1, none⟩ = some (.int .i64 0) := (qb0 BK405.out 1).trans rfl; have hfz43_0 := qa0 BK405.out 0; have hfz43_1 := qa0 BK405.out 1) | ((with_reducible refine qg0 (f := 63) rfl ?_); refine qt0 (some 18) rfl rfl Try.func63 z10_30 rfl #[.pointer (some ⟨g381, 0, none⟩), .int .i64 30] rfl z10_4 ?_; (with_reducible refine (spec_l1Once.calls g381 t378 t403 t404 30 false t407 t408 w _ ?side1 ?side2 A8.out).mono ?_); (case side1 => exact z10_2); (case side2 => exact z10_7); rintro e w44 ⟨rfl, hi, hb, hk⟩; refine ⟨_, rfl, ?_⟩; have n0_ := Aside0.mk (Kd.qm0 (Kd.qy0 (IsS186.apart (show IsS186 w _ g381 t378 t403 t404 from z10_2) (by (with_reducible repeat (first | apply Kd.qr0 | apply Kd.qp0 | apply Kd.qu0)); exact (Kd.qm0 (Kd.R_far (p := ⟨gb405, 1, none⟩) (Kd.R_far (p := ⟨gb405, 0, none⟩) (Kd.qi1 HO384.out BK405.out (by decide)) (fun _ hk => hk.2) (.slice Ao41 t399.length co41)) (fun _ hk => hk.2) (.int .i64 t402)) (fun _ h_ => h_.1))) (by decide)) hk (fun _ h => h.2)) (fun _ h => h.1)); have n1_ := Aside0.mk (Kd.qq1 (Kd.S_keep (IsS186.apartS (show IsS186 w _ g381 t378 t403 t404 from z10_2) (by (with_reducible repeat (first | apply Kd.qa2 | apply Kd.qz1 | apply Kd.qd2)); exact (Kd.qq1 (Kd.S_far (p := ⟨gb405, 1, none⟩) (Kd.S_far (p := ⟨gb405, 0, none⟩) (Kd.S_types HO395.out BK405.out (by decide)) (fun _ hk => hk.2) (.slice Ao41 t399.length co41)) (fun _ hk => hk.2) (.int .i64 t402)) (fun _ h_ => h_.1))) (by decide)) hk (fun _ h => h.2)) (fun _ h => h.1)); have n2_ := Aside0.mk (Kd.qq1 (Kd.S_keep (IsS186.apartS (show IsS186 w _ g381 t378 t403 t404 from z10_2) (by (with_reducible repeat (first | apply Kd.qa2 | apply Kd.qz1 | apply Kd.qd2)); exact (Kd.qq1 (Kd.S_far (p := ⟨gb405, 1, none⟩) (Kd.S_far (p := ⟨gb405, 0, none⟩) (Kd.S_types HO401.out BK405.out (by decide)) (fun _ hk => hk.2) (.slice Ao41 t399.length co41)) (fun _ hk => hk.2) (.int .i64 t402)) (fun _ h_ => h_.1))) (by decide)) hk (fun _ h => h.2)) (fun _ h => h.1)); have n3_ := Aside0.mk (qc0.blk hk (g' := gb405) (o := .cells #[.slice Ao41 t399.length co41, .int .i64 t402] 169 (0, 0)) (by (with_reducible repeat (first | refine qe0 ?_ _ | refine qf0 ?_ | refine qd0 ?_ _)); refine qo0 (cs := #[.slice Ao41 t399.length co41, .int .i64 0]) ?_ 1 _ rfl; (with_reducible repeat (first | refine qe0 ?_ _ | refine qf0 ?_ | refine qd0 ?_ _)); refine qo0 (cs := #[.slice none 0 0, .int .i64 0]) ?_ 0 _ rfl; (with_reducible repeat (first | refine qe0 ?_ _ | refine qf0 ?_ | refine qd0 ?_ _)); exact BK405.out) NB405_381.out (by simp)); have n4_ := Aside0.mk (hb); have n5_ := Aside0.mk (hi); clear HO384; clear HO395; clear HO401; clear BK405; clear HB; clear HI381; have HO384 := n0_; have HO395 := n1_; have HO401 := n2_; have BK405 := n3_; have HB := n4_; have HI381 := n5_; clear n0_ n1_ n2_ n3_ n4_ n5_; (try clear hb); (try clear hb2); (try clear hk); (try clear hi); have hcz45_0 : w44.cell? ⟨gb405, 0, none⟩ = some (.slice Ao41 t399.length co41) := (qb0 BK405.out 0).trans rfl; have hcz45_1 : w44.cell? ⟨gb405, 1, none⟩ = some (.int .i64 t402) := (qb0 BK405.out 1).trans rfl; have hfz45_0 := qa0 BK405.out 0; have hfz45_1 := qa0 BK405.out 1))
 go_ret
 exact ⟨_, z10_21, by (with_reducible repeat (first | apply Kd.qa2 | apply Kd.qz1 | apply Kd.qd2)); exact Kd.qq1 HO401.out (fun _ hk => trivial), z10_7⟩

/-! ### impl_between: function 100 -/
def impl_between.f (a0 : Int) (a1 : Int) (a2 : Int) : Option (Bool) := if a0 ≥ a1 then (some (decide (a0 ≤ a2))) else (some false)
set_option maxHeartbeats 8000000 in
set_option maxRecDepth 100000 in
theorem impl_between.calls (a0 : Int) (a1 : Int) (a2 : Int) (r : Bool) (w : World) (h : impl_between.f a0 a1 a2 = some r) :
  Calls Try.prog 100 #[.int .i64 a0, .int .i64 a1, .int .i64 a2] w fun e w' => e = .returned (.bool r) ∧ Drawn0 w w' := by
 have H : (if a0 ≥ a1 then (some (decide (a0 ≤ a2))) else (some false)) = some r := h
 clear h
 by_cases c4 : a0 ≥ a1
 ·rw [if_pos c4] at H
  have c4b0 : decide (a1 ≤ a0) = true := decide_eq_true c4
  clear c4
  obtain rfl := Option.some.inj H
  go_enter Try.func100, Try.ntmps100
  go_wp2
  go_ret
  exact ⟨z10_31, by repeat (first | exact Drawn0.refl _ | apply Drawn0.step)⟩
 rw [if_neg c4] at H
 have c4b0 : decide (a1 ≤ a0) = false := decide_eq_false c4
 clear c4
 obtain rfl := Option.some.inj H
 go_enter Try.func100, Try.ntmps100
 go_wp2
 go_ret
 exact ⟨z10_31, by repeat (first | exact Drawn0.refl _ | apply Drawn0.step)⟩

/-- A state of type 178 at block g of W; what its slices lead to came in by w0. -/
def IsS178 (w0 W : World) (g : Nat) (f0 : Int) (f1 : Bool) : Prop := W.heap[g]? = some (.cells #[.int .i64 f0, .bool f1] 178 (0, 0)) ∧ w0.heap.size ≤ g
theorem IsS178.grown {w0 W : World} {g : Nat} {f0 : Int} {f1 : Bool} {W1 : World} {row : Option Nat} (h : IsS178 w0 W g f0 f1) (hw : W.grownBy W1 row) (hne : some g ≠ row) : IsS178 w0 W1 g f0 f1 := by
 obtain ⟨hb, hg⟩ := h
 exact ⟨qq0 hb hw hne, hg⟩
theorem IsS178.own_neN {w0 W : World} {g : Nat} {f0 : Int} {f1 : Bool} {α : Type} {d : Kd α} {e : Nat} {base : Nat} {ok : Nat → Prop} {v : Value} {xs : List α} (h : IsS178 w0 W g f0 f1) (ho : Kd.N d e W base ok v xs) (ht : e ≠ 178) : some g ≠ v.ownBlock := by
 obtain ⟨hb, hg⟩ := h
 exact Kd.N_ne ho hb ht
theorem IsS178.fresh {w0 W : World} {g : Nat} {f0 : Int} {f1 : Bool} (h : IsS178 w0 W g f0 f1) : ∀ k, W.heap.size ≤ k → k ≠ g := by
 obtain ⟨hb, hg⟩ := h
 exact Kd.freshB hb
theorem IsS178.kept {w0 W : World} {g : Nat} {f0 : Int} {f1 : Bool} {W1 : World} {S : Nat → Prop} (h : IsS178 w0 W g f0 f1) (hk : Kept W W1 S) (hne : ¬ S g) : IsS178 w0 W1 g f0 f1 := by
 obtain ⟨hb, hg⟩ := h
 exact ⟨blk_kept hb hk hne, hg⟩
theorem IsS178.below {w0 W : World} {g : Nat} {f0 : Int} {f1 : Bool} {W1 : World} (h : IsS178 w0 W g f0 f1) (hw : Below W.heap.size W W1) : IsS178 w0 W1 g f0 f1 := h.grown (grown_of_below hw none) (by simp)
theorem IsS178.alloc {w0 W : World} {g : Nat} {f0 : Int} {f1 : Bool} (h : IsS178 w0 W g f0 f1) (o : Obj) : IsS178 w0 (W.alloc o) g f0 f1 := h.below (qj0 (Below.refl _ _) o)
theorem IsS178.drewN {w0 W : World} {g : Nat} {f0 : Int} {f1 : Bool} (h : IsS178 w0 W g f0 f1) (m : Nat) : IsS178 w0 (W.drewN m) g f0 f1 := h
theorem IsS178.drew {w0 W : World} {g : Nat} {f0 : Int} {f1 : Bool} (h : IsS178 w0 W g f0 f1) : IsS178 w0 W.drew g f0 f1 := h
theorem IsS178.at_ {w0 W : World} {g : Nat} {f0 : Int} {f1 : Bool} {w' : World} {m : Nat} (hq : W.drewN m = w') (h : IsS178 w0 W g f0 f1) : IsS178 w0 w' g f0 f1 := by subst hq; exact IsS178.drewN h m
theorem IsS178.apart {w0 W : World} {g : Nat} {f0 : Int} {f1 : Bool} {α : Type} {d : Kd α} {e : Nat} {base : Nat} {ok : Nat → Prop} {v : Value} {xs : List α} (h : IsS178 w0 W g f0 f1) (ho : d.R e W base ok v xs) (ht : ∀ q, q ∈ e :: d.E → q ≠ 178) : d.R e W base (fun k => ok k ∧ k ≠ g) v xs := by
 obtain ⟨hb, hg⟩ := h
 exact Kd.qi1 ho hb ht
theorem IsS178.own_ne {w0 W : World} {g : Nat} {f0 : Int} {f1 : Bool} {α : Type} {d : Kd α} {e : Nat} {base : Nat} {ok : Nat → Prop} {v : Value} {xs : List α} (h : IsS178 w0 W g f0 f1) (ho : d.R e W base ok v xs) (ht : e ≠ 178) : some g ≠ v.ownBlock := by
 obtain ⟨hb, hg⟩ := h
 exact Kd.R_ne ho hb ht
theorem IsS178.apartQ {w0 W : World} {g : Nat} {f0 : Int} {f1 : Bool} {α : Type} {d : Kd α} {e : Nat} {base : Nat} {ok : Nat → Prop} {v : Value} {xs : List α} (h : IsS178 w0 W g f0 f1) (ho : d.Q e W base ok v xs) (ht : ∀ q, q ∈ e :: d.E → q ≠ 178) : d.Q e W base (fun k => ok k ∧ k ≠ g) v xs := by
 obtain ⟨hb, hg⟩ := h
 exact Kd.Q_types ho hb ht
theorem IsS178.own_neQ {w0 W : World} {g : Nat} {f0 : Int} {f1 : Bool} {α : Type} {d : Kd α} {e : Nat} {base : Nat} {ok : Nat → Prop} {v : Value} {xs : List α} (h : IsS178 w0 W g f0 f1) (ho : d.Q e W base ok v xs) (ht : e ≠ 178) : some g ≠ v.ownBlock := by
 obtain ⟨hb, hg⟩ := h
 exact Kd.Q_ne ho hb ht
theorem IsS178.apartS {w0 W : World} {g : Nat} {f0 : Int} {f1 : Bool} {α : Type} {d : Kd α} {e : Nat} {base : Nat} {ok : Nat → Prop} {v : Value} {xs : List α} (h : IsS178 w0 W g f0 f1) (ho : d.S e W base ok v xs) (ht : ∀ q, q ∈ e :: d.E → q ≠ 178) : d.S e W base (fun k => ok k ∧ k ≠ g) v xs := by
 obtain ⟨hb, hg⟩ := h
 exact Kd.S_types ho hb ht
theorem IsS178.own_neS {w0 W : World} {g : Nat} {f0 : Int} {f1 : Bool} {α : Type} {d : Kd α} {e : Nat} {base : Nat} {ok : Nat → Prop} {v : Value} {xs : List α} (h : IsS178 w0 W g f0 f1) (ho : d.S e W base ok v xs) (ht : e ≠ 178) : some g ≠ v.ownBlock := by
 obtain ⟨hb, hg⟩ := h
 exact Kd.S_ne ho hb ht
theorem IsS178.lt {w0 W : World} {g : Nat} {f0 : Int} {f1 : Bool} (h : IsS178 w0 W g f0 f1) : g < W.heap.size := by
 obtain ⟨hb, hg⟩ := h
 exact blk_lt hb
theorem IsS178.ge {w0 W : World} {g : Nat} {f0 : Int} {f1 : Bool} (h : IsS178 w0 W g f0 f1) : w0.heap.size ≤ g := by
 obtain ⟨hb, hg⟩ := h
 exact hg
theorem IsS178.ne_blk {w0 W : World} {g : Nat} {f0 : Int} {f1 : Bool} {a : Nat} {cs : Array Value} {t : TypeId} {fr : Nat × Nat} (h : IsS178 w0 W g f0 f1) (hb2 : W.heap[a]? = some (.cells cs t fr)) (ht : t ≠ 178) : g ≠ a := by
 obtain ⟨hb, hg⟩ := h
 rintro rfl
 rw [hb] at hb2
 injection hb2 with hb2
 injection hb2 with _ ht2
 exact ht ht2.symm
theorem IsS178.far {w0 W : World} {g : Nat} {f0 : Int} {f1 : Bool} {p : Addr} (h : IsS178 w0 W g f0 f1) (hne : g ≠ p.block) (u : Value) : IsS178 w0 (W.setCell p u) g f0 f1 := by
 obtain ⟨hb, hg⟩ := h
 exact ⟨blk_far hb hne u, hg⟩
theorem cellS178_0 {W : World} {g : Nat} {f0 : Int} {f1 : Bool} (h : W.heap[g]? = some (.cells #[.int .i64 f0, .bool f1] 178 (0, 0))) : W.cell? ⟨g, 0, none⟩ = some (.int .i64 f0) := (qb0 h 0).trans rfl
theorem IsS178.set_0 {w0 W : World} {g : Nat} {f0 : Int} {f1 : Bool} (h : IsS178 w0 W g f0 f1) (x : Int) : IsS178 w0 (W.setCell ⟨g, 0, none⟩ (.int .i64 x)) g x f1 := by
 obtain ⟨hb, hg⟩ := h
 exact ⟨by simpa using blk_set hb 0 (.int .i64 x), hg⟩
theorem cellS178_1 {W : World} {g : Nat} {f0 : Int} {f1 : Bool} (h : W.heap[g]? = some (.cells #[.int .i64 f0, .bool f1] 178 (0, 0))) : W.cell? ⟨g, 1, none⟩ = some (.bool f1) := (qb0 h 1).trans rfl
theorem IsS178.set_1 {w0 W : World} {g : Nat} {f0 : Int} {f1 : Bool} (h : IsS178 w0 W g f0 f1) (x : Bool) : IsS178 w0 (W.setCell ⟨g, 1, none⟩ (.bool x)) g f0 x := by
 obtain ⟨hb, hg⟩ := h
 exact ⟨by simpa using blk_set hb 1 (.bool x), hg⟩
theorem IsS178.new (w0 W : World) (f0 : Int) (f1 : Bool) (hB : Below w0.heap.size w0 W) : IsS178 w0 (W.alloc (.cells #[.int .i64 f0, .bool f1] 178)) W.heap.size f0 f1 := ⟨by simpa using heap_alloc_new W _, hB.size⟩

/-! ### impl_chain_link: function 124 -/
def impl_chain_link.f (s0_0 : Int) (s0_1 : Bool) (a1 : Int) : Option (Int × Bool) := (impl_between.f a1 (-549755813888) 549755813887).bind fun t418 => (if t418 = true then (some (Int.tmod (wrap64 ((wrap64 ((wrap64 (s0_0 * 1000003)) + a1)) + 549755813888)) 1099511627791, s0_1)) else (some (s0_0, true)))
set_option maxHeartbeats 8000000 in
set_option maxRecDepth 100000 in
theorem impl_chain_link.calls (g : Nat) (s0_0 : Int) (s0_1 : Bool) (a1 : Int) (r1 : Int) (r2 : Bool) (w0 w : World) (hI : IsS178 w0 w g s0_0 s0_1) (hB : Below w0.heap.size w0 w) (h : impl_chain_link.f s0_0 s0_1 a1 = some (r1, r2)) :
  Calls Try.prog 124 #[.pointer (some ⟨g, 0, none⟩), .int .i64 a1] w fun e w' => e = .returned (.tuple #[]) ∧ IsS178 w0 w' g r1 r2 ∧ Below w0.heap.size w0 w' ∧ qc0 w w' g none := by
 have HI0 := Aside0.mk hI
 have HK := Aside0.mk (qc0.refl w g none)
 have HL := Aside0.mk hB.size
 clear hI
 have HW0 := Aside0.mk hB.size
 have HB := Aside0.mk hB
 clear hB
 have H : ((impl_between.f a1 (-549755813888) 549755813887).bind fun t418 => (if t418 = true then (some (Int.tmod (wrap64 ((wrap64 ((wrap64 (s0_0 * 1000003)) + a1)) + 549755813888)) 1099511627791, s0_1)) else (some (s0_0, true)))) = some (r1, r2) := h
 clear h
 replace H := Option.bind_eq_some_iff.mp H
 obtain ⟨t418, A30, H⟩ := H
 replace H : (if t418 = true then (some (Int.tmod (wrap64 ((wrap64 ((wrap64 (s0_0 * 1000003)) + a1)) + 549755813888)) 1099511627791, s0_1)) else (some (s0_0, true))) = some (r1, r2) := H
 have A3 := Aside0.mk A30
 clear A30
 by_cases c4 : t418 = true
 ·subst c4
  have H1 : (some (Int.tmod (wrap64 ((wrap64 ((wrap64 (s0_0 * 1000003)) + a1)) + 549755813888)) 1099511627791, s0_1)) = some (r1, r2) := by rw [if_pos rfl] at H; exact H
  clear H
  have H := H1
  clear H1
  simp only [Option.some.injEq, Prod.mk.injEq] at H
  obtain ⟨rfl, rfl⟩ := H
  go_enter Try.func124, Try.ntmps124
  go_wp2_with (first | ((with_reducible refine qg0 (f := 100) rfl ?_); refine qt0 (some 5) rfl rfl Try.func100 z10_30 rfl #[.int .i64 a1, .int .i64 (-549755813888), .int .i64 549755813887] rfl z10_4 ?_; (with_reducible refine (impl_between.calls a1 (-549755813888) 549755813887 true _ A3.out).mono ?_); rintro e w' ⟨rfl, ⟨nd, rfl⟩⟩; refine ⟨_, rfl, ?_⟩; obtain ⟨HGz5, hgz5⟩ := HI0.out; have hcz5_0 := cellS178_0 HGz5; have hcz5_1 := cellS178_1 HGz5; have hfz5_0 := qa0 HGz5 0; have hfz5_1 := qa0 HGz5 1; clear HGz5 hgz5))
  first | go_end0 | ((try simp only [Exit.inBlock, Exit.then]); refine bodyPost_ret (results_none rfl _ _ _) rfl ?_)
  exact ⟨z10_21, z10_27, z10_28, z10_14⟩
 replace c4 := Bool.eq_false_iff.mpr c4
 subst c4
 have H1 : (some (s0_0, true)) = some (r1, r2) := by rw [if_neg (show ¬ (false = true) by decide)] at H; exact H
 clear H
 have H := H1
 clear H1
 simp only [Option.some.injEq, Prod.mk.injEq] at H
 obtain ⟨rfl, rfl⟩ := H
 go_enter Try.func124, Try.ntmps124
 go_wp2_with (first | ((with_reducible refine qg0 (f := 100) rfl ?_); refine qt0 (some 5) rfl rfl Try.func100 z10_30 rfl #[.int .i64 a1, .int .i64 (-549755813888), .int .i64 549755813887] rfl z10_4 ?_; (with_reducible refine (impl_between.calls a1 (-549755813888) 549755813887 false _ A3.out).mono ?_); rintro e w' ⟨rfl, ⟨nd, rfl⟩⟩; refine ⟨_, rfl, ?_⟩; obtain ⟨HGz6, hgz6⟩ := HI0.out; have hcz6_0 := cellS178_0 HGz6; have hcz6_1 := cellS178_1 HGz6; have hfz6_0 := qa0 HGz6 0; have hfz6_1 := qa0 HGz6 1; clear HGz6 hgz6))
 first | go_end0 | ((try simp only [Exit.inBlock, Exit.then]); refine bodyPost_ret (results_none rfl _ _ _) rfl ?_)
 exact ⟨z10_21, z10_27, z10_28, z10_14⟩

-- NOT PRINTED: function 147 (impl_matching_of)

-- NOT PRINTED: function 148 (impl_matching_same_1)

-- NOT PRINTED: function 149 (impl_matching_pair)

-- NOT PRINTED: function 113 (impl_matching_same)

-- NOT PRINTED: function 150 (impl_matching_alone_1)

-- NOT PRINTED: function 114 (impl_matching_alone)

-- NOT PRINTED: function 151 (impl_matching_together_1)

-- NOT PRINTED: function 115 (impl_matching_together)

-- NOT PRINTED: function 152 (impl_matching_partly_1)

-- NOT PRINTED: function 116 (impl_matching_partly)

/-! ### impl_numbersOf: function 125 -/
mutual
def impl_numbersOf.l0 : Nat → Int → Int → Bool → Int → Int → ByteArray → List (S100) → Option (Int × Bool)
 | 0, _, _, _, _, _, _, _ => none
 | k + 1, x4, x2000, x2001, x420000, x420001, x420002, x420003 => if x4 < (x420002.size : Int) then (if 0 ≤ x4 then ((impl_chain_link.f x2000 x2001 (wrap64 (bt x420002 x4))).bind fun bt426 => (impl_numbersOf.l0 k (wrap64 (x4 + 1)) bt426.1 bt426.2 x420000 x420001 x420002 x420003)) else (none)) else ((impl_chain_link.f x2000 x2001 (x420003.length : Int)).bind fun bt428 => (impl_numbersOf.l1 k x420003 (x420003.length : Int) 0 bt428.1 bt428.2))
def impl_numbersOf.l1 : Nat → List (S100) → Int → Int → Int → Bool → Option (Int × Bool)
 | 0, _, _, _, _, _ => none
 | k + 1, x40, x41, x42, x2000, x2001 => if x42 < x41 then (if 0 ≤ x42 then (if x42 < (x40.length : Int) then ((impl_chain_link.f x2000 x2001 ((rd_T100 x40 x42).f0)).bind fun bt432 => ((impl_chain_link.f bt432.1 bt432.2 ((rd_T100 x40 x42).f1)).bind fun bt434 => ((impl_chain_link.f bt434.1 bt434.2 ((rd_T100 x40 x42).f2)).bind fun bt436 => ((impl_chain_link.f bt436.1 bt436.2 ((rd_T100 x40 x42).f3)).bind fun bt438 => ((impl_chain_link.f bt438.1 bt438.2 ((rd_T100 x40 x42).f4)).bind fun bt440 => (impl_numbersOf.l1 k x40 x41 (wrap64 (x42 + 1)) bt440.1 bt440.2)))))) else (none)) else (none)) else (some (x2000, x2001))
end
def impl_numbersOf.f (k : Nat) (a0_0 : Int) (a0_1 : Int) (a0_2 : ByteArray) (l0_3 : List (S100)) (s1_0 : Int) (s1_1 : Bool) : Option (Int × Bool) := (impl_chain_link.f s1_0 s1_1 a0_0).bind fun bt420 => ((impl_chain_link.f bt420.1 bt420.2 a0_1).bind fun bt422 => ((impl_chain_link.f bt422.1 bt422.2 (a0_2.size : Int)).bind fun bt424 => (impl_numbersOf.l0 k 0 bt424.1 bt424.2 a0_0 a0_1 a0_2 l0_3)))
theorem impl_numbersOf.mono_l : ∀ k, (∀ y0 y1 y2 y3 y4 y5 y6, LeO (impl_numbersOf.l0 k y0 y1 y2 y3 y4 y5 y6) (impl_numbersOf.l0 (k + 1) y0 y1 y2 y3 y4 y5 y6)) ∧ (∀ y0 y1 y2 y3 y4, LeO (impl_numbersOf.l1 k y0 y1 y2 y3 y4) (impl_numbersOf.l1 (k + 1) y0 y1 y2 y3 y4))
 | 0 => ⟨fun _ _ _ _ _ _ _ r h => by simp [impl_numbersOf.l0] at h, fun _ _ _ _ _ r h => by simp [impl_numbersOf.l1] at h⟩
 | k + 1 => by
  obtain ⟨ih0, ih1⟩ := impl_numbersOf.mono_l k
  refine ⟨?_, ?_⟩
  ·intro y0 y1 y2 y3 y4 y5 y6
   unfold impl_numbersOf.l0
   repeat' first
   | (with_reducible exact ih0 _ _ _ _ _ _ _)
   | (with_reducible exact ih1 _ _ _ _ _)
   | (with_reducible exact LeO.refl _)
   | (with_reducible exact LeO.none _)
   | (with_reducible refine LeO.ite ?_ ?_)
   | (with_reducible refine LeO.bind ?_ (fun _ => ?_))
   | exact ih0 _ _ _ _ _ _ _
   | exact ih1 _ _ _ _ _
   | exact LeO.none _
   | refine LeO.ite ?_ ?_
   | refine LeO.bind ?_ (fun _ => ?_)
  ·intro y0 y1 y2 y3 y4
   unfold impl_numbersOf.l1
   repeat' first
   | (with_reducible exact ih0 _ _ _ _ _ _ _)
   | (with_reducible exact ih1 _ _ _ _ _)
   | (with_reducible exact LeO.refl _)
   | (with_reducible exact LeO.none _)
   | (with_reducible refine LeO.ite ?_ ?_)
   | (with_reducible refine LeO.bind ?_ (fun _ => ?_))
   | exact ih0 _ _ _ _ _ _ _
   | exact ih1 _ _ _ _ _
   | exact LeO.none _
   | refine LeO.ite ?_ ?_
   | refine LeO.bind ?_ (fun _ => ?_)
theorem impl_numbersOf.mono : ∀ a0 a1 a2 a3 a4 a5 k, LeO (impl_numbersOf.f k a0 a1 a2 a3 a4 a5) (impl_numbersOf.f (k + 1) a0 a1 a2 a3 a4 a5) := by
 intro a0 a1 a2 a3 a4 a5 k
 obtain ⟨ih0, ih1⟩ := impl_numbersOf.mono_l k
 unfold impl_numbersOf.f
 repeat' first
   | (with_reducible exact ih0 _ _ _ _ _ _ _)
   | (with_reducible exact ih1 _ _ _ _ _)
   | (with_reducible exact LeO.refl _)
   | (with_reducible exact LeO.none _)
   | (with_reducible refine LeO.ite ?_ ?_)
   | (with_reducible refine LeO.bind ?_ (fun _ => ?_))
   | exact ih0 _ _ _ _ _ _ _
   | exact ih1 _ _ _ _ _
   | exact LeO.none _
   | refine LeO.ite ?_ ?_
   | refine LeO.bind ?_ (fun _ => ?_)
set_option maxHeartbeats 8000000 in
set_option maxRecDepth 100000 in
theorem impl_numbersOf.calls (k : Nat) (a0_0 : Int) (a0_1 : Int) (a0_2 : ByteArray) (A0_3 : Option Addr) (c0_3 : Nat) (l0_3 : List (S100)) (g : Nat) (s1_0 : Int) (s1_1 : Bool) (r1 : Int) (r2 : Bool) (w0 w : World) (hI : IsS178 w0 w g s1_0 s1_1) (hB : Below w0.heap.size w0 w) (hr0_3 : ∀ W_, qc0 w W_ g none → Kd.C k100 W_ A0_3 l0_3.length l0_3) (hc0_3 : l0_3.length ≤ c0_3) (h : impl_numbersOf.f k a0_0 a0_1 a0_2 l0_3 s1_0 s1_1 = some (r1, r2)) :
  Calls Try.prog 125 #[.agg #[.int .i64 a0_0, .int .i64 a0_1, .string a0_2, .slice A0_3 l0_3.length c0_3], .func (.func 124) #[.pointer (some ⟨g, 0, none⟩)] #[]] w fun e w' => e = .returned (.tuple #[]) ∧ IsS178 w0 w' g r1 r2 ∧ Below w0.heap.size w0 w' ∧ qc0 w w' g none := by
 have hu98 := Try.underlying98
 have hu100 := Try.underlying100
 have HR0_3 := Aside0.mk hr0_3
 have HC0_3 := Aside0.mk hc0_3
 clear hr0_3 hc0_3
 have HI1 := Aside0.mk hI
 have HK := Aside0.mk (qc0.refl w g none)
 have HL := Aside0.mk hB.size
 clear hI
 have HW0 := Aside0.mk hB.size
 have HB := Aside0.mk hB
 clear hB
 have H : ((impl_chain_link.f s1_0 s1_1 a0_0).bind fun bt420 => ((impl_chain_link.f bt420.1 bt420.2 a0_1).bind fun bt422 => ((impl_chain_link.f bt422.1 bt422.2 (a0_2.size : Int)).bind fun bt424 => (impl_numbersOf.l0 k 0 bt424.1 bt424.2 a0_0 a0_1 a0_2 l0_3)))) = some (r1, r2) := h
 clear h
 replace H := Option.bind_eq_some_iff.mp H
 obtain ⟨⟨t420, t421⟩, A30, H⟩ := H
 replace H : ((impl_chain_link.f t420 t421 a0_1).bind fun bt422 => ((impl_chain_link.f bt422.1 bt422.2 (a0_2.size : Int)).bind fun bt424 => (impl_numbersOf.l0 k 0 bt424.1 bt424.2 a0_0 a0_1 a0_2 l0_3))) = some (r1, r2) := H
 have A3 := Aside0.mk A30
 clear A30
 replace H := Option.bind_eq_some_iff.mp H
 obtain ⟨⟨t422, t423⟩, A40, H⟩ := H
 replace H : ((impl_chain_link.f t422 t423 (a0_2.size : Int)).bind fun bt424 => (impl_numbersOf.l0 k 0 bt424.1 bt424.2 a0_0 a0_1 a0_2 l0_3)) = some (r1, r2) := H
 have A4 := Aside0.mk A40
 clear A40
 replace H := Option.bind_eq_some_iff.mp H
 obtain ⟨⟨t424, t425⟩, A50, H⟩ := H
 replace H : (impl_numbersOf.l0 k 0 t424 t425 a0_0 a0_1 a0_2 l0_3) = some (r1, r2) := H
 have A5 := Aside0.mk A50
 clear A50
 have H' := Aside0.mk H
 clear H
 go_enter Try.func125, Try.ntmps125
 go_wp2_with (first | ((with_reducible refine qa1 (N := 2) rfl ?_); refine qe1 ?hg (N := 2) ?hd (cs := #[.int .i64 a0_0, .int .i64 a0_1, .string a0_2, .slice A0_3 l0_3.length c0_3]) (t := 98) ?hr ?_; (case hd => rfl); (case hg => rfl); (case hr => exact z10_34); intro gb419 hg w6 hbox hb; have n0_ := Aside0.mk (IsS178.below z10_19 hb); have n1_ := Aside0.mk (qc0.trans z10_14 (qc0.of_below hb g none) (.inl rfl)); have n2_ := Aside0.mk (ql0 (by repeat (first | (with_reducible first | exact HB.out | apply qj0 | apply qh0 | apply qi0 | refine qk0 ?_ (IsS178.ge HI1.out)) | exact HB.out)) hb); have n3_ := Aside0.mk (hbox); have n4_ := Aside0.mk ((z10_23 : w.heap.size ≤ gb419)); have n5_ := Aside0.mk ((Nat.le_trans HW0.out (z10_23 : w.heap.size ≤ gb419) : w0.heap.size ≤ gb419)); have n6_ := Aside0.mk ((by rw [hg]; exact Nat.ne_of_lt (IsS178.lt (show IsS178 w0 _ g s1_0 s1_1 from z10_19)) : g ≠ gb419)); have n7_ := Aside0.mk ((by rw [hg]; exact Nat.ne_of_gt (IsS178.lt (show IsS178 w0 _ g s1_0 s1_1 from z10_19)) : gb419 ≠ g)); clear HI1; clear HK; clear HB; have HI1 := n0_; have HK := n1_; have HB := n2_; have BK419 := n3_; have GW419 := n4_; have GE419 := n5_; have NB1_419 := n6_; have NB419_1 := n7_; clear n0_ n1_ n2_ n3_ n4_ n5_ n6_ n7_; clear hb hbox hg; have hnb7 := NB419_1.out; have hnc7 := NB1_419.out; have hcz8_0 : w6.cell? ⟨gb419, 0, none⟩ = some (.int .i64 a0_0) := (qb0 BK419.out 0).trans rfl; have hcz8_1 : w6.cell? ⟨gb419, 1, none⟩ = some (.int .i64 a0_1) := (qb0 BK419.out 1).trans rfl; have hcz8_2 : w6.cell? ⟨gb419, 2, none⟩ = some (.string a0_2) := (qb0 BK419.out 2).trans rfl; have hcz8_3 : w6.cell? ⟨gb419, 3, none⟩ = some (.slice A0_3 l0_3.length c0_3) := (qb0 BK419.out 3).trans rfl; have hfz8_0 := qa0 BK419.out 0; have hfz8_1 := qa0 BK419.out 1; have hfz8_2 := qa0 BK419.out 2; have hfz8_3 := qa0 BK419.out 3) | (go_at_call 124; (with_reducible refine (impl_chain_link.calls g s1_0 s1_1 a0_0 t420 t421 w0 _ ?side1 ?side2 A3.out).mono ?_); (case side1 => exact z10_3); (case side2 => exact z10_6); rintro e w9 ⟨rfl, hi, hb, hk⟩; have n0_ := Aside0.mk (qc0.blk hk (g' := gb419) (o := .cells #[.int .i64 a0_0, .int .i64 a0_1, .string a0_2, .slice A0_3 l0_3.length c0_3] 98 (0, 0)) z10_8 NB419_1.out (by simp)); have n1_ := Aside0.mk (qc0.trans z10_5 hk (.inl rfl)); have n2_ := Aside0.mk (hb); have n3_ := Aside0.mk (hi); clear BK419; clear HK; clear HB; clear HI1; have BK419 := n0_; have HK := n1_; have HB := n2_; have HI1 := n3_; clear n0_ n1_ n2_ n3_; (try clear hb); (try clear hb2); (try clear hk); (try clear hi); have hcz10_0 : w9.cell? ⟨gb419, 0, none⟩ = some (.int .i64 a0_0) := (qb0 BK419.out 0).trans rfl; have hcz10_1 : w9.cell? ⟨gb419, 1, none⟩ = some (.int .i64 a0_1) := (qb0 BK419.out 1).trans rfl; have hcz10_2 : w9.cell? ⟨gb419, 2, none⟩ = some (.string a0_2) := (qb0 BK419.out 2).trans rfl; have hcz10_3 : w9.cell? ⟨gb419, 3, none⟩ = some (.slice A0_3 l0_3.length c0_3) := (qb0 BK419.out 3).trans rfl; have hfz10_0 := qa0 BK419.out 0; have hfz10_1 := qa0 BK419.out 1; have hfz10_2 := qa0 BK419.out 2; have hfz10_3 := qa0 BK419.out 3) | (go_at_call 124; (with_reducible refine (impl_chain_link.calls g t420 t421 a0_1 t422 t423 w0 _ ?side1 ?side2 A4.out).mono ?_); (case side1 => exact z10_3); (case side2 => exact z10_6); rintro e w11 ⟨rfl, hi, hb, hk⟩; have n0_ := Aside0.mk (qc0.blk hk (g' := gb419) (o := .cells #[.int .i64 a0_0, .int .i64 a0_1, .string a0_2, .slice A0_3 l0_3.length c0_3] 98 (0, 0)) z10_8 NB419_1.out (by simp)); have n1_ := Aside0.mk (qc0.trans z10_5 hk (.inl rfl)); have n2_ := Aside0.mk (hb); have n3_ := Aside0.mk (hi); clear BK419; clear HK; clear HB; clear HI1; have BK419 := n0_; have HK := n1_; have HB := n2_; have HI1 := n3_; clear n0_ n1_ n2_ n3_; (try clear hb); (try clear hb2); (try clear hk); (try clear hi); have hcz12_0 : w11.cell? ⟨gb419, 0, none⟩ = some (.int .i64 a0_0) := (qb0 BK419.out 0).trans rfl; have hcz12_1 : w11.cell? ⟨gb419, 1, none⟩ = some (.int .i64 a0_1) := (qb0 BK419.out 1).trans rfl; have hcz12_2 : w11.cell? ⟨gb419, 2, none⟩ = some (.string a0_2) := (qb0 BK419.out 2).trans rfl; have hcz12_3 : w11.cell? ⟨gb419, 3, none⟩ = some (.slice A0_3 l0_3.length c0_3) := (qb0 BK419.out 3).trans rfl; have hfz12_0 := qa0 BK419.out 0; have hfz12_1 := qa0 BK419.out 1; have hfz12_2 := qa0 BK419.out 2; have hfz12_3 := qa0 BK419.out 3) | (go_at_call 124; (with_reducible refine (impl_chain_link.calls g t422 t423 (a0_2.size : Int) t424 t425 w0 _ ?side1 ?side2 A5.out).mono ?_); (case side1 => exact z10_3); (case side2 => exact z10_6); rintro e w13 ⟨rfl, hi, hb, hk⟩; have n0_ := Aside0.mk (qc0.blk hk (g' := gb419) (o := .cells #[.int .i64 a0_0, .int .i64 a0_1, .string a0_2, .slice A0_3 l0_3.length c0_3] 98 (0, 0)) z10_8 NB419_1.out (by simp)); have n1_ := Aside0.mk (qc0.trans z10_5 hk (.inl rfl)); have n2_ := Aside0.mk (hb); have n3_ := Aside0.mk (hi); clear BK419; clear HK; clear HB; clear HI1; have BK419 := n0_; have HK := n1_; have HB := n2_; have HI1 := n3_; clear n0_ n1_ n2_ n3_; (try clear hb); (try clear hb2); (try clear hk); (try clear hi)))
 go_loopg [4] k (fun kq v4 w' => ∃ (x4_1 : Int) (x2000_1 : Int) (x2001_1 : Bool), v4 = .int .i64 x4_1 ∧ Aside0 (impl_numbersOf.l0 kq x4_1 x2000_1 x2001_1 a0_0 a0_1 a0_2 l0_3 = some (r1, r2)) ∧ Aside0 (kq ≤ k) ∧ Aside0 (w'.heap[gb419]? = some (.cells #[.int .i64 a0_0, .int .i64 a0_1, .string a0_2, (.slice A0_3 l0_3.length c0_3)] 98 (0, 0))) ∧ Aside0 (IsS178 w0 w' g x2000_1 x2001_1) ∧ Aside0 (qc0 w w' g none) ∧ Aside0 (Below w0.heap.size w0 w'))
 case atStart => exact ⟨(0), (t424), (t425), z10_31, H', ⟨Nat.le_refl _⟩, ⟨z10_8⟩, ⟨z10_3⟩, ⟨z10_5⟩, ⟨z10_6⟩⟩
 case round =>
  clear H'
  try clear c1
  try clear p2
  try clear c7
  try clear c12
  try clear hcz10_0
  try clear hcz10_1
  try clear hcz10_2
  try clear hcz10_3
  try clear hcz12_0
  try clear hcz12_1
  try clear hcz12_2
  try clear hcz12_3
  try clear hcz8_0
  try clear hcz8_1
  try clear hcz8_2
  try clear hcz8_3
  try clear hfz10_0
  try clear hfz10_1
  try clear hfz10_2
  try clear hfz10_3
  try clear hfz12_0
  try clear hfz12_1
  try clear hfz12_2
  try clear hfz12_3
  try clear hfz8_0
  try clear hfz8_1
  try clear hfz8_2
  try clear hfz8_3
  obtain ⟨x4_1, x2000_1, x2001_1, rfl, HA, HK1, BK419, HI1, HK, HB⟩ := hrel
  cases gk with
  | zero => exact absurd HA.out (by simp [impl_numbersOf.l0])
  | succ k1 =>
   have H := HA.out
   clear HA
   simp only [impl_numbersOf.l0] at H
   by_cases c14 : x4_1 < (a0_2.size : Int)
   ·rw [if_pos c14] at H
    have c14b0 : decide (x4_1 < (a0_2.size : Int)) = true := decide_eq_true c14
    clear c14
    by_cases c15 : 0 ≤ x4_1
    case neg => rw [if_neg c15] at H; exact absurd H (by simp)
    rw [if_pos c15] at H
    have c15b0 : decide (0 ≤ x4_1) = true := decide_eq_true c15
    clear c15
    replace H := Option.bind_eq_some_iff.mp H
    obtain ⟨⟨t426, t427⟩, A170, H⟩ := H
    replace H : (impl_numbersOf.l0 k1 (wrap64 (x4_1 + 1)) t426 t427 a0_0 a0_1 a0_2 l0_3) = some (r1, r2) := H
    have A17 := Aside0.mk A170
    clear A170
    have H' := Aside0.mk H
    clear H
    have hnb18 := NB419_1.out
    have hnc18 := NB1_419.out
    have hcz19_0 : wr.cell? ⟨gb419, 0, none⟩ = some (.int .i64 a0_0) := (qb0 BK419.out 0).trans rfl
    have hcz19_1 : wr.cell? ⟨gb419, 1, none⟩ = some (.int .i64 a0_1) := (qb0 BK419.out 1).trans rfl
    have hcz19_2 : wr.cell? ⟨gb419, 2, none⟩ = some (.string a0_2) := (qb0 BK419.out 2).trans rfl
    have hcz19_3 : wr.cell? ⟨gb419, 3, none⟩ = some (.slice A0_3 l0_3.length c0_3) := (qb0 BK419.out 3).trans rfl
    have hfz19_0 := qa0 BK419.out 0
    have hfz19_1 := qa0 BK419.out 1
    have hfz19_2 := qa0 BK419.out 2
    have hfz19_3 := qa0 BK419.out 3
    have p16 : 0 ≤ (x4_1 : Int) := of_decide_eq_true z10_35
    have q16 : x4_1 < (a0_2.size : Int) := of_decide_eq_true z10_35
    have hx16 := bt_at a0_2 x4_1
    replace p16 := eq_true p16
    replace q16 := eq_true q16
    go_wp2_with (first | (go_at_call 124; (with_reducible refine (impl_chain_link.calls g x2000_1 x2001_1 (wrap64 (bt a0_2 x4_1)) t426 t427 w0 _ ?side1 ?side2 A17.out).mono ?_); (case side1 => exact z10_3); (case side2 => exact z10_6); rintro e w20 ⟨rfl, hi, hb, hk⟩; have n0_ := Aside0.mk (qc0.blk hk (g' := gb419) (o := .cells #[.int .i64 a0_0, .int .i64 a0_1, .string a0_2, .slice A0_3 l0_3.length c0_3] 98 (0, 0)) z10_8 NB419_1.out (by simp)); have n1_ := Aside0.mk (qc0.trans z10_5 hk (.inl rfl)); have n2_ := Aside0.mk (hb); have n3_ := Aside0.mk (hi); clear BK419; clear HK; clear HB; clear HI1; have BK419 := n0_; have HK := n1_; have HB := n2_; have HI1 := n3_; clear n0_ n1_ n2_ n3_; (try clear hb); (try clear hb2); (try clear hk); (try clear hi)))
    go_roundg k1
    case measure => have := HK1.out; omega
    case rel => exact ⟨(wrap64 (x4_1 + 1)), (t426), (t427), z10_31, H', ⟨by have := HK1.out; omega⟩, ⟨z10_8⟩, ⟨z10_3⟩, ⟨z10_5⟩, ⟨z10_6⟩⟩
   rw [if_neg c14] at H
   have c14b0 : decide (x4_1 < (a0_2.size : Int)) = false := decide_eq_false c14
   clear c14
   replace H := Option.bind_eq_some_iff.mp H
   obtain ⟨⟨t428, t429⟩, A210, H⟩ := H
   replace H : (impl_numbersOf.l1 k1 l0_3 (l0_3.length : Int) 0 t428 t429) = some (r1, r2) := H
   have A21 := Aside0.mk A210
   clear A210
   have H' := Aside0.mk H
   clear H
   have hnb22 := NB419_1.out
   have hnc22 := NB1_419.out
   have hcz23_0 : wr.cell? ⟨gb419, 0, none⟩ = some (.int .i64 a0_0) := (qb0 BK419.out 0).trans rfl
   have hcz23_1 : wr.cell? ⟨gb419, 1, none⟩ = some (.int .i64 a0_1) := (qb0 BK419.out 1).trans rfl
   have hcz23_2 : wr.cell? ⟨gb419, 2, none⟩ = some (.string a0_2) := (qb0 BK419.out 2).trans rfl
   have hcz23_3 : wr.cell? ⟨gb419, 3, none⟩ = some (.slice A0_3 l0_3.length c0_3) := (qb0 BK419.out 3).trans rfl
   have hfz23_0 := qa0 BK419.out 0
   have hfz23_1 := qa0 BK419.out 1
   have hfz23_2 := qa0 BK419.out 2
   have hfz23_3 := qa0 BK419.out 3
   go_wp2_with (first | (go_at_call 124; (with_reducible refine (impl_chain_link.calls g x2000_1 x2001_1 (l0_3.length : Int) t428 t429 w0 _ ?side1 ?side2 A21.out).mono ?_); (case side1 => exact z10_3); (case side2 => exact z10_6); rintro e w24 ⟨rfl, hi, hb, hk⟩; have n0_ := Aside0.mk (qc0.blk hk (g' := gb419) (o := .cells #[.int .i64 a0_0, .int .i64 a0_1, .string a0_2, .slice A0_3 l0_3.length c0_3] 98 (0, 0)) z10_8 NB419_1.out (by simp)); have n1_ := Aside0.mk (qc0.trans z10_5 hk (.inl rfl)); have n2_ := Aside0.mk (hb); have n3_ := Aside0.mk (hi); clear BK419; clear HK; clear HB; clear HI1; have BK419 := n0_; have HK := n1_; have HB := n2_; have HI1 := n3_; clear n0_ n1_ n2_ n3_; (try clear hb); (try clear hb2); (try clear hk); (try clear hi); have hcz25_0 : w24.cell? ⟨gb419, 0, none⟩ = some (.int .i64 a0_0) := (qb0 BK419.out 0).trans rfl; have hcz25_1 : w24.cell? ⟨gb419, 1, none⟩ = some (.int .i64 a0_1) := (qb0 BK419.out 1).trans rfl; have hcz25_2 : w24.cell? ⟨gb419, 2, none⟩ = some (.string a0_2) := (qb0 BK419.out 2).trans rfl; have hcz25_3 : w24.cell? ⟨gb419, 3, none⟩ = some (.slice A0_3 l0_3.length c0_3) := (qb0 BK419.out 3).trans rfl; have hfz25_0 := qa0 BK419.out 0; have hfz25_1 := qa0 BK419.out 1; have hfz25_2 := qa0 BK419.out 2; have hfz25_3 := qa0 BK419.out 3))
   go_loopg [42] k1 (fun kq v42 w' => ∃ (x42_2 : Int) (x2000_2 : Int) (x2001_2 : Bool), v42 = .int .i64 x42_2 ∧ Aside0 (impl_numbersOf.l1 kq l0_3 (l0_3.length : Int) x42_2 x2000_2 x2001_2 = some (r1, r2)) ∧ Aside0 (kq ≤ k1) ∧ Aside0 (w'.heap[gb419]? = some (.cells #[.int .i64 a0_0, .int .i64 a0_1, .string a0_2, (.slice A0_3 l0_3.length c0_3)] 98 (0, 0))) ∧ Aside0 (IsS178 w0 w' g x2000_2 x2001_2) ∧ Aside0 (qc0 w w' g none) ∧ Aside0 (Below w0.heap.size w0 w'))
   case atStart => exact ⟨(0), (t428), (t429), z10_31, H', ⟨Nat.le_refl _⟩, ⟨z10_8⟩, ⟨z10_3⟩, ⟨z10_5⟩, ⟨z10_6⟩⟩
   case round =>
    clear H'
    try clear c1
    try clear p1
    try clear q1
    try clear hx1
    try clear c2
    try clear p2
    try clear p6
    try clear c7
    try clear c12
    try clear c14
    try clear c14b0
    try clear c15
    try clear c15b0
    try clear p16
    try clear q16
    try clear hx16
    try clear c18
    try clear c22
    try clear hcz10_0
    try clear hcz10_1
    try clear hcz10_2
    try clear hcz10_3
    try clear hcz12_0
    try clear hcz12_1
    try clear hcz12_2
    try clear hcz12_3
    try clear hcz19_0
    try clear hcz19_1
    try clear hcz19_2
    try clear hcz19_3
    try clear hcz23_0
    try clear hcz23_1
    try clear hcz23_2
    try clear hcz23_3
    try clear hcz25_0
    try clear hcz25_1
    try clear hcz25_2
    try clear hcz25_3
    try clear hcz8_0
    try clear hcz8_1
    try clear hcz8_2
    try clear hcz8_3
    try clear hfz10_0
    try clear hfz10_1
    try clear hfz10_2
    try clear hfz10_3
    try clear hfz12_0
    try clear hfz12_1
    try clear hfz12_2
    try clear hfz12_3
    try clear hfz19_0
    try clear hfz19_1
    try clear hfz19_2
    try clear hfz19_3
    try clear hfz23_0
    try clear hfz23_1
    try clear hfz23_2
    try clear hfz23_3
    try clear hfz25_0
    try clear hfz25_1
    try clear hfz25_2
    try clear hfz25_3
    try clear hfz8_0
    try clear hfz8_1
    try clear hfz8_2
    try clear hfz8_3
    try clear p16
    try clear p2
    try clear q16
    obtain ⟨x42_2, x2000_2, x2001_2, rfl, HA, HK2, BK419, HI1, HK, HB⟩ := hrel
    cases gk with
    | zero => exact absurd HA.out (by simp [impl_numbersOf.l1])
    | succ k2 =>
     have H := HA.out
     clear HA
     simp only [impl_numbersOf.l1] at H
     by_cases c26 : x42_2 < (l0_3.length : Int)
     ·rw [if_pos c26] at H
      have c26b0 : decide (x42_2 < (l0_3.length : Int)) = true := decide_eq_true c26
      clear c26
      by_cases c27 : 0 ≤ x42_2
      case neg => rw [if_neg c27] at H; exact absurd H (by simp)
      rw [if_pos c27] at H
      have c27b0 : decide (0 ≤ x42_2) = true := decide_eq_true c27
      clear c27
      by_cases c28 : x42_2 < (l0_3.length : Int)
      case neg => rw [if_neg c28] at H; exact absurd H (by simp)
      rw [if_pos c28] at H
      have c28b0 : decide (x42_2 < (l0_3.length : Int)) = true := decide_eq_true c28
      clear c28
      replace H := Option.bind_eq_some_iff.mp H
      obtain ⟨⟨t432, t433⟩, A290, H⟩ := H
      replace H : ((impl_chain_link.f t432 t433 ((rd_T100 l0_3 x42_2).f1)).bind fun bt434 => ((impl_chain_link.f bt434.1 bt434.2 ((rd_T100 l0_3 x42_2).f2)).bind fun bt436 => ((impl_chain_link.f bt436.1 bt436.2 ((rd_T100 l0_3 x42_2).f3)).bind fun bt438 => ((impl_chain_link.f bt438.1 bt438.2 ((rd_T100 l0_3 x42_2).f4)).bind fun bt440 => (impl_numbersOf.l1 k2 l0_3 (l0_3.length : Int) (wrap64 (x42_2 + 1)) bt440.1 bt440.2))))) = some (r1, r2) := H
      have A29 := Aside0.mk A290
      clear A290
      replace H := Option.bind_eq_some_iff.mp H
      obtain ⟨⟨t434, t435⟩, A300, H⟩ := H
      replace H : ((impl_chain_link.f t434 t435 ((rd_T100 l0_3 x42_2).f2)).bind fun bt436 => ((impl_chain_link.f bt436.1 bt436.2 ((rd_T100 l0_3 x42_2).f3)).bind fun bt438 => ((impl_chain_link.f bt438.1 bt438.2 ((rd_T100 l0_3 x42_2).f4)).bind fun bt440 => (impl_numbersOf.l1 k2 l0_3 (l0_3.length : Int) (wrap64 (x42_2 + 1)) bt440.1 bt440.2)))) = some (r1, r2) := H
      have A30 := Aside0.mk A300
      clear A300
      replace H := Option.bind_eq_some_iff.mp H
      obtain ⟨⟨t436, t437⟩, A310, H⟩ := H
      replace H : ((impl_chain_link.f t436 t437 ((rd_T100 l0_3 x42_2).f3)).bind fun bt438 => ((impl_chain_link.f bt438.1 bt438.2 ((rd_T100 l0_3 x42_2).f4)).bind fun bt440 => (impl_numbersOf.l1 k2 l0_3 (l0_3.length : Int) (wrap64 (x42_2 + 1)) bt440.1 bt440.2))) = some (r1, r2) := H
      have A31 := Aside0.mk A310
      clear A310
      replace H := Option.bind_eq_some_iff.mp H
      obtain ⟨⟨t438, t439⟩, A320, H⟩ := H
      replace H : ((impl_chain_link.f t438 t439 ((rd_T100 l0_3 x42_2).f4)).bind fun bt440 => (impl_numbersOf.l1 k2 l0_3 (l0_3.length : Int) (wrap64 (x42_2 + 1)) bt440.1 bt440.2)) = some (r1, r2) := H
      have A32 := Aside0.mk A320
      clear A320
      replace H := Option.bind_eq_some_iff.mp H
      obtain ⟨⟨t440, t441⟩, A330, H⟩ := H
      replace H : (impl_numbersOf.l1 k2 l0_3 (l0_3.length : Int) (wrap64 (x42_2 + 1)) t440 t441) = some (r1, r2) := H
      have A33 := Aside0.mk A330
      clear A330
      have H' := Aside0.mk H
      clear H
      have p430 : 0 ≤ (x42_2 : Int) := of_decide_eq_true z10_35
      have q430 : x42_2 < (l0_3.length : Int) := of_decide_eq_true z10_35
      obtain ⟨ad430, e430, hx430_0, hx430_1, hx430_2, hx430_3, hx430_4⟩ := at_T100 (Kd.C_foot_now HR0_3.out HK.out) x42_2 p430 q430
      cases e430
      replace p430 := eq_true p430
      replace q430 := eq_true q430
      go_wp2_with (first | ((with_reducible refine qa1 (N := 6) rfl ?_); refine qe1 ?hg (N := 6) ?hd (cs := #[.int .i64 0, .int .i64 0, .int .i64 0, .int .i64 0, .int .i64 0]) (t := 100) ?hr ?_; (case hd => rfl); (case hg => rfl); (case hr => exact z10_34); intro gb431 hg w34 hbox hb; have n0_ := Aside0.mk (qz0 (g := gb419) (o := .cells #[.int .i64 a0_0, .int .i64 a0_1, .string a0_2, .slice (some ad430) l0_3.length c0_3] 98 (0, 0)) z10_8 hb); have n1_ := Aside0.mk (IsS178.below z10_3 hb); have n2_ := Aside0.mk (qc0.trans z10_5 (qc0.of_below hb g none) (.inl rfl)); have n3_ := Aside0.mk (ql0 z10_6 hb); have n4_ := Aside0.mk (hbox); have n5_ := Aside0.mk ((z10_20 : w.heap.size ≤ gb431)); have n6_ := Aside0.mk ((Nat.le_trans HW0.out (z10_20 : w.heap.size ≤ gb431) : w0.heap.size ≤ gb431)); have n7_ := Aside0.mk ((by rw [hg]; exact Nat.ne_of_lt (blk_lt (g := gb419) (o := .cells #[.int .i64 a0_0, .int .i64 a0_1, .string a0_2, .slice (some ad430) l0_3.length c0_3] 98 (0, 0)) z10_8) : gb419 ≠ gb431)); have n8_ := Aside0.mk ((by rw [hg]; exact Nat.ne_of_gt (blk_lt (g := gb419) (o := .cells #[.int .i64 a0_0, .int .i64 a0_1, .string a0_2, .slice (some ad430) l0_3.length c0_3] 98 (0, 0)) z10_8) : gb431 ≠ gb419)); have n9_ := Aside0.mk ((by rw [hg]; exact Nat.ne_of_lt (IsS178.lt (show IsS178 w0 _ g x2000_2 x2001_2 from z10_3)) : g ≠ gb431)); have n10_ := Aside0.mk ((by rw [hg]; exact Nat.ne_of_gt (IsS178.lt (show IsS178 w0 _ g x2000_2 x2001_2 from z10_3)) : gb431 ≠ g)); clear BK419; clear HI1; clear HK; clear HB; have BK419 := n0_; have HI1 := n1_; have HK := n2_; have HB := n3_; have BK431 := n4_; have GW431 := n5_; have GE431 := n6_; have NB419_431 := n7_; have NB431_419 := n8_; have NB1_431 := n9_; have NB431_1 := n10_; clear n0_ n1_ n2_ n3_ n4_ n5_ n6_ n7_ n8_ n9_ n10_; clear hb hbox hg; have hnb35 := NB431_419.out; have hnc35 := NB419_431.out; have hnb36 := NB431_1.out; have hnc36 := NB1_431.out; have hcz37_0 : w34.cell? ⟨gb431, 0, none⟩ = some (.int .i64 0) := (qb0 BK431.out 0).trans rfl; have hcz37_1 : w34.cell? ⟨gb431, 1, none⟩ = some (.int .i64 0) := (qb0 BK431.out 1).trans rfl; have hcz37_2 : w34.cell? ⟨gb431, 2, none⟩ = some (.int .i64 0) := (qb0 BK431.out 2).trans rfl; have hcz37_3 : w34.cell? ⟨gb431, 3, none⟩ = some (.int .i64 0) := (qb0 BK431.out 3).trans rfl; have hcz37_4 : w34.cell? ⟨gb431, 4, none⟩ = some (.int .i64 0) := (qb0 BK431.out 4).trans rfl; have hfz37_0 := qa0 BK431.out 0; have hfz37_1 := qa0 BK431.out 1; have hfz37_2 := qa0 BK431.out 2; have hfz37_3 := qa0 BK431.out 3; have hfz37_4 := qa0 BK431.out 4) | (go_at_call 124; (with_reducible refine (impl_chain_link.calls g x2000_2 x2001_2 ((rd_T100 l0_3 x42_2).f0) t432 t433 w0 _ ?side1 ?side2 A29.out).mono ?_); (case side1 => exact z10_10); (case side2 => exact z10_11); rintro e w38 ⟨rfl, hi, hb, hk⟩; have n0_ := Aside0.mk (qc0.blk hk (g' := gb419) (o := .cells #[.int .i64 a0_0, .int .i64 a0_1, .string a0_2, .slice (some ad430) l0_3.length c0_3] 98 (0, 0)) (by (with_reducible repeat (first | refine qe0 ?_ _ | refine qf0 ?_ | refine qd0 ?_ _)); refine blk_far ?_ NB419_431.out _; (with_reducible repeat (first | refine qe0 ?_ _ | refine qf0 ?_ | refine qd0 ?_ _)); refine blk_far ?_ NB419_431.out _; (with_reducible repeat (first | refine qe0 ?_ _ | refine qf0 ?_ | refine qd0 ?_ _)); refine blk_far ?_ NB419_431.out _; (with_reducible repeat (first | refine qe0 ?_ _ | refine qf0 ?_ | refine qd0 ?_ _)); refine blk_far ?_ NB419_431.out _; (with_reducible repeat (first | refine qe0 ?_ _ | refine qf0 ?_ | refine qd0 ?_ _)); refine blk_far ?_ NB419_431.out _; (with_reducible repeat (first | refine qe0 ?_ _ | refine qf0 ?_ | refine qd0 ?_ _)); exact BK419.out) NB419_1.out (by simp)); have n1_ := Aside0.mk (qc0.blk hk (g' := gb431) (o := .cells #[.int .i64 ((rd_T100 l0_3 x42_2).f0), .int .i64 ((rd_T100 l0_3 x42_2).f1), .int .i64 ((rd_T100 l0_3 x42_2).f2), .int .i64 ((rd_T100 l0_3 x42_2).f3), .int .i64 ((rd_T100 l0_3 x42_2).f4)] 100 (0, 0)) (by (with_reducible repeat (first | refine qe0 ?_ _ | refine qf0 ?_ | refine qd0 ?_ _)); refine qo0 (cs := #[.int .i64 ((rd_T100 l0_3 x42_2).f0), .int .i64 ((rd_T100 l0_3 x42_2).f1), .int .i64 ((rd_T100 l0_3 x42_2).f2), .int .i64 ((rd_T100 l0_3 x42_2).f3), .int .i64 0]) ?_ 4 _ rfl; (with_reducible repeat (first | refine qe0 ?_ _ | refine qf0 ?_ | refine qd0 ?_ _)); refine qo0 (cs := #[.int .i64 ((rd_T100 l0_3 x42_2).f0), .int .i64 ((rd_T100 l0_3 x42_2).f1), .int .i64 ((rd_T100 l0_3 x42_2).f2), .int .i64 0, .int .i64 0]) ?_ 3 _ rfl; (with_reducible repeat (first | refine qe0 ?_ _ | refine qf0 ?_ | refine qd0 ?_ _)); refine qo0 (cs := #[.int .i64 ((rd_T100 l0_3 x42_2).f0), .int .i64 ((rd_T100 l0_3 x42_2).f1), .int .i64 0, .int .i64 0, .int .i64 0]) ?_ 2 _ rfl; (with_reducible repeat (first | refine qe0 ?_ _ | refine qf0 ?_ | refine qd0 ?_ _)); refine qo0 (cs := #[.int .i64 ((rd_T100 l0_3 x42_2).f0), .int .i64 0, .int .i64 0, .int .i64 0, .int .i64 0]) ?_ 1 _ rfl; (with_reducible repeat (first | refine qe0 ?_ _ | refine qf0 ?_ | refine qd0 ?_ _)); refine qo0 (cs := #[.int .i64 0, .int .i64 0, .int .i64 0, .int .i64 0, .int .i64 0]) ?_ 0 _ rfl; (with_reducible repeat (first | refine qe0 ?_ _ | refine qf0 ?_ | refine qd0 ?_ _)); exact BK431.out) NB431_1.out (by simp)); have n2_ := Aside0.mk (qc0.trans z10_12 hk (.inl rfl)); have n3_ := Aside0.mk (hb); have n4_ := Aside0.mk (hi); clear BK419; clear BK431; clear HK; clear HB; clear HI1; have BK419 := n0_; have BK431 := n1_; have HK := n2_; have HB := n3_; have HI1 := n4_; clear n0_ n1_ n2_ n3_ n4_; (try clear hb); (try clear hb2); (try clear hk); (try clear hi); have hcz39_0 : w38.cell? ⟨gb431, 0, none⟩ = some (.int .i64 ((rd_T100 l0_3 x42_2).f0)) := (qb0 BK431.out 0).trans rfl; have hcz39_1 : w38.cell? ⟨gb431, 1, none⟩ = some (.int .i64 ((rd_T100 l0_3 x42_2).f1)) := (qb0 BK431.out 1).trans rfl; have hcz39_2 : w38.cell? ⟨gb431, 2, none⟩ = some (.int .i64 ((rd_T100 l0_3 x42_2).f2)) := (qb0 BK431.out 2).trans rfl; have hcz39_3 : w38.cell? ⟨gb431, 3, none⟩ = some (.int .i64 ((rd_T100 l0_3 x42_2).f3)) := (qb0 BK431.out 3).trans rfl; have hcz39_4 : w38.cell? ⟨gb431, 4, none⟩ = some (.int .i64 ((rd_T100 l0_3 x42_2).f4)) := (qb0 BK431.out 4).trans rfl; have hfz39_0 := qa0 BK431.out 0; have hfz39_1 := qa0 BK431.out 1; have hfz39_2 := qa0 BK431.out 2; have hfz39_3 := qa0 BK431.out 3; have hfz39_4 := qa0 BK431.out 4) | (go_at_call 124; (with_reducible refine (impl_chain_link.calls g t432 t433 ((rd_T100 l0_3 x42_2).f1) t434 t435 w0 _ ?side1 ?side2 A30.out).mono ?_); (case side1 => exact z10_10); (case side2 => exact z10_11); rintro e w40 ⟨rfl, hi, hb, hk⟩; have n0_ := Aside0.mk (qc0.blk hk (g' := gb419) (o := .cells #[.int .i64 a0_0, .int .i64 a0_1, .string a0_2, .slice (some ad430) l0_3.length c0_3] 98 (0, 0)) z10_8 NB419_1.out (by simp)); have n1_ := Aside0.mk (qc0.blk hk (g' := gb431) (o := .cells #[.int .i64 ((rd_T100 l0_3 x42_2).f0), .int .i64 ((rd_T100 l0_3 x42_2).f1), .int .i64 ((rd_T100 l0_3 x42_2).f2), .int .i64 ((rd_T100 l0_3 x42_2).f3), .int .i64 ((rd_T100 l0_3 x42_2).f4)] 100 (0, 0)) z10_22 NB431_1.out (by simp)); have n2_ := Aside0.mk (qc0.trans z10_12 hk (.inl rfl)); have n3_ := Aside0.mk (hb); have n4_ := Aside0.mk (hi); clear BK419; clear BK431; clear HK; clear HB; clear HI1; have BK419 := n0_; have BK431 := n1_; have HK := n2_; have HB := n3_; have HI1 := n4_; clear n0_ n1_ n2_ n3_ n4_; (try clear hb); (try clear hb2); (try clear hk); (try clear hi); have hcz41_0 : w40.cell? ⟨gb431, 0, none⟩ = some (.int .i64 ((rd_T100 l0_3 x42_2).f0)) := (qb0 BK431.out 0).trans rfl; have hcz41_1 : w40.cell? ⟨gb431, 1, none⟩ = some (.int .i64 ((rd_T100 l0_3 x42_2).f1)) := (qb0 BK431.out 1).trans rfl; have hcz41_2 : w40.cell? ⟨gb431, 2, none⟩ = some (.int .i64 ((rd_T100 l0_3 x42_2).f2)) := (qb0 BK431.out 2).trans rfl; have hcz41_3 : w40.cell? ⟨gb431, 3, none⟩ = some (.int .i64 ((rd_T100 l0_3 x42_2).f3)) := (qb0 BK431.out 3).trans rfl; have hcz41_4 : w40.cell? ⟨gb431, 4, none⟩ = some (.int .i64 ((rd_T100 l0_3 x42_2).f4)) := (qb0 BK431.out 4).trans rfl; have hfz41_0 := qa0 BK431.out 0; have hfz41_1 := qa0 BK431.out 1; have hfz41_2 := qa0 BK431.out 2; have hfz41_3 := qa0 BK431.out 3; have hfz41_4 := qa0 BK431.out 4) | (go_at_call 124; (with_reducible refine (impl_chain_link.calls g t434 t435 ((rd_T100 l0_3 x42_2).f2) t436 t437 w0 _ ?side1 ?side2 A31.out).mono ?_); (case side1 => exact z10_10); (case side2 => exact z10_11); rintro e w42 ⟨rfl, hi, hb, hk⟩; have n0_ := Aside0.mk (qc0.blk hk (g' := gb419) (o := .cells #[.int .i64 a0_0, .int .i64 a0_1, .string a0_2, .slice (some ad430) l0_3.length c0_3] 98 (0, 0)) z10_8 NB419_1.out (by simp)); have n1_ := Aside0.mk (qc0.blk hk (g' := gb431) (o := .cells #[.int .i64 ((rd_T100 l0_3 x42_2).f0), .int .i64 ((rd_T100 l0_3 x42_2).f1), .int .i64 ((rd_T100 l0_3 x42_2).f2), .int .i64 ((rd_T100 l0_3 x42_2).f3), .int .i64 ((rd_T100 l0_3 x42_2).f4)] 100 (0, 0)) z10_22 NB431_1.out (by simp)); have n2_ := Aside0.mk (qc0.trans z10_12 hk (.inl rfl)); have n3_ := Aside0.mk (hb); have n4_ := Aside0.mk (hi); clear BK419; clear BK431; clear HK; clear HB; clear HI1; have BK419 := n0_; have BK431 := n1_; have HK := n2_; have HB := n3_; have HI1 := n4_; clear n0_ n1_ n2_ n3_ n4_; (try clear hb); (try clear hb2); (try clear hk); (try clear hi); have hcz43_0 : w42.cell? ⟨gb431, 0, none⟩ = some (.int .i64 ((rd_T100 l0_3 x42_2).f0)) := (qb0 BK431.out 0).trans rfl; have hcz43_1 : w42.cell? ⟨gb431, 1, none⟩ = some (.int .i64 ((rd_T100 l0_3 x42_2).f1)) := (qb0 BK431.out 1).trans rfl; have hcz43_2 : w42.cell? ⟨gb431, 2, none⟩ = some (.int .i64 ((rd_T100 l0_3 x42_2).f2)) := (qb0 BK431.out 2).trans rfl; have hcz43_3 : w42.cell? ⟨gb431, 3, none⟩ = some (.int .i64 ((rd_T100 l0_3 x42_2).f3)) := (qb0 BK431.out 3).trans rfl; have hcz43_4 : w42.cell? ⟨gb431, 4, none⟩ = some (.int .i64 ((rd_T100 l0_3 x42_2).f4)) := (qb0 BK431.out 4).trans rfl; have hfz43_0 := qa0 BK431.out 0; have hfz43_1 := qa0 BK431.out 1; have hfz43_2 := qa0 BK431.out 2; have hfz43_3 := qa0 BK431.out 3; have hfz43_4 := qa0 BK431.out 4) | (go_at_call 124; (with_reducible refine (impl_chain_link.calls g t436 t437 ((rd_T100 l0_3 x42_2).f3) t438 t439 w0 _ ?side1 ?side2 A32.out).mono ?_); (case side1 => exact z10_10); (case side2 => exact z10_11); rintro e w44 ⟨rfl, hi, hb, hk⟩; have n0_ := Aside0.mk (qc0.blk hk (g' := gb419) (o := .cells #[.int .i64 a0_0, .int .i64 a0_1, .string a0_2, .slice (some ad430) l0_3.length c0_3] 98 (0, 0)) z10_8 NB419_1.out (by simp)); have n1_ := Aside0.mk (qc0.blk hk (g' := gb431) (o := .cells #[.int .i64 ((rd_T100 l0_3 x42_2).f0), .int .i64 ((rd_T100 l0_3 x42_2).f1), .int .i64 ((rd_T100 l0_3 x42_2).f2), .int .i64 ((rd_T100 l0_3 x42_2).f3), .int .i64 ((rd_T100 l0_3 x42_2).f4)] 100 (0, 0)) z10_22 NB431_1.out (by simp)); have n2_ := Aside0.mk (qc0.trans z10_12 hk (.inl rfl)); have n3_ := Aside0.mk (hb); have n4_ := Aside0.mk (hi); clear BK419; clear BK431; clear HK; clear HB; clear HI1; have BK419 := n0_; have BK431 := n1_; have HK := n2_; have HB := n3_; have HI1 := n4_; clear n0_ n1_ n2_ n3_ n4_; (try clear hb); (try clear hb2); (try clear hk); (try clear hi); have hcz45_0 : w44.cell? ⟨gb431, 0, none⟩ = some (.int .i64 ((rd_T100 l0_3 x42_2).f0)) := (qb0 BK431.out 0).trans rfl; have hcz45_1 : w44.cell? ⟨gb431, 1, none⟩ = some (.int .i64 ((rd_T100 l0_3 x42_2).f1)) := (qb0 BK431.out 1).trans rfl; have hcz45_2 : w44.cell? ⟨gb431, 2, none⟩ = some (.int .i64 ((rd_T100 l0_3 x42_2).f2)) := (qb0 BK431.out 2).trans rfl; have hcz45_3 : w44.cell? ⟨gb431, 3, none⟩ = some (.int .i64 ((rd_T100 l0_3 x42_2).f3)) := (qb0 BK431.out 3).trans rfl; have hcz45_4 : w44.cell? ⟨gb431, 4, none⟩ = some (.int .i64 ((rd_T100 l0_3 x42_2).f4)) := (qb0 BK431.out 4).trans rfl; have hfz45_0 := qa0 BK431.out 0; have hfz45_1 := qa0 BK431.out 1; have hfz45_2 := qa0 BK431.out 2; have hfz45_3 := qa0 BK431.out 3; have hfz45_4 := qa0 BK431.out 4) | (go_at_call 124; (with_reducible refine (impl_chain_link.calls g t438 t439 ((rd_T100 l0_3 x42_2).f4) t440 t441 w0 _ ?side1 ?side2 A33.out).mono ?_); (case side1 => exact z10_10); (case side2 => exact z10_11); rintro e w46 ⟨rfl, hi, hb, hk⟩; have n0_ := Aside0.mk (qc0.blk hk (g' := gb419) (o := .cells #[.int .i64 a0_0, .int .i64 a0_1, .string a0_2, .slice (some ad430) l0_3.length c0_3] 98 (0, 0)) z10_8 NB419_1.out (by simp)); have n1_ := Aside0.mk (qc0.blk hk (g' := gb431) (o := .cells #[.int .i64 ((rd_T100 l0_3 x42_2).f0), .int .i64 ((rd_T100 l0_3 x42_2).f1), .int .i64 ((rd_T100 l0_3 x42_2).f2), .int .i64 ((rd_T100 l0_3 x42_2).f3), .int .i64 ((rd_T100 l0_3 x42_2).f4)] 100 (0, 0)) z10_22 NB431_1.out (by simp)); have n2_ := Aside0.mk (qc0.trans z10_12 hk (.inl rfl)); have n3_ := Aside0.mk (hb); have n4_ := Aside0.mk (hi); clear BK419; clear BK431; clear HK; clear HB; clear HI1; have BK419 := n0_; have BK431 := n1_; have HK := n2_; have HB := n3_; have HI1 := n4_; clear n0_ n1_ n2_ n3_ n4_; (try clear hb); (try clear hb2); (try clear hk); (try clear hi)))
      go_roundg k2
      case measure => have := HK1.out; have := HK2.out; omega
      case rel => exact ⟨(wrap64 (x42_2 + 1)), (t440), (t441), z10_31, H', ⟨by have := HK1.out; have := HK2.out; omega⟩, ⟨z10_8⟩, ⟨z10_10⟩, ⟨z10_12⟩, ⟨z10_11⟩⟩
     rw [if_neg c26] at H
     have c26b0 : decide (x42_2 < (l0_3.length : Int)) = false := decide_eq_false c26
     clear c26
     simp only [Option.some.injEq, Prod.mk.injEq] at H
     obtain ⟨rfl, rfl⟩ := H
     go_wp2
     first | go_end0 | ((try simp only [Exit.inBlock, Exit.then]); refine bodyPost_ret (results_none rfl _ _ _) rfl ?_)
     exact ⟨z10_21, z10_3, z10_6, z10_5⟩

end Go.Proofs.Ytkkdmmefnicmaaa.PFnChained
