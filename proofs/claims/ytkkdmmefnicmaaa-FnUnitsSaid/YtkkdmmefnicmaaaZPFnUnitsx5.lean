/- Lines by a program (a changed copy of the kit's print: this repo's wip/tools): Go functions as Lean functions, and proofs that the calls answer so. -/
import Derived.Test.YtkkdmmefnicmaaaZPFnUnitsx0
import Derived.Test.YtkkdmmefnicmaaaZPFnUnitsx3
import Derived.Test.YtkkdmmefnicmaaaZPFnUnitsx4
namespace Go.Proofs.Ytkkdmmefnicmaaa.PFnUnits
open Go.RowKit Go.Proofs.YtkkdmmefnicmaaaW.PrintWords Go.Proofs.YtkkdmmefnicmaaaW.PrintLast Go.Proofs.YtkkdmmefnicmaaaW.PrintMore
/-- Runs of true and false, by turns. -/
def rb5l : Bool → List Nat → List Bool
 | _, [] => []
 | b, n :: r => List.replicate n b ++ rb5l (!b) r
def rb5 (l : List Nat) : Array Bool := (rb5l true l).toArray
attribute [local go_sem] max2_int min2_int max_two min_two max_three min_three max_four min_four   -- for this text's walks alone
set_option linter.unusedVariables false
set_option linter.unusedSimpArgs false

/-! ### spec_l1Spoil: function 75 -/
def spec_l1Spoil.f (s0_0 : List Int) (s0_1 : Int) (s0_2 : Int) (a1 : Int) (l2 : List Int) : Option (Int × Int × Int) := (spec_l1Once.f s0_0 s0_1 s0_2 40).bind fun bt208 => (if bt208.1 = true then ((spec_l1PickInt.f s0_0 bt208.2.1 bt208.2.2 l2).bind fun bt211 => (some (bt211.1, bt211.2.1, bt211.2.2))) else (some (a1, bt208.2.1, bt208.2.2)))
set_option maxHeartbeats 8000000 in
set_option maxRecDepth 100000 in
theorem spec_l1Spoil.calls (g : Nat) (s0_0 : List Int) (s0_1 : Int) (s0_2 : Int) (a1 : Int) (A2 : Option Addr) (c2 : Nat) (l2 : List Int) (r1 : Int) (r2 : Int) (r3 : Int) (w0 w : World) (hI : IsS186 w0 w g s0_0 s0_1 s0_2) (hB : Below w0.heap.size w0 w) (hr2 : Kd.C (Kd.int .i64) w A2 l2.length l2) (hc2 : l2.length ≤ c2) (hf2 : ∀ ad, A2 = some ad → 0 < l2.length → ad.block ≠ g) (h : spec_l1Spoil.f s0_0 s0_1 s0_2 a1 l2 = some (r1, r2, r3)) :
  Calls Try.prog 75 #[.pointer (some ⟨g, 0, none⟩), .int .i64 a1, .slice A2 l2.length c2] w fun e w' => e = .returned (.int .i64 r1) ∧ IsS186 w0 w' g s0_0 r2 r3 ∧ Below w0.heap.size w0 w' ∧ qn0 w w' g none := by
 have HR2 := Aside0.mk hr2
 have HC2 := Aside0.mk hc2
 clear hr2 hc2
 have HI0 := Aside0.mk hI
 have HK := Aside0.mk (qn0.refl w g none)
 have HL := Aside0.mk hB.size
 clear hI
 have HW0 := Aside0.mk hB.size
 have HB := Aside0.mk hB
 clear hB
 have H : ((spec_l1Once.f s0_0 s0_1 s0_2 40).bind fun bt208 => (if bt208.1 = true then ((spec_l1PickInt.f s0_0 bt208.2.1 bt208.2.2 l2).bind fun bt211 => (some (bt211.1, bt211.2.1, bt211.2.2))) else (some (a1, bt208.2.1, bt208.2.2)))) = some (r1, r2, r3) := h
 clear h
 replace H := Option.bind_eq_some_iff.mp H
 obtain ⟨⟨t208, t209, t210⟩, A40, H⟩ := H
 replace H : (if t208 = true then ((spec_l1PickInt.f s0_0 t209 t210 l2).bind fun bt211 => (some (bt211.1, bt211.2.1, bt211.2.2))) else (some (a1, t209, t210))) = some (r1, r2, r3) := H
 have A4 := Aside0.mk A40
 clear A40
 by_cases c5 : t208 = true
 ·subst c5
  have H1 : ((spec_l1PickInt.f s0_0 t209 t210 l2).bind fun bt211 => (some (bt211.1, bt211.2.1, bt211.2.2))) = some (r1, r2, r3) := by rw [if_pos rfl] at H; exact H
  clear H
  have H := H1
  clear H1
  replace H := Option.bind_eq_some_iff.mp H
  obtain ⟨⟨t211, t212, t213⟩, A60, H⟩ := H
  replace H : (some (t211, t212, t213)) = some (r1, r2, r3) := H
  have A6 := Aside0.mk A60
  clear A60
  simp only [Option.some.injEq, Prod.mk.injEq] at H
  obtain ⟨rfl, rfl, rfl⟩ := H
  go_enter Try.func75, Try.ntmps75
  go_wp2_with (first | ((with_reducible refine qw0 (f := 63) rfl ?_); refine qn1 (some 8) rfl rfl Try.func63 (by kernel_rfl) rfl #[.pointer (some ⟨g, 0, none⟩), .int .i64 40] rfl (by (try simp only [List.map_toArray, List.map_cons, List.map_nil]); first | done | rfl | (simp only [List.length_drop, List.length_take]; rfl)) ?_; (with_reducible refine (spec_l1Once.calls g s0_0 s0_1 s0_2 40 true t209 t210 w0 _ ?side1 ?side2 A4.out).mono ?_); (case side1 => repeat (first | (with_reducible first | exact HI0.out | apply IsS186.alloc | apply IsS186.drewN | apply IsS186.drew | apply IsS186.set_1 | apply IsS186.set_2) | exact HI0.out)); (case side2 => repeat (first | (with_reducible first | exact HB.out | apply qc0 | apply qa0 | apply qd0 | refine qi0 ?_ (IsS186.ge HI0.out)) | exact HB.out)); rintro e w7 ⟨rfl, hi, hb, hk⟩; refine ⟨_, rfl, ?_⟩; have n0_ := Aside0.mk (qn0.trans (by repeat (first | (with_reducible first | exact HK.out | apply qn0.set_ | apply qq0 | apply qs0 | apply qr0) | exact HK.out)) hk (.inl rfl)); have n1_ := Aside0.mk (hb); have n2_ := Aside0.mk (hi); clear HK; clear HB; clear HI0; have HK := n0_; have HB := n1_; have HI0 := n2_; clear n0_ n1_ n2_; (try clear hb); (try clear hb2); (try clear hk); (try clear hi)) | ((with_reducible refine qw0 (f := 64) rfl ?_); refine qn1 (some 11) rfl rfl Try.func64 (by kernel_rfl) rfl #[.pointer (some ⟨g, 0, none⟩), .slice A2 l2.length c2] rfl (by (try simp only [List.map_toArray, List.map_cons, List.map_nil]); first | done | rfl | (simp only [List.length_drop, List.length_take]; rfl)) ?_; (with_reducible refine (spec_l1PickInt.calls g s0_0 t209 t210 _ _ l2 t211 t212 t213 w0 _ ?side1 ?side2 ?side3 ?side4 ?side5 A6.out).mono ?_); (case side1 => repeat (first | (with_reducible first | exact HI0.out | apply IsS186.alloc | apply IsS186.drewN | apply IsS186.drew | apply IsS186.set_1 | apply IsS186.set_2) | exact HI0.out)); (case side2 => repeat (first | (with_reducible first | exact HB.out | apply qc0 | apply qa0 | apply qd0 | refine qi0 ?_ (IsS186.ge HI0.out)) | exact HB.out)); (case side3 => exact Kd.C_keep 0 HR2.out (by repeat (first | (with_reducible first | exact HK.out | apply qn0.set_ | apply qq0 | apply qs0 | apply qr0) | exact HK.out)) hf2); (case side4 => exact HC2.out); (case side5 => exact hf2); rintro e w8 ⟨rfl, hi, hb, hk⟩; refine ⟨_, rfl, ?_⟩; have n0_ := Aside0.mk (qn0.trans (by repeat (first | (with_reducible first | exact HK.out | apply qn0.set_ | apply qq0 | apply qs0 | apply qr0) | exact HK.out)) hk (.inl rfl)); have n1_ := Aside0.mk (hb); have n2_ := Aside0.mk (hi); clear HK; clear HB; clear HI0; have HK := n0_; have HB := n1_; have HI0 := n2_; clear n0_ n1_ n2_; (try clear hb); (try clear hb2); (try clear hk); (try clear hi)))
  go_ret
  exact ⟨by first | rfl | (simp [errW_none, errW_some] <;> rfl) | (simp [*, errW_none, errW_some] <;> rfl), by repeat (first | (with_reducible first | exact HI0.out | apply IsS186.alloc | apply IsS186.drewN | apply IsS186.drew | apply IsS186.set_1 | apply IsS186.set_2) | exact HI0.out), by repeat (first | (with_reducible first | exact HB.out | apply qc0 | apply qa0 | apply qd0 | refine qi0 ?_ (IsS186.ge HI0.out)) | exact HB.out), by repeat (first | (with_reducible first | exact HK.out | apply qn0.set_ | apply qq0 | apply qs0 | apply qr0) | exact HK.out)⟩
 replace c5 := Bool.eq_false_iff.mpr c5
 subst c5
 have H1 : (some (a1, t209, t210)) = some (r1, r2, r3) := by rw [if_neg (show ¬ (false = true) by decide)] at H; exact H
 clear H
 have H := H1
 clear H1
 simp only [Option.some.injEq, Prod.mk.injEq] at H
 obtain ⟨rfl, rfl, rfl⟩ := H
 go_enter Try.func75, Try.ntmps75
 go_wp2_with (first | ((with_reducible refine qw0 (f := 63) rfl ?_); refine qn1 (some 8) rfl rfl Try.func63 (by kernel_rfl) rfl #[.pointer (some ⟨g, 0, none⟩), .int .i64 40] rfl (by (try simp only [List.map_toArray, List.map_cons, List.map_nil]); first | done | rfl | (simp only [List.length_drop, List.length_take]; rfl)) ?_; (with_reducible refine (spec_l1Once.calls g s0_0 s0_1 s0_2 40 false t209 t210 w0 _ ?side1 ?side2 A4.out).mono ?_); (case side1 => repeat (first | (with_reducible first | exact HI0.out | apply IsS186.alloc | apply IsS186.drewN | apply IsS186.drew | apply IsS186.set_1 | apply IsS186.set_2) | exact HI0.out)); (case side2 => repeat (first | (with_reducible first | exact HB.out | apply qc0 | apply qa0 | apply qd0 | refine qi0 ?_ (IsS186.ge HI0.out)) | exact HB.out)); rintro e w9 ⟨rfl, hi, hb, hk⟩; refine ⟨_, rfl, ?_⟩; have n0_ := Aside0.mk (qn0.trans (by repeat (first | (with_reducible first | exact HK.out | apply qn0.set_ | apply qq0 | apply qs0 | apply qr0) | exact HK.out)) hk (.inl rfl)); have n1_ := Aside0.mk (hb); have n2_ := Aside0.mk (hi); clear HK; clear HB; clear HI0; have HK := n0_; have HB := n1_; have HI0 := n2_; clear n0_ n1_ n2_; (try clear hb); (try clear hb2); (try clear hk); (try clear hi)))
 go_ret
 exact ⟨by first | rfl | (simp [errW_none, errW_some] <;> rfl) | (simp [*, errW_none, errW_some] <;> rfl), by repeat (first | (with_reducible first | exact HI0.out | apply IsS186.alloc | apply IsS186.drewN | apply IsS186.drew | apply IsS186.set_1 | apply IsS186.set_2) | exact HI0.out), by repeat (first | (with_reducible first | exact HB.out | apply qc0 | apply qa0 | apply qd0 | refine qi0 ?_ (IsS186.ge HI0.out)) | exact HB.out), by repeat (first | (with_reducible first | exact HK.out | apply qn0.set_ | apply qq0 | apply qs0 | apply qr0) | exact HK.out)⟩

/-! ### spec_l1Pick: function 76 -/
def spec_l1Pick.f (s0_0 : List Int) (s0_1 : Int) (s0_2 : Int) (l1 : List ByteArray) : Option (ByteArray × Int × Int) := (spec_l1Below.f s0_0 s0_1 s0_2 (l1.length : Int)).bind fun bt214 => (if 0 ≤ bt214.1 then (if bt214.1 < (l1.length : Int) then (some (rdOf ByteArray.empty l1 bt214.1, bt214.2.1, bt214.2.2)) else (none)) else (none))
set_option maxHeartbeats 8000000 in
set_option maxRecDepth 100000 in
theorem spec_l1Pick.calls (g : Nat) (s0_0 : List Int) (s0_1 : Int) (s0_2 : Int) (A1 : Option Addr) (c1 : Nat) (l1 : List ByteArray) (r1 : ByteArray) (r2 : Int) (r3 : Int) (w0 w : World) (hI : IsS186 w0 w g s0_0 s0_1 s0_2) (hB : Below w0.heap.size w0 w) (hr1 : Kd.C Kd.string w A1 l1.length l1) (hc1 : l1.length ≤ c1) (hf1 : ∀ ad, A1 = some ad → 0 < l1.length → ad.block ≠ g) (h : spec_l1Pick.f s0_0 s0_1 s0_2 l1 = some (r1, r2, r3)) :
  Calls Try.prog 76 #[.pointer (some ⟨g, 0, none⟩), .slice A1 l1.length c1] w fun e w' => e = .returned (.string r1) ∧ IsS186 w0 w' g s0_0 r2 r3 ∧ Below w0.heap.size w0 w' ∧ qn0 w w' g none := by
 have HR1 := Aside0.mk hr1
 have HC1 := Aside0.mk hc1
 clear hr1 hc1
 have HI0 := Aside0.mk hI
 have HK := Aside0.mk (qn0.refl w g none)
 have HL := Aside0.mk hB.size
 clear hI
 have HW0 := Aside0.mk hB.size
 have HB := Aside0.mk hB
 clear hB
 have H : ((spec_l1Below.f s0_0 s0_1 s0_2 (l1.length : Int)).bind fun bt214 => (if 0 ≤ bt214.1 then (if bt214.1 < (l1.length : Int) then (some (rdOf ByteArray.empty l1 bt214.1, bt214.2.1, bt214.2.2)) else (none)) else (none))) = some (r1, r2, r3) := h
 clear h
 replace H := Option.bind_eq_some_iff.mp H
 obtain ⟨⟨t214, t215, t216⟩, A30, H⟩ := H
 replace H : (if 0 ≤ t214 then (if t214 < (l1.length : Int) then (some (rdOf ByteArray.empty l1 t214, t215, t216)) else (none)) else (none)) = some (r1, r2, r3) := H
 have A3 := Aside0.mk A30
 clear A30
 by_cases c4 : 0 ≤ t214
 case neg => rw [if_neg c4] at H; exact absurd H (by simp)
 rw [if_pos c4] at H
 have c4b0 : decide (0 ≤ t214) = true := decide_eq_true c4
 clear c4
 by_cases c5 : t214 < (l1.length : Int)
 case neg => rw [if_neg c5] at H; exact absurd H (by simp)
 rw [if_pos c5] at H
 have c5b0 : decide (t214 < (l1.length : Int)) = true := decide_eq_true c5
 clear c5
 simp only [Option.some.injEq, Prod.mk.injEq] at H
 obtain ⟨rfl, rfl, rfl⟩ := H
 go_enter Try.func76, Try.ntmps76
 go_wp2_with (first | ((with_reducible refine qw0 (f := 61) rfl ?_); refine qn1 (some 9) rfl rfl Try.func61 (by kernel_rfl) rfl #[.pointer (some ⟨g, 0, none⟩), .int .i64 (l1.length : Int)] rfl (by (try simp only [List.map_toArray, List.map_cons, List.map_nil]); first | done | rfl | (simp only [List.length_drop, List.length_take]; rfl)) ?_; (with_reducible refine (spec_l1Below.calls g s0_0 s0_1 s0_2 (l1.length : Int) t214 t215 t216 w0 _ ?side1 ?side2 A3.out).mono ?_); (case side1 => repeat (first | (with_reducible first | exact HI0.out | apply IsS186.alloc | apply IsS186.drewN | apply IsS186.drew | apply IsS186.set_1 | apply IsS186.set_2) | exact HI0.out)); (case side2 => repeat (first | (with_reducible first | exact HB.out | apply qc0 | apply qa0 | apply qd0 | refine qi0 ?_ (IsS186.ge HI0.out)) | exact HB.out)); rintro e w6 ⟨rfl, hi, hb, hk⟩; refine ⟨_, rfl, ?_⟩; have n0_ := Aside0.mk (qn0.trans (by repeat (first | (with_reducible first | exact HK.out | apply qn0.set_ | apply qq0 | apply qs0 | apply qr0) | exact HK.out)) hk (.inl rfl)); have n1_ := Aside0.mk (hb); have n2_ := Aside0.mk (hi); clear HK; clear HB; clear HI0; have HK := n0_; have HB := n1_; have HI0 := n2_; clear n0_ n1_ n2_; (try clear hb); (try clear hb2); (try clear hk); (try clear hi); have p217 : 0 ≤ (t214 : Int) := of_decide_eq_true (by first | (with_reducible assumption) | assumption); have q217 : t214 < (l1.length : Int) := of_decide_eq_true (by first | (with_reducible assumption) | assumption); obtain ⟨ad217, e217, hx217_0⟩ := Kd.at_string HR1.out t214 p217 q217; cases e217; replace hx217_0 := qh1 HK.out hx217_0 (by first | (rw [add_block]; exact hf1 _ rfl (by omega)) | exact hf1 _ rfl (by omega) | exact hf1 ad217 rfl (by omega)); replace p217 := eq_true p217; replace q217 := eq_true q217))
 go_ret
 exact ⟨by first | rfl | (simp [errW_none, errW_some] <;> rfl) | (simp [*, errW_none, errW_some] <;> rfl), by repeat (first | (with_reducible first | exact HI0.out | apply IsS186.alloc | apply IsS186.drewN | apply IsS186.drew | apply IsS186.set_1 | apply IsS186.set_2) | exact HI0.out), by repeat (first | (with_reducible first | exact HB.out | apply qc0 | apply qa0 | apply qd0 | refine qi0 ?_ (IsS186.ge HI0.out)) | exact HB.out), by repeat (first | (with_reducible first | exact HK.out | apply qn0.set_ | apply qq0 | apply qs0 | apply qr0) | exact HK.out)⟩

/-! ### spec_DrawQtyIn: function 18 -/
def spec_DrawQtyIn.j0 : Nat → List (S35) → List ByteArray → Int → Bool → List Int → Int → Int → Option ((List (S35)) × Int × ByteArray × ByteArray)
 | 0, _, _, _, _, _, _, _ => none
 | k + 1, x7, x8, x9, x31, x222000, x222001, x222002 => if x31 = true then (if 0 < (x7.length : Int) then ((spec_l1Below.f x222000 x222001 x222002 (x7.length : Int)).bind fun bt249 => (if 0 ≤ bt249.1 then (if bt249.1 < (x7.length : Int) then (some (x7, x9, (rd_T35 x7 0).f0, (rd_T35 x7 bt249.1).f1)) else (none)) else (none))) else (none)) else ((spec_l1Pick.f x222000 x222001 x222002 x8).bind fun bt253 => ((spec_l1Pick.f x222000 bt253.2.1 bt253.2.2 (([(⟨#[112, 99]⟩ : ByteArray), (⟨#[107, 103]⟩ : ByteArray), (⟨#[103]⟩ : ByteArray), (⟨#[]⟩ : ByteArray), (⟨#[112, 97, 108]⟩ : ByteArray)] : List ByteArray))).bind fun bt259 => (some (x7, x9, bt253.1, bt259.1))))
def spec_DrawQtyIn.f (k : Nat) (l0 : List Int) : Option ((List (S35)) × Int × ByteArray × ByteArray) := (spec_l1New.f k l0).bind fun bt218 => ((spec_l15DrawConvs.f k bt218.1 bt218.2.1 bt218.2.2).bind fun bt222 => ((some (([(⟨#[112, 99]⟩ : ByteArray), (⟨#[98, 111, 120]⟩ : ByteArray), (⟨#[112, 97, 108]⟩ : ByteArray), (⟨#[107, 103]⟩ : ByteArray), (⟨#[103]⟩ : ByteArray), (⟨#[116]⟩ : ByteArray), (⟨#[109]⟩ : ByteArray)] : List ByteArray) : List ByteArray)).bind fun y227 => ((spec_l1Below.f bt218.1 bt222.2.1 bt222.2.2 50).bind fun bt230 => ((spec_l1PickInt.f bt218.1 bt230.2.1 bt230.2.2 (([1, 12, 1000] : List Int))).bind fun bt236 => ((spec_l1Spoil.f bt218.1 bt236.2.1 bt236.2.2 (wrap64 (bt230.1 * bt236.1)) (([(-1), 1000000, 1000001] : List Int))).bind fun bt242 => (if (bt222.1.length : Int) > 0 then ((spec_l1Once.f bt218.1 bt242.2.1 bt242.2.2 4).bind fun bt245 => (spec_DrawQtyIn.j0 k bt222.1 y227 bt242.1 (!bt245.1) bt218.1 bt245.2.1 bt245.2.2)) else (spec_DrawQtyIn.j0 k bt222.1 y227 bt242.1 false bt218.1 bt242.2.1 bt242.2.2)))))))
theorem spec_DrawQtyIn.mono_l : ∀ k, (∀ y0 y1 y2 y3 y4 y5 y6, LeO (spec_DrawQtyIn.j0 k y0 y1 y2 y3 y4 y5 y6) (spec_DrawQtyIn.j0 (k + 1) y0 y1 y2 y3 y4 y5 y6))
 | 0 => fun _ _ _ _ _ _ _ r h => by simp [spec_DrawQtyIn.j0] at h
 | k + 1 => by
  have ih0 := spec_DrawQtyIn.mono_l k
  ·intro y0 y1 y2 y3 y4 y5 y6
   unfold spec_DrawQtyIn.j0
   repeat' first
   | (with_reducible exact ih0 _ _ _ _ _ _ _)
   | (with_reducible exact spec_l15DrawConvs.mono _ _ _ _)
   | (with_reducible exact spec_l1New.mono _ _)
   | (with_reducible exact LeO.refl _)
   | (with_reducible exact LeO.none _)
   | (with_reducible refine LeO.ite ?_ ?_)
   | (with_reducible refine LeO.bind ?_ (fun _ => ?_))
   | exact ih0 _ _ _ _ _ _ _
   | exact spec_l15DrawConvs.mono _ _ _ _
   | exact spec_l1New.mono _ _
   | exact LeO.none _
   | refine LeO.ite ?_ ?_
   | refine LeO.bind ?_ (fun _ => ?_)
theorem spec_DrawQtyIn.mono : ∀ a0 k, LeO (spec_DrawQtyIn.f k a0) (spec_DrawQtyIn.f (k + 1) a0) := by
 intro a0 k
 have ih0 := spec_DrawQtyIn.mono_l k
 unfold spec_DrawQtyIn.f
 repeat' first
   | (with_reducible exact ih0 _ _ _ _ _ _ _)
   | (with_reducible exact spec_l15DrawConvs.mono _ _ _ _)
   | (with_reducible exact spec_l1New.mono _ _)
   | (with_reducible exact LeO.refl _)
   | (with_reducible exact LeO.none _)
   | (with_reducible refine LeO.ite ?_ ?_)
   | (with_reducible refine LeO.bind ?_ (fun _ => ?_))
   | exact ih0 _ _ _ _ _ _ _
   | exact spec_l15DrawConvs.mono _ _ _ _
   | exact spec_l1New.mono _ _
   | exact LeO.none _
   | refine LeO.ite ?_ ?_
   | refine LeO.bind ?_ (fun _ => ?_)
def spec_DrawQtyIn.T6 : Bool × List (List Nat × List Nat) := (true, [([], []), ([], []), ([], []), ([2], [2]), ([3], [3]), ([4], [4]), ([], []), ([], []), ([], []), ([8], [8]), ([7, 9], [7, 9]), ([6, 10], [6, 10]), ([11], [11]), ([12], [12]), ([0, 10, 0], [0]), ([1, 14, 0, 1, 14], [1]), ([5, 15, 0, 1, 2, 3, 4, 5, 14, 15], [5]), ([13, 16, 0, 1, 2, 3, 4, 5, 6, 7, 8, 9, 10, 11, 12, 13, 14, 15, 16], [13])])
def spec_DrawQtyIn.B6 : List Nat := [0, 0, 0, 4, 12, 28, 0, 0, 0, 256, 896, 1984, 4032, 8128, 1921, 18307, 51135, 131071]
theorem spec_DrawQtyIn.tab6 : rtab .any (opsOf Try.f18 6) = spec_DrawQtyIn.T6 := by kernel_rfl
theorem spec_DrawQtyIn.bits6 : waitsOk spec_DrawQtyIn.T6.2 spec_DrawQtyIn.B6 = true := by kernel_rfl
set_option maxHeartbeats 8000000 in
set_option maxRecDepth 100000 in
theorem spec_DrawQtyIn.calls (k : Nat) (A0 : Option Addr) (c0 : Nat) (l0 : List Int) (r1 : List (S35)) (r2 : Int) (r3 : ByteArray) (r4 : ByteArray) (w : World) (hr0 : Kd.C (Kd.int .u8) w A0 l0.length l0) (hc0 : l0.length ≤ c0) (h : spec_DrawQtyIn.f k l0 = some (r1, r2, r3, r4)) :
  Calls Try.prog 18 #[.slice A0 l0.length c0] w fun e w' => ∃ v0_ : Value, e = .returned (.tuple #[v0_, .int .i64 r2, .string r3, .string r4]) ∧ Kd.R k35 35 w' w.heap.size (fun _ => True) v0_ r1 ∧ Below w.heap.size w w' := by
 have HR0 := Aside0.mk hr0
 have HC0 := Aside0.mk hc0
 clear hr0 hc0
 have HB := Aside0.mk (Below.refl w.heap.size w)
 have H : ((spec_l1New.f k l0).bind fun bt218 => ((spec_l15DrawConvs.f k bt218.1 bt218.2.1 bt218.2.2).bind fun bt222 => ((some (([(⟨#[112, 99]⟩ : ByteArray), (⟨#[98, 111, 120]⟩ : ByteArray), (⟨#[112, 97, 108]⟩ : ByteArray), (⟨#[107, 103]⟩ : ByteArray), (⟨#[103]⟩ : ByteArray), (⟨#[116]⟩ : ByteArray), (⟨#[109]⟩ : ByteArray)] : List ByteArray) : List ByteArray)).bind fun y227 => ((spec_l1Below.f bt218.1 bt222.2.1 bt222.2.2 50).bind fun bt230 => ((spec_l1PickInt.f bt218.1 bt230.2.1 bt230.2.2 (([1, 12, 1000] : List Int))).bind fun bt236 => ((spec_l1Spoil.f bt218.1 bt236.2.1 bt236.2.2 (wrap64 (bt230.1 * bt236.1)) (([(-1), 1000000, 1000001] : List Int))).bind fun bt242 => (if (bt222.1.length : Int) > 0 then ((spec_l1Once.f bt218.1 bt242.2.1 bt242.2.2 4).bind fun bt245 => (spec_DrawQtyIn.j0 k bt222.1 y227 bt242.1 (!bt245.1) bt218.1 bt245.2.1 bt245.2.2)) else (spec_DrawQtyIn.j0 k bt222.1 y227 bt242.1 false bt218.1 bt242.2.1 bt242.2.2)))))))) = some (r1, r2, r3, r4) := h
 clear h
 replace H := Option.bind_eq_some_iff.mp H
 obtain ⟨⟨t218, t219, t220⟩, A20, H⟩ := H
 replace H : ((spec_l15DrawConvs.f k t218 t219 t220).bind fun bt222 => ((some (([(⟨#[112, 99]⟩ : ByteArray), (⟨#[98, 111, 120]⟩ : ByteArray), (⟨#[112, 97, 108]⟩ : ByteArray), (⟨#[107, 103]⟩ : ByteArray), (⟨#[103]⟩ : ByteArray), (⟨#[116]⟩ : ByteArray), (⟨#[109]⟩ : ByteArray)] : List ByteArray) : List ByteArray)).bind fun y227 => ((spec_l1Below.f t218 bt222.2.1 bt222.2.2 50).bind fun bt230 => ((spec_l1PickInt.f t218 bt230.2.1 bt230.2.2 (([1, 12, 1000] : List Int))).bind fun bt236 => ((spec_l1Spoil.f t218 bt236.2.1 bt236.2.2 (wrap64 (bt230.1 * bt236.1)) (([(-1), 1000000, 1000001] : List Int))).bind fun bt242 => (if (bt222.1.length : Int) > 0 then ((spec_l1Once.f t218 bt242.2.1 bt242.2.2 4).bind fun bt245 => (spec_DrawQtyIn.j0 k bt222.1 y227 bt242.1 (!bt245.1) t218 bt245.2.1 bt245.2.2)) else (spec_DrawQtyIn.j0 k bt222.1 y227 bt242.1 false t218 bt242.2.1 bt242.2.2))))))) = some (r1, r2, r3, r4) := H
 have A2 := Aside0.mk A20
 clear A20
 replace H := Option.bind_eq_some_iff.mp H
 obtain ⟨⟨t222, t225, t226⟩, A30, H⟩ := H
 replace H : ((some (([(⟨#[112, 99]⟩ : ByteArray), (⟨#[98, 111, 120]⟩ : ByteArray), (⟨#[112, 97, 108]⟩ : ByteArray), (⟨#[107, 103]⟩ : ByteArray), (⟨#[103]⟩ : ByteArray), (⟨#[116]⟩ : ByteArray), (⟨#[109]⟩ : ByteArray)] : List ByteArray) : List ByteArray)).bind fun y227 => ((spec_l1Below.f t218 t225 t226 50).bind fun bt230 => ((spec_l1PickInt.f t218 bt230.2.1 bt230.2.2 (([1, 12, 1000] : List Int))).bind fun bt236 => ((spec_l1Spoil.f t218 bt236.2.1 bt236.2.2 (wrap64 (bt230.1 * bt236.1)) (([(-1), 1000000, 1000001] : List Int))).bind fun bt242 => (if (t222.length : Int) > 0 then ((spec_l1Once.f t218 bt242.2.1 bt242.2.2 4).bind fun bt245 => (spec_DrawQtyIn.j0 k t222 y227 bt242.1 (!bt245.1) t218 bt245.2.1 bt245.2.2)) else (spec_DrawQtyIn.j0 k t222 y227 bt242.1 false t218 bt242.2.1 bt242.2.2)))))) = some (r1, r2, r3, r4) := H
 have A3 := Aside0.mk A30
 clear A30
 obtain ⟨y227, hy227⟩ : ∃ y_ : List ByteArray, y_ = (([(⟨#[112, 99]⟩ : ByteArray), (⟨#[98, 111, 120]⟩ : ByteArray), (⟨#[112, 97, 108]⟩ : ByteArray), (⟨#[107, 103]⟩ : ByteArray), (⟨#[103]⟩ : ByteArray), (⟨#[116]⟩ : ByteArray), (⟨#[109]⟩ : ByteArray)] : List ByteArray)) := ⟨_, rfl⟩
 replace H : ((spec_l1Below.f t218 t225 t226 50).bind fun bt230 => ((spec_l1PickInt.f t218 bt230.2.1 bt230.2.2 (([1, 12, 1000] : List Int))).bind fun bt236 => ((spec_l1Spoil.f t218 bt236.2.1 bt236.2.2 (wrap64 (bt230.1 * bt236.1)) (([(-1), 1000000, 1000001] : List Int))).bind fun bt242 => (if (t222.length : Int) > 0 then ((spec_l1Once.f t218 bt242.2.1 bt242.2.2 4).bind fun bt245 => (spec_DrawQtyIn.j0 k t222 y227 bt242.1 (!bt245.1) t218 bt245.2.1 bt245.2.2)) else (spec_DrawQtyIn.j0 k t222 y227 bt242.1 false t218 bt242.2.1 bt242.2.2))))) = some (r1, r2, r3, r4) := by first | (rw [hy227]; with_reducible exact H) | (have H2_ := (Option.bind_some _ _).symm.trans H; rw [hy227]; with_reducible exact H2_) | (have H2_ := (Option.bind_some _ _).symm.trans H; with_reducible exact H2_) | with_reducible exact H | (rw [hy227]; exact H) | exact H
 have Ny227 := Aside0.mk hy227
 clear hy227
 replace H := Option.bind_eq_some_iff.mp H
 obtain ⟨⟨t230, t231, t232⟩, A40, H⟩ := H
 replace H : ((spec_l1PickInt.f t218 t231 t232 (([1, 12, 1000] : List Int))).bind fun bt236 => ((spec_l1Spoil.f t218 bt236.2.1 bt236.2.2 (wrap64 (t230 * bt236.1)) (([(-1), 1000000, 1000001] : List Int))).bind fun bt242 => (if (t222.length : Int) > 0 then ((spec_l1Once.f t218 bt242.2.1 bt242.2.2 4).bind fun bt245 => (spec_DrawQtyIn.j0 k t222 y227 bt242.1 (!bt245.1) t218 bt245.2.1 bt245.2.2)) else (spec_DrawQtyIn.j0 k t222 y227 bt242.1 false t218 bt242.2.1 bt242.2.2)))) = some (r1, r2, r3, r4) := H
 have A4 := Aside0.mk A40
 clear A40
 obtain ⟨y233, hy233⟩ : ∃ y_ : List Int, y_ = (([1, 12, 1000] : List Int)) := ⟨_, rfl⟩
 replace H : ((spec_l1PickInt.f t218 t231 t232 y233).bind fun bt236 => ((spec_l1Spoil.f t218 bt236.2.1 bt236.2.2 (wrap64 (t230 * bt236.1)) (([(-1), 1000000, 1000001] : List Int))).bind fun bt242 => (if (t222.length : Int) > 0 then ((spec_l1Once.f t218 bt242.2.1 bt242.2.2 4).bind fun bt245 => (spec_DrawQtyIn.j0 k t222 y227 bt242.1 (!bt245.1) t218 bt245.2.1 bt245.2.2)) else (spec_DrawQtyIn.j0 k t222 y227 bt242.1 false t218 bt242.2.1 bt242.2.2)))) = some (r1, r2, r3, r4) := by first | (rw [hy233]; with_reducible exact H) | (have H2_ := (Option.bind_some _ _).symm.trans H; rw [hy233]; with_reducible exact H2_) | (have H2_ := (Option.bind_some _ _).symm.trans H; with_reducible exact H2_) | with_reducible exact H | (rw [hy233]; exact H) | exact H
 have Ny233 := Aside0.mk hy233
 clear hy233
 replace H := Option.bind_eq_some_iff.mp H
 obtain ⟨⟨t236, t237, t238⟩, A50, H⟩ := H
 replace H : ((spec_l1Spoil.f t218 t237 t238 (wrap64 (t230 * t236)) (([(-1), 1000000, 1000001] : List Int))).bind fun bt242 => (if (t222.length : Int) > 0 then ((spec_l1Once.f t218 bt242.2.1 bt242.2.2 4).bind fun bt245 => (spec_DrawQtyIn.j0 k t222 y227 bt242.1 (!bt245.1) t218 bt245.2.1 bt245.2.2)) else (spec_DrawQtyIn.j0 k t222 y227 bt242.1 false t218 bt242.2.1 bt242.2.2))) = some (r1, r2, r3, r4) := H
 have A5 := Aside0.mk A50
 clear A50
 obtain ⟨y239, hy239⟩ : ∃ y_ : List Int, y_ = (([(-1), 1000000, 1000001] : List Int)) := ⟨_, rfl⟩
 replace H : ((spec_l1Spoil.f t218 t237 t238 (wrap64 (t230 * t236)) y239).bind fun bt242 => (if (t222.length : Int) > 0 then ((spec_l1Once.f t218 bt242.2.1 bt242.2.2 4).bind fun bt245 => (spec_DrawQtyIn.j0 k t222 y227 bt242.1 (!bt245.1) t218 bt245.2.1 bt245.2.2)) else (spec_DrawQtyIn.j0 k t222 y227 bt242.1 false t218 bt242.2.1 bt242.2.2))) = some (r1, r2, r3, r4) := by first | (rw [hy239]; with_reducible exact H) | (have H2_ := (Option.bind_some _ _).symm.trans H; rw [hy239]; with_reducible exact H2_) | (have H2_ := (Option.bind_some _ _).symm.trans H; with_reducible exact H2_) | with_reducible exact H | (rw [hy239]; exact H) | exact H
 have Ny239 := Aside0.mk hy239
 clear hy239
 replace H := Option.bind_eq_some_iff.mp H
 obtain ⟨⟨t242, t243, t244⟩, A60, H⟩ := H
 replace H : (if (t222.length : Int) > 0 then ((spec_l1Once.f t218 t243 t244 4).bind fun bt245 => (spec_DrawQtyIn.j0 k t222 y227 t242 (!bt245.1) t218 bt245.2.1 bt245.2.2)) else (spec_DrawQtyIn.j0 k t222 y227 t242 false t218 t243 t244)) = some (r1, r2, r3, r4) := H
 have A6 := Aside0.mk A60
 clear A60
 have HC7 := Aside0.mk H
 clear H
 go_enter Try.func18, Try.ntmps18
 go_upto_region 5 with (first | ((with_reducible refine qw0 (f := 59) rfl ?_); refine qn1 (some 11) rfl rfl Try.func59 (by kernel_rfl) rfl #[.slice A0 l0.length c0] rfl (by (try simp only [List.map_toArray, List.map_cons, List.map_nil]); first | done | rfl | (simp only [List.length_drop, List.length_take]; rfl)) ?_; (with_reducible refine (spec_l1New.calls k _ _ l0 t218 t219 t220 w _ ?side1 ?side2 ?side3 A2.out).mono ?_); (case side1 => repeat (first | (with_reducible first | exact HB.out | apply qc0 | apply qa0 | apply qd0) | exact HB.out)); (case side2 => exact HR0.out); (case side3 => exact HC0.out); rintro e w8 ⟨g221, rfl, hi, hb, hb2⟩; refine ⟨_, rfl, ?_⟩; have n0_ := Aside0.mk (hb); have n1_ := Aside0.mk (hi); clear HB; have HB := n0_; have HI221 := n1_; clear n0_ n1_; (try clear hb); (try clear hb2); (try clear hk); (try clear hi)) | ((with_reducible refine qw0 (f := 74) rfl ?_); refine qn1 (some 13) rfl rfl Try.func74 (by kernel_rfl) rfl #[.pointer (some ⟨g221, 0, none⟩)] rfl (by (try simp only [List.map_toArray, List.map_cons, List.map_nil]); first | done | rfl | (simp only [List.length_drop, List.length_take]; rfl)) ?_; (with_reducible refine (spec_l15DrawConvs.calls k g221 t218 t219 t220 t222 t225 t226 w _ ?side1 ?side2 A3.out).mono ?_); (case side1 => repeat (first | (with_reducible first | exact HI221.out | apply IsS186.alloc | apply IsS186.drewN | apply IsS186.drew | apply IsS186.set_1 | apply IsS186.set_2) | exact HI221.out)); (case side2 => repeat (first | (with_reducible first | exact HB.out | apply qc0 | apply qa0 | apply qd0 | refine qi0 ?_ (IsS186.ge HI221.out)) | exact HB.out)); rintro e w9 ⟨v223, rfl, ho0, hi, hb, hk⟩; refine ⟨_, rfl, ?_⟩; have n0_ := Aside0.mk (Kd.qp1 ho0 (ql0 (by repeat (first | (with_reducible first | exact HB.out | apply qc0 | apply qa0 | apply qd0 | refine qi0 ?_ (IsS186.ge HI221.out)) | exact HB.out)))); have n1_ := Aside0.mk (hb); have n2_ := Aside0.mk (hi); clear HB; clear HI221; have HO224 := n0_; have HB := n1_; have HI221 := n2_; clear n0_ n1_ n2_; (try clear hb); (try clear hb2); (try clear hk); (try clear hi); (try clear ho0)) | ((with_reducible refine qv0 (N := 14) rfl ?_); refine Kd.R_lit Kd.string _ 9 ?hg (N := 14) ?hd (xs := ([(⟨#[112, 99]⟩ : ByteArray), (⟨#[98, 111, 120]⟩ : ByteArray), (⟨#[112, 97, 108]⟩ : ByteArray), (⟨#[107, 103]⟩ : ByteArray), (⟨#[103]⟩ : ByteArray), (⟨#[116]⟩ : ByteArray), (⟨#[109]⟩ : ByteArray)] : List ByteArray)) (inner := [.string (⟨#[112, 99]⟩ : ByteArray), .string (⟨#[98, 111, 120]⟩ : ByteArray), .string (⟨#[112, 97, 108]⟩ : ByteArray), .string (⟨#[107, 103]⟩ : ByteArray), .string (⟨#[103]⟩ : ByteArray), .string (⟨#[116]⟩ : ByteArray), .string (⟨#[109]⟩ : ByteArray)]) (ok := fun _ => True) (okp := fun _ => True) ?hr ?hp (fun _ hk => hk) trivial (Below.refl _ _) (Nat.le_refl _) (by simp) ?_; (case hd => rfl); (case hg => rfl); (case hr => first | (go_simp; done) | (go_simp; rfl)); (case hp => exact (Reps.one (show Kd.M Kd.string _ _ _ (⟨#[112, 99]⟩ : ByteArray) [.string (⟨#[112, 99]⟩ : ByteArray)] from rfl) (Reps.one (show Kd.M Kd.string _ _ _ (⟨#[98, 111, 120]⟩ : ByteArray) [.string (⟨#[98, 111, 120]⟩ : ByteArray)] from rfl) (Reps.one (show Kd.M Kd.string _ _ _ (⟨#[112, 97, 108]⟩ : ByteArray) [.string (⟨#[112, 97, 108]⟩ : ByteArray)] from rfl) (Reps.one (show Kd.M Kd.string _ _ _ (⟨#[107, 103]⟩ : ByteArray) [.string (⟨#[107, 103]⟩ : ByteArray)] from rfl) (Reps.one (show Kd.M Kd.string _ _ _ (⟨#[103]⟩ : ByteArray) [.string (⟨#[103]⟩ : ByteArray)] from rfl) (Reps.one (show Kd.M Kd.string _ _ _ (⟨#[116]⟩ : ByteArray) [.string (⟨#[116]⟩ : ByteArray)] from rfl) (Reps.one (show Kd.M Kd.string _ _ _ (⟨#[109]⟩ : ByteArray) [.string (⟨#[109]⟩ : ByteArray)] from rfl) (Reps.none _ _))))))))); intro v228 w10 ho11 hb hg_ hnew_; clear hg_ hnew_; (first | rw [← Ny227.out] at ho11 | (simp only [Int.reduceToNat] at ho11; rw [← Ny227.out] at ho11)); have n0_ := Aside0.mk (Kd.qy0 (by (with_reducible repeat (first | apply Kd.qk0 | apply Kd.qj0 | apply Kd.qm0)); exact HO224.out) hb); have n1_ := Aside0.mk (Kd.qp1 ho11 (ql0 (by repeat (first | (with_reducible first | exact HB.out | apply qc0 | apply qa0 | apply qd0 | refine qi0 ?_ (IsS186.ge HI221.out)) | exact HB.out)))); have n2_ := Aside0.mk (IsS186.below (by repeat (first | (with_reducible first | exact HI221.out | apply IsS186.alloc | apply IsS186.drewN | apply IsS186.drew | apply IsS186.set_1 | apply IsS186.set_2) | exact HI221.out)) hb); have n3_ := Aside0.mk (qo0 (by repeat (first | (with_reducible first | exact HB.out | apply qc0 | apply qa0 | apply qd0 | refine qi0 ?_ (IsS186.ge HI221.out)) | exact HB.out)) hb); clear HO224; clear HI221; clear HB; have HO224 := n0_; have HO229 := n1_; have HI221 := n2_; have HB := n3_; clear n0_ n1_ n2_ n3_; clear hb ho11) | ((with_reducible refine qw0 (f := 61) rfl ?_); refine qn1 (some 17) rfl rfl Try.func61 (by kernel_rfl) rfl #[.pointer (some ⟨g221, 0, none⟩), .int .i64 50] rfl (by (try simp only [List.map_toArray, List.map_cons, List.map_nil]); first | done | rfl | (simp only [List.length_drop, List.length_take]; rfl)) ?_; (with_reducible refine (spec_l1Below.calls g221 t218 t225 t226 50 t230 t231 t232 w _ ?side1 ?side2 A4.out).mono ?_); (case side1 => repeat (first | (with_reducible first | exact HI221.out | apply IsS186.alloc | apply IsS186.drewN | apply IsS186.drew | apply IsS186.set_1 | apply IsS186.set_2) | exact HI221.out)); (case side2 => repeat (first | (with_reducible first | exact HB.out | apply qc0 | apply qa0 | apply qd0 | refine qi0 ?_ (IsS186.ge HI221.out)) | exact HB.out)); rintro e w12 ⟨rfl, hi, hb, hk⟩; refine ⟨_, rfl, ?_⟩; have n0_ := Aside0.mk (Kd.qz0 (Kd.ql1 (IsS186.apart (show IsS186 w _ g221 t218 t225 t226 from by repeat (first | (with_reducible first | exact HI221.out | apply IsS186.alloc | apply IsS186.drewN | apply IsS186.drew | apply IsS186.set_1 | apply IsS186.set_2) | exact HI221.out)) (by (with_reducible repeat (first | apply Kd.qk0 | apply Kd.qj0 | apply Kd.qm0)); exact HO224.out) (by decide)) hk (fun _ h => h.2)) (fun _ h => h.1)); have n1_ := Aside0.mk (Kd.qz0 (Kd.ql1 (IsS186.apart (show IsS186 w _ g221 t218 t225 t226 from by repeat (first | (with_reducible first | exact HI221.out | apply IsS186.alloc | apply IsS186.drewN | apply IsS186.drew | apply IsS186.set_1 | apply IsS186.set_2) | exact HI221.out)) (by (with_reducible repeat (first | apply Kd.qk0 | apply Kd.qj0 | apply Kd.qm0)); exact HO229.out) (by decide)) hk (fun _ h => h.2)) (fun _ h => h.1)); have n2_ := Aside0.mk (hb); have n3_ := Aside0.mk (hi); clear HO224; clear HO229; clear HB; clear HI221; have HO224 := n0_; have HO229 := n1_; have HB := n2_; have HI221 := n3_; clear n0_ n1_ n2_ n3_; (try clear hb); (try clear hb2); (try clear hk); (try clear hi)) | ((with_reducible refine qv0 (N := 19) rfl ?_); refine Kd.R_lit (Kd.int .i64) _ 3 ?hg (N := 19) ?hd (xs := ([1, 12, 1000] : List Int)) (inner := [.int .i64 1, .int .i64 12, .int .i64 1000]) (ok := fun _ => True) (okp := fun _ => True) ?hr ?hp (fun _ hk => hk) trivial (Below.refl _ _) (Nat.le_refl _) (by simp) ?_; (case hd => rfl); (case hg => rfl); (case hr => first | (go_simp; done) | (go_simp; rfl)); (case hp => exact (Reps.one (show Kd.M (Kd.int .i64) _ _ _ 1 [.int .i64 1] from rfl) (Reps.one (show Kd.M (Kd.int .i64) _ _ _ 12 [.int .i64 12] from rfl) (Reps.one (show Kd.M (Kd.int .i64) _ _ _ 1000 [.int .i64 1000] from rfl) (Reps.none _ _))))); intro v234 w13 ho14 hb hg_ hnew_; clear hg_ hnew_; (first | rw [← Ny233.out] at ho14 | (simp only [Int.reduceToNat] at ho14; rw [← Ny233.out] at ho14)); have n0_ := Aside0.mk (Kd.qy0 (by (with_reducible repeat (first | apply Kd.qk0 | apply Kd.qj0 | apply Kd.qm0)); exact HO224.out) hb); have n1_ := Aside0.mk (Kd.qy0 (by (with_reducible repeat (first | apply Kd.qk0 | apply Kd.qj0 | apply Kd.qm0)); exact HO229.out) hb); have n2_ := Aside0.mk (Kd.qp1 ho14 (ql0 (by repeat (first | (with_reducible first | exact HB.out | apply qc0 | apply qa0 | apply qd0 | refine qi0 ?_ (IsS186.ge HI221.out)) | exact HB.out)))); have n3_ := Aside0.mk (IsS186.below (by repeat (first | (with_reducible first | exact HI221.out | apply IsS186.alloc | apply IsS186.drewN | apply IsS186.drew | apply IsS186.set_1 | apply IsS186.set_2) | exact HI221.out)) hb); have n4_ := Aside0.mk (qo0 (by repeat (first | (with_reducible first | exact HB.out | apply qc0 | apply qa0 | apply qd0 | refine qi0 ?_ (IsS186.ge HI221.out)) | exact HB.out)) hb); clear HO224; clear HO229; clear HI221; clear HB; have HO224 := n0_; have HO229 := n1_; have HO235 := n2_; have HI221 := n3_; have HB := n4_; clear n0_ n1_ n2_ n3_ n4_; clear hb ho14; obtain ⟨Ao15, co15, eo15⟩ := Kd.qo1 HO235.out; subst eo15) | ((with_reducible refine qw0 (f := 64) rfl ?_); refine qn1 (some 20) rfl rfl Try.func64 (by kernel_rfl) rfl #[.pointer (some ⟨g221, 0, none⟩), .slice Ao15 y233.length co15] rfl (by (try simp only [List.map_toArray, List.map_cons, List.map_nil]); first | done | rfl | (simp only [List.length_drop, List.length_take]; rfl)) ?_; (with_reducible refine (spec_l1PickInt.calls g221 t218 t231 t232 _ _ y233 t236 t237 t238 w _ ?side1 ?side2 ?side3 ?side4 ?side5 A5.out).mono ?_); (case side1 => repeat (first | (with_reducible first | exact HI221.out | apply IsS186.alloc | apply IsS186.drewN | apply IsS186.drew | apply IsS186.set_1 | apply IsS186.set_2) | exact HI221.out)); (case side2 => repeat (first | (with_reducible first | exact HB.out | apply qc0 | apply qa0 | apply qd0 | refine qi0 ?_ (IsS186.ge HI221.out)) | exact HB.out)); (case side3 => repeat (first | exact (Kd.R_reads' HO235.out).2.2 | (with_reducible refine Kd.qw1 ?_ _) | (with_reducible refine Kd.qv1 ?_ _) | (with_reducible refine Kd.qb2 ?_))); (case side4 => exact (Kd.R_reads' HO235.out).2.1); (case side5 => exact far_slice (IsS186.own_ne HI221.out HO235.out (by decide))); rintro e w16 ⟨rfl, hi, hb, hk⟩; refine ⟨_, rfl, ?_⟩; have n0_ := Aside0.mk (Kd.qz0 (Kd.ql1 (IsS186.apart (show IsS186 w _ g221 t218 t231 t232 from by repeat (first | (with_reducible first | exact HI221.out | apply IsS186.alloc | apply IsS186.drewN | apply IsS186.drew | apply IsS186.set_1 | apply IsS186.set_2) | exact HI221.out)) (by (with_reducible repeat (first | apply Kd.qk0 | apply Kd.qj0 | apply Kd.qm0)); exact HO224.out) (by decide)) hk (fun _ h => h.2)) (fun _ h => h.1)); have n1_ := Aside0.mk (Kd.qz0 (Kd.ql1 (IsS186.apart (show IsS186 w _ g221 t218 t231 t232 from by repeat (first | (with_reducible first | exact HI221.out | apply IsS186.alloc | apply IsS186.drewN | apply IsS186.drew | apply IsS186.set_1 | apply IsS186.set_2) | exact HI221.out)) (by (with_reducible repeat (first | apply Kd.qk0 | apply Kd.qj0 | apply Kd.qm0)); exact HO229.out) (by decide)) hk (fun _ h => h.2)) (fun _ h => h.1)); have n2_ := Aside0.mk (Kd.qz0 (Kd.ql1 (IsS186.apart (show IsS186 w _ g221 t218 t231 t232 from by repeat (first | (with_reducible first | exact HI221.out | apply IsS186.alloc | apply IsS186.drewN | apply IsS186.drew | apply IsS186.set_1 | apply IsS186.set_2) | exact HI221.out)) (by (with_reducible repeat (first | apply Kd.qk0 | apply Kd.qj0 | apply Kd.qm0)); exact HO235.out) (by decide)) hk (fun _ h => h.2)) (fun _ h => h.1)); have n3_ := Aside0.mk (hb); have n4_ := Aside0.mk (hi); clear HO224; clear HO229; clear HO235; clear HB; clear HI221; have HO224 := n0_; have HO229 := n1_; have HO235 := n2_; have HB := n3_; have HI221 := n4_; clear n0_ n1_ n2_ n3_ n4_; (try clear hb); (try clear hb2); (try clear hk); (try clear hi)) | ((with_reducible refine qv0 (N := 22) rfl ?_); refine Kd.R_lit (Kd.int .i64) _ 3 ?hg (N := 22) ?hd (xs := ([(-1), 1000000, 1000001] : List Int)) (inner := [.int .i64 (-1), .int .i64 1000000, .int .i64 1000001]) (ok := fun _ => True) (okp := fun _ => True) ?hr ?hp (fun _ hk => hk) trivial (Below.refl _ _) (Nat.le_refl _) (by simp) ?_; (case hd => rfl); (case hg => rfl); (case hr => first | (go_simp; done) | (go_simp; rfl)); (case hp => exact (Reps.one (show Kd.M (Kd.int .i64) _ _ _ (-1) [.int .i64 (-1)] from rfl) (Reps.one (show Kd.M (Kd.int .i64) _ _ _ 1000000 [.int .i64 1000000] from rfl) (Reps.one (show Kd.M (Kd.int .i64) _ _ _ 1000001 [.int .i64 1000001] from rfl) (Reps.none _ _))))); intro v240 w17 ho18 hb hg_ hnew_; clear hg_ hnew_; (first | rw [← Ny239.out] at ho18 | (simp only [Int.reduceToNat] at ho18; rw [← Ny239.out] at ho18)); have n0_ := Aside0.mk (Kd.qy0 (by (with_reducible repeat (first | apply Kd.qk0 | apply Kd.qj0 | apply Kd.qm0)); exact HO224.out) hb); have n1_ := Aside0.mk (Kd.qy0 (by (with_reducible repeat (first | apply Kd.qk0 | apply Kd.qj0 | apply Kd.qm0)); exact HO229.out) hb); have n2_ := Aside0.mk (Kd.qm1 (by (with_reducible repeat (first | apply Kd.qk0 | apply Kd.qj0 | apply Kd.qm0)); exact HO235.out) (Kd.qz1 ho18) hb); have n3_ := Aside0.mk (Kd.qp1 (Kd.qy1 ho18 (Kd.R_lt (by (with_reducible repeat (first | apply Kd.qk0 | apply Kd.qj0 | apply Kd.qm0)); exact HO235.out))) (ql0 (by repeat (first | (with_reducible first | exact HB.out | apply qc0 | apply qa0 | apply qd0 | refine qi0 ?_ (IsS186.ge HI221.out)) | exact HB.out)))); have n4_ := Aside0.mk (IsS186.below (by repeat (first | (with_reducible first | exact HI221.out | apply IsS186.alloc | apply IsS186.drewN | apply IsS186.drew | apply IsS186.set_1 | apply IsS186.set_2) | exact HI221.out)) hb); have n5_ := Aside0.mk (qo0 (by repeat (first | (with_reducible first | exact HB.out | apply qc0 | apply qa0 | apply qd0 | refine qi0 ?_ (IsS186.ge HI221.out)) | exact HB.out)) hb); clear HO224; clear HO229; clear HO235; clear HI221; clear HB; have HO224 := n0_; have HO229 := n1_; have HO235 := n2_; have HO241 := n3_; have HI221 := n4_; have HB := n5_; clear n0_ n1_ n2_ n3_ n4_ n5_; clear hb ho18; obtain ⟨Ao19, co19, eo19⟩ := Kd.qo1 HO241.out; subst eo19) | ((with_reducible refine qw0 (f := 75) rfl ?_); refine qn1 (some 23) rfl rfl Try.func75 (by kernel_rfl) rfl #[.pointer (some ⟨g221, 0, none⟩), .int .i64 (wrap64 (t230 * t236)), .slice Ao19 y239.length co19] rfl (by (try simp only [List.map_toArray, List.map_cons, List.map_nil]); first | done | rfl | (simp only [List.length_drop, List.length_take]; rfl)) ?_; (with_reducible refine (spec_l1Spoil.calls g221 t218 t237 t238 (wrap64 (t230 * t236)) _ _ y239 t242 t243 t244 w _ ?side1 ?side2 ?side3 ?side4 ?side5 A6.out).mono ?_); (case side1 => repeat (first | (with_reducible first | exact HI221.out | apply IsS186.alloc | apply IsS186.drewN | apply IsS186.drew | apply IsS186.set_1 | apply IsS186.set_2) | exact HI221.out)); (case side2 => repeat (first | (with_reducible first | exact HB.out | apply qc0 | apply qa0 | apply qd0 | refine qi0 ?_ (IsS186.ge HI221.out)) | exact HB.out)); (case side3 => repeat (first | exact (Kd.R_reads' HO241.out).2.2 | (with_reducible refine Kd.qw1 ?_ _) | (with_reducible refine Kd.qv1 ?_ _) | (with_reducible refine Kd.qb2 ?_))); (case side4 => exact (Kd.R_reads' HO241.out).2.1); (case side5 => exact far_slice (IsS186.own_ne HI221.out HO241.out (by decide))); rintro e w20 ⟨rfl, hi, hb, hk⟩; refine ⟨_, rfl, ?_⟩; have n0_ := Aside0.mk (Kd.qz0 (Kd.ql1 (IsS186.apart (show IsS186 w _ g221 t218 t237 t238 from by repeat (first | (with_reducible first | exact HI221.out | apply IsS186.alloc | apply IsS186.drewN | apply IsS186.drew | apply IsS186.set_1 | apply IsS186.set_2) | exact HI221.out)) (by (with_reducible repeat (first | apply Kd.qk0 | apply Kd.qj0 | apply Kd.qm0)); exact HO224.out) (by decide)) hk (fun _ h => h.2)) (fun _ h => h.1)); have n1_ := Aside0.mk (Kd.qz0 (Kd.ql1 (IsS186.apart (show IsS186 w _ g221 t218 t237 t238 from by repeat (first | (with_reducible first | exact HI221.out | apply IsS186.alloc | apply IsS186.drewN | apply IsS186.drew | apply IsS186.set_1 | apply IsS186.set_2) | exact HI221.out)) (by (with_reducible repeat (first | apply Kd.qk0 | apply Kd.qj0 | apply Kd.qm0)); exact HO229.out) (by decide)) hk (fun _ h => h.2)) (fun _ h => h.1)); have n2_ := Aside0.mk (Kd.qz0 (Kd.ql1 (IsS186.apart (show IsS186 w _ g221 t218 t237 t238 from by repeat (first | (with_reducible first | exact HI221.out | apply IsS186.alloc | apply IsS186.drewN | apply IsS186.drew | apply IsS186.set_1 | apply IsS186.set_2) | exact HI221.out)) (by (with_reducible repeat (first | apply Kd.qk0 | apply Kd.qj0 | apply Kd.qm0)); exact HO235.out) (by decide)) hk (fun _ h => h.2)) (fun _ h => h.1)); have n3_ := Aside0.mk (Kd.qz0 (Kd.ql1 (IsS186.apart (show IsS186 w _ g221 t218 t237 t238 from by repeat (first | (with_reducible first | exact HI221.out | apply IsS186.alloc | apply IsS186.drewN | apply IsS186.drew | apply IsS186.set_1 | apply IsS186.set_2) | exact HI221.out)) (by (with_reducible repeat (first | apply Kd.qk0 | apply Kd.qj0 | apply Kd.qm0)); exact HO241.out) (by decide)) hk (fun _ h => h.2)) (fun _ h => h.1)); have n4_ := Aside0.mk (hb); have n5_ := Aside0.mk (hi); clear HO224; clear HO229; clear HO235; clear HO241; clear HB; clear HI221; have HO224 := n0_; have HO229 := n1_; have HO235 := n2_; have HO241 := n3_; have HB := n4_; have HI221 := n5_; clear n0_ n1_ n2_ n3_ n4_ n5_; (try clear hb); (try clear hb2); (try clear hk); (try clear hi)))
 (try simp only [Act.put, List.setIfInBounds_toArray, List.set_cons_zero, List.set_cons_succ])
 go_cut [31] (fun v31 wc => ∃ (kq : Nat) (x31_6 : Bool) (x222001_6 : Int) (x222002_6 : Int), v31 = .bool x31_6 ∧ Aside0 (spec_DrawQtyIn.j0 kq t222 y227 t242 x31_6 t218 x222001_6 x222002_6 = some (r1, r2, r3, r4)) ∧ Aside0 (kq ≤ k) ∧ Aside0 (Kd.R k35 35 wc w.heap.size (fun _ => True) v223 t222) ∧ Aside0 (Kd.R Kd.string 9 wc w.heap.size (fun _ => True) v228 y227) ∧ Aside0 (IsS186 w wc g221 t218 x222001_6 x222002_6) ∧ Aside0 (Below w.heap.size w wc))
 case first =>
  have H := HC7.out
  clear HC7
  by_cases c21 : (t222.length : Int) > 0
  ·rw [if_pos c21] at H
   have c21b0 : decide (0 < (t222.length : Int)) = true := decide_eq_true c21
   have c21b1 : decide (0 < t222.length) = true := decide_eq_true (by omega)
   clear c21
   (first | rw [c21b0] | (simp only [i64_w, i32_w]; rw [c21b0]) | skip)
   replace H := Option.bind_eq_some_iff.mp H
   obtain ⟨⟨t245, t246, t247⟩, A220, H⟩ := H
   replace H : (spec_DrawQtyIn.j0 k t222 y227 t242 (!t245) t218 t246 t247) = some (r1, r2, r3, r4) := H
   have A22 := Aside0.mk A220
   clear A220
   have H' := Aside0.mk H
   clear H
   obtain ⟨Ao23, co23, eo23⟩ := Kd.qo1 HO224.out
   subst eo23
   go_wp2_with (first | (go_at_call 63; (with_reducible refine (spec_l1Once.calls g221 t218 t243 t244 4 t245 t246 t247 w _ ?side1 ?side2 A22.out).mono ?_); (case side1 => repeat (first | (with_reducible first | exact HI221.out | apply IsS186.alloc | apply IsS186.drewN | apply IsS186.drew | apply IsS186.set_1 | apply IsS186.set_2) | exact HI221.out)); (case side2 => repeat (first | (with_reducible first | exact HB.out | apply qc0 | apply qa0 | apply qd0 | refine qi0 ?_ (IsS186.ge HI221.out)) | exact HB.out)); rintro e w24 ⟨rfl, hi, hb, hk⟩; have n0_ := Aside0.mk (Kd.qz0 (Kd.ql1 (IsS186.apart (show IsS186 w _ g221 t218 t243 t244 from by repeat (first | (with_reducible first | exact HI221.out | apply IsS186.alloc | apply IsS186.drewN | apply IsS186.drew | apply IsS186.set_1 | apply IsS186.set_2) | exact HI221.out)) (by (with_reducible repeat (first | apply Kd.qk0 | apply Kd.qj0 | apply Kd.qm0)); exact HO224.out) (by decide)) hk (fun _ h => h.2)) (fun _ h => h.1)); have n1_ := Aside0.mk (Kd.qz0 (Kd.ql1 (IsS186.apart (show IsS186 w _ g221 t218 t243 t244 from by repeat (first | (with_reducible first | exact HI221.out | apply IsS186.alloc | apply IsS186.drewN | apply IsS186.drew | apply IsS186.set_1 | apply IsS186.set_2) | exact HI221.out)) (by (with_reducible repeat (first | apply Kd.qk0 | apply Kd.qj0 | apply Kd.qm0)); exact HO229.out) (by decide)) hk (fun _ h => h.2)) (fun _ h => h.1)); have n2_ := Aside0.mk (Kd.qz0 (Kd.ql1 (IsS186.apart (show IsS186 w _ g221 t218 t243 t244 from by repeat (first | (with_reducible first | exact HI221.out | apply IsS186.alloc | apply IsS186.drewN | apply IsS186.drew | apply IsS186.set_1 | apply IsS186.set_2) | exact HI221.out)) (by (with_reducible repeat (first | apply Kd.qk0 | apply Kd.qj0 | apply Kd.qm0)); exact HO235.out) (by decide)) hk (fun _ h => h.2)) (fun _ h => h.1)); have n3_ := Aside0.mk (Kd.qz0 (Kd.ql1 (IsS186.apart (show IsS186 w _ g221 t218 t243 t244 from by repeat (first | (with_reducible first | exact HI221.out | apply IsS186.alloc | apply IsS186.drewN | apply IsS186.drew | apply IsS186.set_1 | apply IsS186.set_2) | exact HI221.out)) (by (with_reducible repeat (first | apply Kd.qk0 | apply Kd.qj0 | apply Kd.qm0)); exact HO241.out) (by decide)) hk (fun _ h => h.2)) (fun _ h => h.1)); have n4_ := Aside0.mk (hb); have n5_ := Aside0.mk (hi); clear HO224; clear HO229; clear HO235; clear HO241; clear HB; clear HI221; have HO224 := n0_; have HO229 := n1_; have HO235 := n2_; have HO241 := n3_; have HB := n4_; have HI221 := n5_; clear n0_ n1_ n2_ n3_ n4_ n5_; (try clear hb); (try clear hb2); (try clear hk); (try clear hi)))
   go_meet
   case rel => exact ⟨_, (!t245), (t246), (t247), (by first | rfl | (simp; done) | (simp [*]; done)), H', ⟨by first | omega | exact Nat.le_refl _⟩, ⟨by (with_reducible repeat (first | apply Kd.qk0 | apply Kd.qj0 | apply Kd.qm0)); exact HO224.out⟩, ⟨by (with_reducible repeat (first | apply Kd.qk0 | apply Kd.qj0 | apply Kd.qm0)); exact HO229.out⟩, ⟨by repeat (first | (with_reducible first | exact HI221.out | apply IsS186.alloc | apply IsS186.drewN | apply IsS186.drew | apply IsS186.set_1 | apply IsS186.set_2) | exact HI221.out)⟩, ⟨by repeat (first | (with_reducible first | exact HB.out | apply qc0 | apply qa0 | apply qd0 | refine qi0 ?_ (IsS186.ge HI221.out)) | exact HB.out)⟩⟩
  rw [if_neg c21] at H
  have c21b0 : decide (0 < (t222.length : Int)) = false := decide_eq_false c21
  have c21b1 : decide (0 < t222.length) = false := decide_eq_false (by omega)
  clear c21
  (first | rw [c21b0] | (simp only [i64_w, i32_w]; rw [c21b0]) | skip)
  have H' := Aside0.mk H
  clear H
  obtain ⟨Ao25, co25, eo25⟩ := Kd.qo1 HO224.out
  subst eo25
  go_wp2
  go_meet
  case rel => exact ⟨_, (false), (t243), (t244), (by first | rfl | (simp; done) | (simp [*]; done)), H', ⟨by first | omega | exact Nat.le_refl _⟩, ⟨by (with_reducible repeat (first | apply Kd.qk0 | apply Kd.qj0 | apply Kd.qm0)); exact HO224.out⟩, ⟨by (with_reducible repeat (first | apply Kd.qk0 | apply Kd.qj0 | apply Kd.qm0)); exact HO229.out⟩, ⟨by repeat (first | (with_reducible first | exact HI221.out | apply IsS186.alloc | apply IsS186.drewN | apply IsS186.drew | apply IsS186.set_1 | apply IsS186.set_2) | exact HI221.out)⟩, ⟨by repeat (first | (with_reducible first | exact HB.out | apply qc0 | apply qa0 | apply qd0 | refine qi0 ?_ (IsS186.ge HI221.out)) | exact HB.out)⟩⟩
 case rest =>
  clear HC7
  try clear c1
  try clear c2
  try clear p2
  try clear c5
  try clear c6
  try clear p6
  try clear c7
  try clear c18
  try clear c21
  try clear c21b0
  try clear c21b1
  obtain ⟨kq, x31_6, x222001_6, x222002_6, rfl, HA, HJ6, HO_7, HO_8, HI221, HB⟩ := hcut
  cases kq with
  | zero => exact absurd HA.out (by simp [spec_DrawQtyIn.j0])
  | succ kj6 =>
   have H := HA.out
   clear HA
   simp only [spec_DrawQtyIn.j0] at H
   by_cases c26 : x31_6 = true
   ·subst c26
    have H1 : (if 0 < (t222.length : Int) then ((spec_l1Below.f t218 x222001_6 x222002_6 (t222.length : Int)).bind fun bt249 => (if 0 ≤ bt249.1 then (if bt249.1 < (t222.length : Int) then (some (t222, t242, (rd_T35 t222 0).f0, (rd_T35 t222 bt249.1).f1)) else (none)) else (none))) else (none)) = some (r1, r2, r3, r4) := by rw [if_pos rfl] at H; exact H
    clear H
    have H := H1
    clear H1
    by_cases c27 : 0 < (t222.length : Int)
    case neg => rw [if_neg c27] at H; exact absurd H (by simp)
    rw [if_pos c27] at H
    have c27b0 : decide (0 < (t222.length : Int)) = true := decide_eq_true c27
    have c27b1 : decide (0 < t222.length) = true := decide_eq_true (by omega)
    clear c27
    replace H := Option.bind_eq_some_iff.mp H
    obtain ⟨⟨t249, t250, t251⟩, A280, H⟩ := H
    replace H : (if 0 ≤ t249 then (if t249 < (t222.length : Int) then (some (t222, t242, (rd_T35 t222 0).f0, (rd_T35 t222 t249).f1)) else (none)) else (none)) = some (r1, r2, r3, r4) := H
    have A28 := Aside0.mk A280
    clear A280
    by_cases c29 : 0 ≤ t249
    case neg => rw [if_neg c29] at H; exact absurd H (by simp)
    rw [if_pos c29] at H
    have c29b0 : decide (0 ≤ t249) = true := decide_eq_true c29
    clear c29
    by_cases c30 : t249 < (t222.length : Int)
    case neg => rw [if_neg c30] at H; exact absurd H (by simp)
    rw [if_pos c30] at H
    have c30b0 : decide (t249 < (t222.length : Int)) = true := decide_eq_true c30
    clear c30
    simp only [Option.some.injEq, Prod.mk.injEq] at H
    obtain ⟨rfl, rfl, rfl, rfl⟩ := H
    try go_wp2
    have n0_ := Aside0.mk (Kd.qm0 HO_7.out)
    have n1_ := Aside0.mk (Kd.qm0 HO_8.out)
    have n2_ := Aside0.mk (IsS186.drew HI221.out)
    have n3_ := Aside0.mk (qd0 HB.out)
    clear HO_7
    clear HO_8
    clear HI221
    clear HB
    have HO_7 := n0_
    have HO_8 := n1_
    have HI221 := n2_
    have HB := n3_
    clear n0_ n1_ n2_ n3_
    obtain ⟨Ao32, co32, eo32⟩ := Kd.qo1 HO_7.out
    (first | subst eo32 | (injection eo32 with f1_ f2_ f3_; have f4_ := f1_.symm; have f5_ := f3_.symm; clear f1_ f2_ f3_; subst f4_; subst f5_))
    have p248 : 0 ≤ (0 : Int) := (by omega)
    have q248 : 0 < (t222.length : Int) := of_decide_eq_true (by first | (with_reducible assumption) | assumption)
    obtain ⟨ad248, e248, hx248_0, hx248_1, hx248_2, hx248_3⟩ := at_T35 (Kd.R_reads' HO_7.out).2.2 0 p248 q248
    cases e248
    have qi248 : (0 < t222.length) = True := eq_true (by omega)
    (try rw [show ((0 : Int)).toNat = 0 from rfl] at hx248_0)
    (try rw [show 0 * 4 = 0 from rfl] at hx248_0)
    (try rw [Addr.add_zero'] at hx248_0)
    (try rw [show ((0 : Int)).toNat = 0 from rfl] at hx248_1)
    (try rw [show 0 * 4 = 0 from rfl] at hx248_1)
    (try rw [Addr.add_zero'] at hx248_1)
    (try rw [show ((0 : Int)).toNat = 0 from rfl] at hx248_2)
    (try rw [show 0 * 4 = 0 from rfl] at hx248_2)
    (try rw [Addr.add_zero'] at hx248_2)
    (try rw [show ((0 : Int)).toNat = 0 from rfl] at hx248_3)
    (try rw [show 0 * 4 = 0 from rfl] at hx248_3)
    (try rw [Addr.add_zero'] at hx248_3)
    replace p248 := eq_true p248
    replace q248 := eq_true q248
    have p252 : 0 ≤ (t249 : Int) := of_decide_eq_true (by first | (with_reducible assumption) | assumption)
    have q252 : t249 < (t222.length : Int) := of_decide_eq_true (by first | (with_reducible assumption) | assumption)
    obtain ⟨ad252, e252, hx252_0, hx252_1, hx252_2, hx252_3⟩ := at_T35 (Kd.R_reads' HO_7.out).2.2 t249 p252 q252
    obtain rfl : ad248 = ad252 := (by injection e252)
    replace p252 := eq_true p252
    replace q252 := eq_true q252
    refine start_ (n := 18) (S := fun w' => w'.cell? ad248 = some (.string ((rd_T35 t222 0).f0)) ∧ w'.cell? ⟨ad248.block, ad248.off + 1, none⟩ = some (.string ((rd_T35 t222 0).f1)) ∧ w'.cell? ⟨ad248.block, ad248.off + 2, none⟩ = some (.int .i64 ((rd_T35 t222 0).f2)) ∧ w'.cell? ⟨ad248.block, ad248.off + 3, none⟩ = some (.int .i64 ((rd_T35 t222 0).f3)) ∧ w'.cell? (ad248.add ((t249).toNat * 4)) = some (.string ((rd_T35 t222 t249).f0)) ∧ w'.cell? ⟨(ad248.add ((t249).toNat * 4)).block, (ad248.add ((t249).toNat * 4)).off + 1, none⟩ = some (.string ((rd_T35 t222 t249).f1)) ∧ w'.cell? ⟨(ad248.add ((t249).toNat * 4)).block, (ad248.add ((t249).toNat * 4)).off + 2, none⟩ = some (.int .i64 ((rd_T35 t222 t249).f2)) ∧ w'.cell? ⟨(ad248.add ((t249).toNat * 4)).block, (ad248.add ((t249).toNat * 4)).off + 3, none⟩ = some (.int .i64 ((rd_T35 t222 t249).f3))) (ds := []) (rb5 [0, 18]) (by kernel_rfl) rfl rfl ⟨hx248_0, hx248_1, hx248_2, hx248_3, hx252_0, hx252_1, hx252_2, hx252_3⟩ (fun hHeld => ?_); refine with_tabW spec_DrawQtyIn.tab6 spec_DrawQtyIn.bits6 (fun HT_ HW_ => ?_)
    generalize wc.drew = w31 at HO_7 HO_8 HI221 HB hx248_0 hx248_1 hx248_2 hx248_3 hx252_0 hx252_1 hx252_2 hx252_3 hHeld ⊢
    refine pure_ (i := 0) (N := some 32) (v := ?_) (a' := ?_) (rb5 [1, 17]) rfl rfl (qu1 HT_.out (by kernel_rfl)) (fun _ _ _ h => h) (Or.inl ⟨by rfl, ?_⟩) ?_ ?_
    rotate_left
    ·intro w'
     go_simp
     with_reducible rfl
    rotate_left
    ·simp only [Act.put, List.setIfInBounds_toArray, List.set_cons_zero, List.set_cons_succ, i64_w, i32_w]
     rfl
    refine pure_ (i := 1) (N := some 33) (v := ?_) (a' := ?_) (rb5 [2, 16]) rfl rfl (qu1 HT_.out (by kernel_rfl)) (fun _ _ _ h => h) (Or.inl ⟨by rfl, ?_⟩) ?_ ?_
    rotate_left
    ·intro w'
     go_simp
     with_reducible rfl
    rotate_left
    ·simp only [Act.put, List.setIfInBounds_toArray, List.set_cons_zero, List.set_cons_succ, i64_w, i32_w]
     rfl
    refine pure_ (i := 2) (N := some 34) (v := ?_) (a' := ?_) (rb5 [3, 15]) rfl rfl (qu1 HT_.out (by kernel_rfl)) (fun _ _ _ h => h) (Or.inl ⟨by rfl, ?_⟩) ?_ ?_
    rotate_left
    ·intro w'
     go_simp
     with_reducible rfl
    rotate_left
    ·simp only [Act.put, List.setIfInBounds_toArray, List.set_cons_zero, List.set_cons_succ, i64_w, i32_w]
     rfl
    refine pure_ (i := 3) (N := some 35) (v := ?_) (a' := ?_) (rb5 [4, 14]) rfl rfl (qu1 HT_.out (by kernel_rfl)) (fun _ _ _ h => h) (Or.inl ⟨by rfl, ?_⟩) ?_ ?_
    rotate_left
    ·intro w'
     go_simp
     with_reducible rfl
    rotate_left
    ·simp only [Act.put, List.setIfInBounds_toArray, List.set_cons_zero, List.set_cons_succ, i64_w, i32_w]
     rfl
    refine pure_ (i := 4) (N := some 36) (v := ?_) (a' := ?_) (rb5 [5, 13]) rfl rfl (qu1 HT_.out (by kernel_rfl)) (fun _ _ _ h => h) (Or.inl ⟨by rfl, ?_⟩) ?_ ?_
    rotate_left
    ·intro w'
     go_simp
     with_reducible rfl
    rotate_left
    ·simp only [Act.put, List.setIfInBounds_toArray, List.set_cons_zero, List.set_cons_succ, i64_w, i32_w]
     rfl
    refine pure_ (i := 6) (N := some 38) (v := ?_) (a' := ?_) (rb5 [5, 1, 1, 11]) rfl rfl (qu1 HT_.out (by kernel_rfl)) (fun _ _ _ h => h) (Or.inl ⟨by rfl, ?_⟩) ?_ ?_
    rotate_left
    ·intro w'
     go_simp
     with_reducible rfl
    rotate_left
    ·simp only [Act.put, List.setIfInBounds_toArray, List.set_cons_zero, List.set_cons_succ, i64_w, i32_w]
     rfl
    refine pure_ (i := 7) (N := some 39) (v := ?_) (a' := ?_) (rb5 [5, 1, 2, 10]) rfl rfl (qu1 HT_.out (by kernel_rfl)) (fun _ _ _ h => h) (Or.inl ⟨by rfl, ?_⟩) ?_ ?_
    rotate_left
    ·intro w'
     go_simp
     with_reducible rfl
    rotate_left
    ·simp only [Act.put, List.setIfInBounds_toArray, List.set_cons_zero, List.set_cons_succ, i64_w, i32_w]
     rfl
    refine pure_ (i := 8) (N := some 40) (v := ?_) (a' := ?_) (rb5 [5, 1, 3, 9]) rfl rfl (qu1 HT_.out (by kernel_rfl)) (fun _ _ _ h => h) (Or.inl ⟨by rfl, ?_⟩) ?_ ?_
    rotate_left
    ·intro w'
     go_simp
     with_reducible rfl
    rotate_left
    ·simp only [Act.put, List.setIfInBounds_toArray, List.set_cons_zero, List.set_cons_succ, i64_w, i32_w]
     rfl
    refine pure_ (i := 9) (N := some 41) (v := ?_) (a' := ?_) (rb5 [5, 1, 4, 8]) rfl rfl (qu1 HT_.out (by kernel_rfl)) (fun _ _ _ h => h) (Or.inl ⟨by rfl, ?_⟩) ?_ ?_
    rotate_left
    ·intro w'
     go_simp
     with_reducible rfl
    rotate_left
    ·simp only [Act.put, List.setIfInBounds_toArray, List.set_cons_zero, List.set_cons_succ, i64_w, i32_w]
     rfl
    refine take_ (i := 5) (N := some 37) (v := ?_) (a' := ?_) (rb5 [10, 8]) rfl rfl (take_ofW HT_.out HW_.out (by kernel_rfl)) (fun _ _ _ h => h) (Or.inl ⟨by rfl, ?_⟩) hHeld ?_ ?_
    rotate_left
    ·rintro w' ⟨s0, s1, s2, s3, s4, s5, s6, s7⟩
     go_simp
     with_reducible rfl
    rotate_left
    ·simp only [Act.put, List.setIfInBounds_toArray, List.set_cons_zero, List.set_cons_succ, i64_w, i32_w]
     rfl
    refine one_ (i := 10) (N := some 42) (rb5 [11, 7]) rfl rfl (one_of HT_.out (by kernel_rfl)) (by decide) (fun K hK => ?_)
    refine goes_ Try.func61 (by kernel_rfl) rfl #[.pointer (some ⟨g221, 0, none⟩), .int .i64 (t222.length : Int)] (by rfl) rfl rfl (by (try simp only [List.map_toArray, List.map_cons, List.map_nil]); first | done | rfl | (simp only [List.length_drop, List.length_take]; rfl)) ?_
    with_reducible refine (spec_l1Below.calls g221 t218 x222001_6 x222002_6 (t222.length : Int) t249 t250 t251 w _ ?side1 ?side2 A28.out).mono ?_
    (case side1 => repeat (first | (with_reducible first | exact HI221.out | apply IsS186.alloc | apply IsS186.drewN | apply IsS186.drew | apply IsS186.set_1 | apply IsS186.set_2) | exact HI221.out))
    (case side2 => repeat (first | (with_reducible first | exact HB.out | apply qc0 | apply qa0 | apply qd0 | refine qi0 ?_ (IsS186.ge HI221.out)) | exact HB.out))
    rintro e w33 ⟨rfl, hi, hb, hk⟩
    have HS0_ := qh1 hk (hHeld.1) (by first | (rw [add_block]; exact Kd.qt0 (IsS186.own_ne HI221.out HO_7.out (by decide))) | (show (Addr.add _ _).block ≠ _; rw [add_block]; exact Kd.qt0 (IsS186.own_ne HI221.out HO_7.out (by decide))) | exact Kd.qt0 (IsS186.own_ne HI221.out HO_7.out (by decide)) | (have b_ := Kd.qt0 (IsS186.own_ne HI221.out HO_7.out (by decide)); exact b_))
    have HS1_ := qh1 hk (hHeld.2.1) (by first | (rw [add_block]; exact Kd.qt0 (IsS186.own_ne HI221.out HO_7.out (by decide))) | (show (Addr.add _ _).block ≠ _; rw [add_block]; exact Kd.qt0 (IsS186.own_ne HI221.out HO_7.out (by decide))) | exact Kd.qt0 (IsS186.own_ne HI221.out HO_7.out (by decide)) | (have b_ := Kd.qt0 (IsS186.own_ne HI221.out HO_7.out (by decide)); exact b_))
    have HS2_ := qh1 hk (hHeld.2.2.1) (by first | (rw [add_block]; exact Kd.qt0 (IsS186.own_ne HI221.out HO_7.out (by decide))) | (show (Addr.add _ _).block ≠ _; rw [add_block]; exact Kd.qt0 (IsS186.own_ne HI221.out HO_7.out (by decide))) | exact Kd.qt0 (IsS186.own_ne HI221.out HO_7.out (by decide)) | (have b_ := Kd.qt0 (IsS186.own_ne HI221.out HO_7.out (by decide)); exact b_))
    have HS3_ := qh1 hk (hHeld.2.2.2.1) (by first | (rw [add_block]; exact Kd.qt0 (IsS186.own_ne HI221.out HO_7.out (by decide))) | (show (Addr.add _ _).block ≠ _; rw [add_block]; exact Kd.qt0 (IsS186.own_ne HI221.out HO_7.out (by decide))) | exact Kd.qt0 (IsS186.own_ne HI221.out HO_7.out (by decide)) | (have b_ := Kd.qt0 (IsS186.own_ne HI221.out HO_7.out (by decide)); exact b_))
    have HS4_ := qh1 hk (hHeld.2.2.2.2.1) (by first | (rw [add_block]; exact Kd.qt0 (IsS186.own_ne HI221.out HO_7.out (by decide))) | (show (Addr.add _ _).block ≠ _; rw [add_block]; exact Kd.qt0 (IsS186.own_ne HI221.out HO_7.out (by decide))) | exact Kd.qt0 (IsS186.own_ne HI221.out HO_7.out (by decide)) | (have b_ := Kd.qt0 (IsS186.own_ne HI221.out HO_7.out (by decide)); exact b_))
    have HS5_ := qh1 hk (hHeld.2.2.2.2.2.1) (by first | (rw [add_block]; exact Kd.qt0 (IsS186.own_ne HI221.out HO_7.out (by decide))) | (show (Addr.add _ _).block ≠ _; rw [add_block]; exact Kd.qt0 (IsS186.own_ne HI221.out HO_7.out (by decide))) | exact Kd.qt0 (IsS186.own_ne HI221.out HO_7.out (by decide)) | (have b_ := Kd.qt0 (IsS186.own_ne HI221.out HO_7.out (by decide)); exact b_))
    have HS6_ := qh1 hk (hHeld.2.2.2.2.2.2.1) (by first | (rw [add_block]; exact Kd.qt0 (IsS186.own_ne HI221.out HO_7.out (by decide))) | (show (Addr.add _ _).block ≠ _; rw [add_block]; exact Kd.qt0 (IsS186.own_ne HI221.out HO_7.out (by decide))) | exact Kd.qt0 (IsS186.own_ne HI221.out HO_7.out (by decide)) | (have b_ := Kd.qt0 (IsS186.own_ne HI221.out HO_7.out (by decide)); exact b_))
    have HS7_ := qh1 hk (hHeld.2.2.2.2.2.2.2) (by first | (rw [add_block]; exact Kd.qt0 (IsS186.own_ne HI221.out HO_7.out (by decide))) | (show (Addr.add _ _).block ≠ _; rw [add_block]; exact Kd.qt0 (IsS186.own_ne HI221.out HO_7.out (by decide))) | exact Kd.qt0 (IsS186.own_ne HI221.out HO_7.out (by decide)) | (have b_ := Kd.qt0 (IsS186.own_ne HI221.out HO_7.out (by decide)); exact b_))
    refine ⟨_, rfl, ?_⟩
    have n0_ := Aside0.mk (Kd.qz0 (Kd.ql1 (IsS186.apart (show IsS186 w _ g221 t218 x222001_6 x222002_6 from by repeat (first | (with_reducible first | exact HI221.out | apply IsS186.alloc | apply IsS186.drewN | apply IsS186.drew | apply IsS186.set_1 | apply IsS186.set_2) | exact HI221.out)) (by (with_reducible repeat (first | apply Kd.qk0 | apply Kd.qj0 | apply Kd.qm0)); exact HO_7.out) (by decide)) hk (fun _ h => h.2)) (fun _ h => h.1))
    have n1_ := Aside0.mk (Kd.qz0 (Kd.ql1 (IsS186.apart (show IsS186 w _ g221 t218 x222001_6 x222002_6 from by repeat (first | (with_reducible first | exact HI221.out | apply IsS186.alloc | apply IsS186.drewN | apply IsS186.drew | apply IsS186.set_1 | apply IsS186.set_2) | exact HI221.out)) (by (with_reducible repeat (first | apply Kd.qk0 | apply Kd.qj0 | apply Kd.qm0)); exact HO_8.out) (by decide)) hk (fun _ h => h.2)) (fun _ h => h.1))
    have n2_ := Aside0.mk (hb)
    have n3_ := Aside0.mk (hi)
    clear HO_7
    clear HO_8
    clear HB
    clear HI221
    have HO_7 := n0_
    have HO_8 := n1_
    have HB := n2_
    have HI221 := n3_
    clear n0_ n1_ n2_ n3_
    (try clear hb)
    (try clear hb2)
    (try clear hk)
    (try clear hi)
    refine hK.out _ _ ⟨HS0_, HS1_, HS2_, HS3_, HS4_, HS5_, HS6_, HS7_⟩ (fun hHeld => ?_)
    clear hK K
    refine norm_ (a' := ?_) ?_ ?_
    rotate_left
    ·show Act.put _ (some 42) _ = _
     simp only [Act.put, List.setIfInBounds_toArray, List.set_cons_zero, List.set_cons_succ, i64_w, i32_w]
     rfl
    refine pure_ (i := 11) (N := some 43) (v := ?_) (a' := ?_) (rb5 [12, 6]) rfl rfl (qu1 HT_.out (by kernel_rfl)) (fun _ _ _ h => h) (Or.inl ⟨by rfl, ?_⟩) ?_ ?_
    rotate_left
    ·intro w'
     go_simp
     with_reducible rfl
    rotate_left
    ·simp only [Act.put, List.setIfInBounds_toArray, List.set_cons_zero, List.set_cons_succ, i64_w, i32_w]
     rfl
    refine pure_ (i := 12) (N := some 44) (v := ?_) (a' := ?_) (rb5 [13, 5]) rfl rfl (qu1 HT_.out (by kernel_rfl)) (fun _ _ _ h => h) (Or.inl ⟨by rfl, ?_⟩) ?_ ?_
    rotate_left
    ·intro w'
     go_simp
     with_reducible rfl
    rotate_left
    ·simp only [Act.put, List.setIfInBounds_toArray, List.set_cons_zero, List.set_cons_succ, i64_w, i32_w]
     rfl
    refine pure_ (i := 14) (N := some 2) (v := ?_) (a' := ?_) (rb5 [13, 1, 1, 3]) rfl rfl (qu1 HT_.out (by kernel_rfl)) (fun _ _ _ h => h) (Or.inl ⟨by rfl, ?_⟩) ?_ ?_
    rotate_left
    ·intro w'
     go_simp
     with_reducible rfl
    rotate_left
    ·simp only [Act.put, List.setIfInBounds_toArray, List.set_cons_zero, List.set_cons_succ, i64_w, i32_w]
     rfl
    refine pure_ (i := 15) (N := some 3) (v := ?_) (a' := ?_) (rb5 [13, 1, 2, 2]) rfl rfl (qu1 HT_.out (by kernel_rfl)) (fun _ _ _ h => h) (Or.inl ⟨by rfl, ?_⟩) ?_ ?_
    rotate_left
    ·intro w'
     go_simp
     with_reducible rfl
    rotate_left
    ·simp only [Act.put, List.setIfInBounds_toArray, List.set_cons_zero, List.set_cons_succ, i64_w, i32_w]
     rfl
    refine pure_ (i := 16) (N := some 4) (v := ?_) (a' := ?_) (rb5 [13, 1, 3, 1]) rfl rfl (qu1 HT_.out (by kernel_rfl)) (fun _ _ _ h => h) (Or.inl ⟨by rfl, ?_⟩) ?_ ?_
    rotate_left
    ·intro w'
     go_simp
     with_reducible rfl
    rotate_left
    ·simp only [Act.put, List.setIfInBounds_toArray, List.set_cons_zero, List.set_cons_succ, i64_w, i32_w]
     rfl
    refine take_ (i := 13) (N := some 45) (v := ?_) (a' := ?_) (rb5 [17, 1]) rfl rfl (take_ofW HT_.out HW_.out (by kernel_rfl)) (fun _ _ _ h => h) (Or.inl ⟨by rfl, ?_⟩) hHeld ?_ ?_
    rotate_left
    ·rintro w' ⟨s0, s1, s2, s3, s4, s5, s6, s7⟩
     go_simp
     with_reducible rfl
    rotate_left
    ·simp only [Act.put, List.setIfInBounds_toArray, List.set_cons_zero, List.set_cons_succ, i64_w, i32_w]
     rfl
    refine pure_ (i := 17) (N := some 5) (v := ?_) (a' := ?_) (rb5 [18]) rfl rfl (qu1 HT_.out (by kernel_rfl)) (fun _ _ _ h => h) (Or.inl ⟨by rfl, ?_⟩) ?_ ?_
    rotate_left
    ·intro w'
     go_simp
     with_reducible rfl
    rotate_left
    ·simp only [Act.put, List.setIfInBounds_toArray, List.set_cons_zero, List.set_cons_succ, i64_w, i32_w]
     rfl
    refine done_ (done_of HT_.out (by kernel_rfl)) ?_
    try go_wp2
    refine bodyPost_ret (results_list (rs := [.tmp 2, .tmp 3, .tmp 4, .tmp 5]) rfl (by simp) (.tmp (.tmp (.tmp (.tmp .nil))))) rfl ?_
    exact ⟨_, by first | rfl | (simp [errW_none, errW_some] <;> rfl) | (simp [*, errW_none, errW_some] <;> rfl), by (with_reducible repeat (first | apply Kd.qk0 | apply Kd.qj0 | apply Kd.qm0)); exact HO_7.out, by repeat (first | (with_reducible first | exact HB.out | apply qc0 | apply qa0 | apply qd0 | refine qi0 ?_ (IsS186.ge HI221.out)) | exact HB.out)⟩
   replace c26 := Bool.eq_false_iff.mpr c26
   subst c26
   have H1 : ((spec_l1Pick.f t218 x222001_6 x222002_6 y227).bind fun bt253 => ((spec_l1Pick.f t218 bt253.2.1 bt253.2.2 (([(⟨#[112, 99]⟩ : ByteArray), (⟨#[107, 103]⟩ : ByteArray), (⟨#[103]⟩ : ByteArray), (⟨#[]⟩ : ByteArray), (⟨#[112, 97, 108]⟩ : ByteArray)] : List ByteArray))).bind fun bt259 => (some (t222, t242, bt253.1, bt259.1)))) = some (r1, r2, r3, r4) := by rw [if_neg (show ¬ (false = true) by decide)] at H; exact H
   clear H
   have H := H1
   clear H1
   replace H := Option.bind_eq_some_iff.mp H
   obtain ⟨⟨t253, t254, t255⟩, A340, H⟩ := H
   replace H : ((spec_l1Pick.f t218 t254 t255 (([(⟨#[112, 99]⟩ : ByteArray), (⟨#[107, 103]⟩ : ByteArray), (⟨#[103]⟩ : ByteArray), (⟨#[]⟩ : ByteArray), (⟨#[112, 97, 108]⟩ : ByteArray)] : List ByteArray))).bind fun bt259 => (some (t222, t242, t253, bt259.1))) = some (r1, r2, r3, r4) := H
   have A34 := Aside0.mk A340
   clear A340
   obtain ⟨y256, hy256⟩ : ∃ y_ : List ByteArray, y_ = (([(⟨#[112, 99]⟩ : ByteArray), (⟨#[107, 103]⟩ : ByteArray), (⟨#[103]⟩ : ByteArray), (⟨#[]⟩ : ByteArray), (⟨#[112, 97, 108]⟩ : ByteArray)] : List ByteArray)) := ⟨_, rfl⟩
   replace H : ((spec_l1Pick.f t218 t254 t255 y256).bind fun bt259 => (some (t222, t242, t253, bt259.1))) = some (r1, r2, r3, r4) := by first | (rw [hy256]; with_reducible exact H) | (have H2_ := (Option.bind_some _ _).symm.trans H; rw [hy256]; with_reducible exact H2_) | (have H2_ := (Option.bind_some _ _).symm.trans H; with_reducible exact H2_) | with_reducible exact H | (rw [hy256]; exact H) | exact H
   have Ny256 := Aside0.mk hy256
   clear hy256
   replace H := Option.bind_eq_some_iff.mp H
   obtain ⟨⟨t259, t260, t261⟩, A350, H⟩ := H
   replace H : (some (t222, t242, t253, t259)) = some (r1, r2, r3, r4) := H
   have A35 := Aside0.mk A350
   clear A350
   simp only [Option.some.injEq, Prod.mk.injEq] at H
   obtain ⟨rfl, rfl, rfl, rfl⟩ := H
   obtain ⟨Ao36, co36, eo36⟩ := Kd.qo1 HO_8.out
   subst eo36
   go_wp2_with (first | ((with_reducible refine qw0 (f := 76) rfl ?_); refine qn1 (some 50) rfl rfl Try.func76 (by kernel_rfl) rfl #[.pointer (some ⟨g221, 0, none⟩), .slice Ao36 y227.length co36] rfl (by (try simp only [List.map_toArray, List.map_cons, List.map_nil]); first | done | rfl | (simp only [List.length_drop, List.length_take]; rfl)) ?_; (with_reducible refine (spec_l1Pick.calls g221 t218 x222001_6 x222002_6 _ _ y227 t253 t254 t255 w _ ?side1 ?side2 ?side3 ?side4 ?side5 A34.out).mono ?_); (case side1 => repeat (first | (with_reducible first | exact HI221.out | apply IsS186.alloc | apply IsS186.drewN | apply IsS186.drew | apply IsS186.set_1 | apply IsS186.set_2) | exact HI221.out)); (case side2 => repeat (first | (with_reducible first | exact HB.out | apply qc0 | apply qa0 | apply qd0 | refine qi0 ?_ (IsS186.ge HI221.out)) | exact HB.out)); (case side3 => repeat (first | exact (Kd.R_reads' HO_8.out).2.2 | (with_reducible refine Kd.qw1 ?_ _) | (with_reducible refine Kd.qv1 ?_ _) | (with_reducible refine Kd.qb2 ?_))); (case side4 => exact (Kd.R_reads' HO_8.out).2.1); (case side5 => exact far_slice (IsS186.own_ne HI221.out HO_8.out (by decide))); rintro e w37 ⟨rfl, hi, hb, hk⟩; refine ⟨_, rfl, ?_⟩; have n0_ := Aside0.mk (Kd.qz0 (Kd.ql1 (IsS186.apart (show IsS186 w _ g221 t218 x222001_6 x222002_6 from by repeat (first | (with_reducible first | exact HI221.out | apply IsS186.alloc | apply IsS186.drewN | apply IsS186.drew | apply IsS186.set_1 | apply IsS186.set_2) | exact HI221.out)) (by (with_reducible repeat (first | apply Kd.qk0 | apply Kd.qj0 | apply Kd.qm0)); exact HO_7.out) (by decide)) hk (fun _ h => h.2)) (fun _ h => h.1)); have n1_ := Aside0.mk (Kd.qz0 (Kd.ql1 (IsS186.apart (show IsS186 w _ g221 t218 x222001_6 x222002_6 from by repeat (first | (with_reducible first | exact HI221.out | apply IsS186.alloc | apply IsS186.drewN | apply IsS186.drew | apply IsS186.set_1 | apply IsS186.set_2) | exact HI221.out)) (by (with_reducible repeat (first | apply Kd.qk0 | apply Kd.qj0 | apply Kd.qm0)); exact HO_8.out) (by decide)) hk (fun _ h => h.2)) (fun _ h => h.1)); have n2_ := Aside0.mk (hb); have n3_ := Aside0.mk (hi); clear HO_7; clear HO_8; clear HB; clear HI221; have HO_7 := n0_; have HO_8 := n1_; have HB := n2_; have HI221 := n3_; clear n0_ n1_ n2_ n3_; (try clear hb); (try clear hb2); (try clear hk); (try clear hi)) | ((with_reducible refine qv0 (N := 52) rfl ?_); refine Kd.R_lit Kd.string _ 9 ?hg (N := 52) ?hd (xs := ([(⟨#[112, 99]⟩ : ByteArray), (⟨#[107, 103]⟩ : ByteArray), (⟨#[103]⟩ : ByteArray), (⟨#[]⟩ : ByteArray), (⟨#[112, 97, 108]⟩ : ByteArray)] : List ByteArray)) (inner := [.string (⟨#[112, 99]⟩ : ByteArray), .string (⟨#[107, 103]⟩ : ByteArray), .string (⟨#[103]⟩ : ByteArray), .string (⟨#[]⟩ : ByteArray), .string (⟨#[112, 97, 108]⟩ : ByteArray)]) (ok := fun _ => True) (okp := fun _ => True) ?hr ?hp (fun _ hk => hk) trivial (Below.refl _ _) (Nat.le_refl _) (by simp) ?_; (case hd => rfl); (case hg => rfl); (case hr => first | (go_simp; done) | (go_simp; rfl)); (case hp => exact (Reps.one (show Kd.M Kd.string _ _ _ (⟨#[112, 99]⟩ : ByteArray) [.string (⟨#[112, 99]⟩ : ByteArray)] from rfl) (Reps.one (show Kd.M Kd.string _ _ _ (⟨#[107, 103]⟩ : ByteArray) [.string (⟨#[107, 103]⟩ : ByteArray)] from rfl) (Reps.one (show Kd.M Kd.string _ _ _ (⟨#[103]⟩ : ByteArray) [.string (⟨#[103]⟩ : ByteArray)] from rfl) (Reps.one (show Kd.M Kd.string _ _ _ (⟨#[]⟩ : ByteArray) [.string (⟨#[]⟩ : ByteArray)] from rfl) (Reps.one (show Kd.M Kd.string _ _ _ (⟨#[112, 97, 108]⟩ : ByteArray) [.string (⟨#[112, 97, 108]⟩ : ByteArray)] from rfl) (Reps.none _ _))))))); intro v257 w38 ho39 hb hg_ hnew_; clear hg_ hnew_; (first | rw [← Ny256.out] at ho39 | (simp only [Int.reduceToNat] at ho39; rw [← Ny256.out] at ho39)); have n0_ := Aside0.mk (Kd.qy0 (by (with_reducible repeat (first | apply Kd.qk0 | apply Kd.qj0 | apply Kd.qm0)); exact HO_7.out) hb); have n1_ := Aside0.mk (Kd.qm1 (by (with_reducible repeat (first | apply Kd.qk0 | apply Kd.qj0 | apply Kd.qm0)); exact HO_8.out) (Kd.qz1 ho39) hb); have n2_ := Aside0.mk (Kd.qp1 (Kd.qy1 ho39 (Kd.R_lt (by (with_reducible repeat (first | apply Kd.qk0 | apply Kd.qj0 | apply Kd.qm0)); exact HO_8.out))) (ql0 (by repeat (first | (with_reducible first | exact HB.out | apply qc0 | apply qa0 | apply qd0 | refine qi0 ?_ (IsS186.ge HI221.out)) | exact HB.out)))); have n3_ := Aside0.mk (IsS186.below (by repeat (first | (with_reducible first | exact HI221.out | apply IsS186.alloc | apply IsS186.drewN | apply IsS186.drew | apply IsS186.set_1 | apply IsS186.set_2) | exact HI221.out)) hb); have n4_ := Aside0.mk (qo0 (by repeat (first | (with_reducible first | exact HB.out | apply qc0 | apply qa0 | apply qd0 | refine qi0 ?_ (IsS186.ge HI221.out)) | exact HB.out)) hb); clear HO_7; clear HO_8; clear HI221; clear HB; have HO_7 := n0_; have HO_8 := n1_; have HO258 := n2_; have HI221 := n3_; have HB := n4_; clear n0_ n1_ n2_ n3_ n4_; clear hb ho39; obtain ⟨Ao40, co40, eo40⟩ := Kd.qo1 HO258.out; subst eo40) | ((with_reducible refine qw0 (f := 76) rfl ?_); refine qn1 (some 53) rfl rfl Try.func76 (by kernel_rfl) rfl #[.pointer (some ⟨g221, 0, none⟩), .slice Ao40 y256.length co40] rfl (by (try simp only [List.map_toArray, List.map_cons, List.map_nil]); first | done | rfl | (simp only [List.length_drop, List.length_take]; rfl)) ?_; (with_reducible refine (spec_l1Pick.calls g221 t218 t254 t255 _ _ y256 t259 t260 t261 w _ ?side1 ?side2 ?side3 ?side4 ?side5 A35.out).mono ?_); (case side1 => repeat (first | (with_reducible first | exact HI221.out | apply IsS186.alloc | apply IsS186.drewN | apply IsS186.drew | apply IsS186.set_1 | apply IsS186.set_2) | exact HI221.out)); (case side2 => repeat (first | (with_reducible first | exact HB.out | apply qc0 | apply qa0 | apply qd0 | refine qi0 ?_ (IsS186.ge HI221.out)) | exact HB.out)); (case side3 => repeat (first | exact (Kd.R_reads' HO258.out).2.2 | (with_reducible refine Kd.qw1 ?_ _) | (with_reducible refine Kd.qv1 ?_ _) | (with_reducible refine Kd.qb2 ?_))); (case side4 => exact (Kd.R_reads' HO258.out).2.1); (case side5 => exact far_slice (IsS186.own_ne HI221.out HO258.out (by decide))); rintro e w41 ⟨rfl, hi, hb, hk⟩; refine ⟨_, rfl, ?_⟩; have n0_ := Aside0.mk (Kd.qz0 (Kd.ql1 (IsS186.apart (show IsS186 w _ g221 t218 t254 t255 from by repeat (first | (with_reducible first | exact HI221.out | apply IsS186.alloc | apply IsS186.drewN | apply IsS186.drew | apply IsS186.set_1 | apply IsS186.set_2) | exact HI221.out)) (by (with_reducible repeat (first | apply Kd.qk0 | apply Kd.qj0 | apply Kd.qm0)); exact HO_7.out) (by decide)) hk (fun _ h => h.2)) (fun _ h => h.1)); have n1_ := Aside0.mk (Kd.qz0 (Kd.ql1 (IsS186.apart (show IsS186 w _ g221 t218 t254 t255 from by repeat (first | (with_reducible first | exact HI221.out | apply IsS186.alloc | apply IsS186.drewN | apply IsS186.drew | apply IsS186.set_1 | apply IsS186.set_2) | exact HI221.out)) (by (with_reducible repeat (first | apply Kd.qk0 | apply Kd.qj0 | apply Kd.qm0)); exact HO_8.out) (by decide)) hk (fun _ h => h.2)) (fun _ h => h.1)); have n2_ := Aside0.mk (Kd.qz0 (Kd.ql1 (IsS186.apart (show IsS186 w _ g221 t218 t254 t255 from by repeat (first | (with_reducible first | exact HI221.out | apply IsS186.alloc | apply IsS186.drewN | apply IsS186.drew | apply IsS186.set_1 | apply IsS186.set_2) | exact HI221.out)) (by (with_reducible repeat (first | apply Kd.qk0 | apply Kd.qj0 | apply Kd.qm0)); exact HO258.out) (by decide)) hk (fun _ h => h.2)) (fun _ h => h.1)); have n3_ := Aside0.mk (hb); have n4_ := Aside0.mk (hi); clear HO_7; clear HO_8; clear HO258; clear HB; clear HI221; have HO_7 := n0_; have HO_8 := n1_; have HO258 := n2_; have HB := n3_; have HI221 := n4_; clear n0_ n1_ n2_ n3_ n4_; (try clear hb); (try clear hb2); (try clear hk); (try clear hi)))
   refine bodyPost_ret (results_list (rs := [.tmp 2, .tmp 3, .tmp 4, .tmp 5]) rfl (by simp) (.tmp (.tmp (.tmp (.tmp .nil))))) rfl ?_
   exact ⟨_, by first | rfl | (simp [errW_none, errW_some] <;> rfl) | (simp [*, errW_none, errW_some] <;> rfl), by (with_reducible repeat (first | apply Kd.qk0 | apply Kd.qj0 | apply Kd.qm0)); exact HO_7.out, by repeat (first | (with_reducible first | exact HB.out | apply qc0 | apply qa0 | apply qd0 | refine qi0 ?_ (IsS186.ge HI221.out)) | exact HB.out)⟩

/-! ### spec_l1In: function 79 -/
def spec_l1In.f (a0 : Int) (a1 : Int) (a2 : Int) : Option (Bool) := if a0 ≥ a1 then (some (decide (a0 ≤ a2))) else (some false)
set_option maxHeartbeats 8000000 in
set_option maxRecDepth 100000 in
theorem spec_l1In.calls (a0 : Int) (a1 : Int) (a2 : Int) (r : Bool) (w : World) (h : spec_l1In.f a0 a1 a2 = some r) :
  Calls Try.prog 79 #[.int .i64 a0, .int .i64 a1, .int .i64 a2] w fun e w' => e = .returned (.bool r) ∧ Drawn0 w w' := by
 have H : (if a0 ≥ a1 then (some (decide (a0 ≤ a2))) else (some false)) = some r := h
 clear h
 by_cases c4 : a0 ≥ a1
 ·rw [if_pos c4] at H
  have c4b0 : decide (a1 ≤ a0) = true := decide_eq_true c4
  clear c4
  obtain rfl := Option.some.inj H
  go_enter Try.func79, Try.ntmps79
  go_wp2
  go_ret
  exact ⟨by first | rfl | (simp; done) | (simp [*]; done), by repeat (first | exact Drawn0.refl _ | apply Drawn0.step)⟩
 rw [if_neg c4] at H
 have c4b0 : decide (a1 ≤ a0) = false := decide_eq_false c4
 clear c4
 obtain rfl := Option.some.inj H
 go_enter Try.func79, Try.ntmps79
 go_wp2
 go_ret
 exact ⟨by first | rfl | (simp; done) | (simp [*]; done), by repeat (first | exact Drawn0.refl _ | apply Drawn0.step)⟩

/-! ### spec_l12Qty: function 77 -/
def spec_l12Qty.f (a0 : Int) : Option (Bool) := (spec_l1In.f a0 0 1000000).bind fun t262 => (some t262)
set_option maxHeartbeats 8000000 in
set_option maxRecDepth 100000 in
theorem spec_l12Qty.calls (a0 : Int) (r : Bool) (w : World) (h : spec_l12Qty.f a0 = some r) :
  Calls Try.prog 77 #[.int .i64 a0] w fun e w' => e = .returned (.bool r) ∧ Drawn0 w w' := by
 have H : ((spec_l1In.f a0 0 1000000).bind fun t262 => (some t262)) = some r := h
 clear h
 replace H := Option.bind_eq_some_iff.mp H
 obtain ⟨t262, A20, H⟩ := H
 replace H : (some t262) = some r := H
 have A2 := Aside0.mk A20
 clear A20
 obtain rfl := Option.some.inj H
 go_enter Try.func77, Try.ntmps77
 go_wp2_with (first | ((with_reducible refine qw0 (f := 79) rfl ?_); refine qn1 (some 4) rfl rfl Try.func79 (by kernel_rfl) rfl #[.int .i64 a0, .int .i64 0, .int .i64 1000000] rfl (by (try simp only [List.map_toArray, List.map_cons, List.map_nil]); first | done | rfl | (simp only [List.length_drop, List.length_take]; rfl)) ?_; (with_reducible refine (spec_l1In.calls a0 0 1000000 t262 _ A2.out).mono ?_); rintro e w' ⟨rfl, ⟨nd, rfl⟩⟩; refine ⟨_, rfl, ?_⟩))
 go_ret
 exact ⟨by first | rfl | (simp; done) | (simp [*]; done), by repeat (first | exact Drawn0.refl _ | apply Drawn0.step)⟩

end Go.Proofs.Ytkkdmmefnicmaaa.PFnUnits
