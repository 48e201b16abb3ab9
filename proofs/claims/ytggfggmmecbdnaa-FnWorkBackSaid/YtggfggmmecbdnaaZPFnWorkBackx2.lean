/- Lines by a program (a changed copy of the kit's print: this repo's wip/tools): Go functions as Lean functions, and proofs that the calls answer so. -/
import Derived.Test.YtggfggmmecbdnaaZPFnWorkBackx0
import Derived.Test.YtggfggmmecbdnaaZPFnWorkBackx1
namespace Go.Proofs.Ytggfggmmecbdnaa.PFnWorkBack
open Go.RowKit Go.Proofs.YtggfggmmecbdnaaW.PrintWords Go.Proofs.YtggfggmmecbdnaaW.PrintLast Go.Proofs.YtggfggmmecbdnaaW.PrintMore
/-- Closing blocks told once. -/
theorem z2_0 {P : Prop} (h : P := by repeat (first | (with_reducible first | exact HI192.out | apply IsS66.alloc | apply IsS66.drewN | apply IsS66.drew | apply IsS66.set_1 | apply IsS66.set_2 | refine IsS66.far ?_ NB192_188.out _ | refine IsS66.far ?_ NB192_199.out _) | exact HI192.out)) : P := h
theorem z2_1 {P : Prop} (h : P := by repeat (first | (with_reducible first | exact HI0.out | apply IsS66.alloc | apply IsS66.drewN | apply IsS66.drew | apply IsS66.set_1 | apply IsS66.set_2) | exact HI0.out)) : P := h
theorem z2_2 {P : Prop} (h : P := by repeat (first | (with_reducible first | exact HB.out | apply qh0 | apply qe0 | apply qi0 | refine qo0 ?_ (IsS66.ge HI0.out)) | exact HB.out)) : P := h
theorem z2_3 {P : Prop} (h : P := by repeat (first | (with_reducible first | exact HK.out | apply qd0.set_ | apply keep_drewN | apply keep_drew | apply keep_alloc) | exact HK.out)) : P := h
theorem z2_4 {P : Prop} (h : P := by repeat (first | (with_reducible first | exact HB.out | apply qh0 | apply qe0 | apply qi0 | refine qo0 ?_ (IsS66.ge HI192.out) | refine qo0 ?_ GE188.out | refine qo0 ?_ GE199.out) | exact HB.out)) : P := h
theorem z2_5 {P : Prop} (h : P := by (with_reducible repeat (first | refine qj0 ?_ _ | refine qk0 ?_ | refine qg0 ?_ _)); exact BK188.out) : P := h
theorem z2_6 {P : Prop} (h : P := by (try simp only [List.map_toArray, List.map_cons, List.map_nil]); first | done | rfl | (simp only [List.length_drop, List.length_take]; rfl)) : P := h
theorem z2_7 {P : Prop} (h : P := by (with_reducible repeat (first | refine qj0 ?_ _ | refine qk0 ?_ | refine qg0 ?_ _)); exact BK199.out) : P := h
theorem z2_8 {P : Prop} (h : P := by (with_reducible repeat (first | apply Kd.qx0 | apply Kd.qw0 | apply Kd.R_drew)); exact HO196.out) : P := h
theorem z2_9 {P : Prop} (h : P := by repeat (first | (with_reducible first | exact HB.out | apply qh0 | apply qe0 | apply qi0 | refine qo0 ?_ (IsS66.ge HI192.out) | refine qo0 ?_ GE188.out) | exact HB.out)) : P := h
theorem z2_10 {P : Prop} (h : P := by kernel_rfl) : P := h
theorem z2_11 {P : Prop} (h : P := by repeat (first | (with_reducible first | exact HI192.out | apply IsS66.alloc | apply IsS66.drewN | apply IsS66.drew | apply IsS66.set_1 | apply IsS66.set_2 | refine IsS66.far ?_ NB192_188.out _) | exact HI192.out)) : P := h
theorem z2_12 {P : Prop} (h : P := by first | rfl | (simp [errW_none, errW_some] <;> rfl) | (simp [*, errW_none, errW_some] <;> rfl)) : P := h
theorem z2_13 {P : Prop} (h : P := by (with_reducible repeat (first | apply Kd.qx0 | apply Kd.qw0 | apply Kd.R_drew)); exact (Q_HO211 h0_)) : P := h
theorem z2_14 {P : Prop} (h : P := by repeat (first | (with_reducible first | exact HB.out | apply qh0 | apply qe0 | apply qi0 | refine qo0 ?_ GE188.out | refine qo0 ?_ GE199.out) | exact HB.out)) : P := h
theorem z2_15 {P : Prop} (h : P := by rw [hg]; exact (below_size (by repeat (first | (with_reducible first | exact HB.out | apply qh0 | apply qe0 | apply qi0 | refine qo0 ?_ (IsS66.ge HI192.out) | refine qo0 ?_ GE188.out) | exact HB.out)))) : P := h
theorem z2_16 {P : Prop} (h : P := by decide) : P := h
theorem z2_17 {P : Prop} (h : P := by repeat (first | (with_reducible first | exact HB.out | apply qh0 | apply qe0 | apply qi0) | exact HB.out)) : P := h
theorem z2_18 {P : Prop} (h : P := by rw [hg]; exact (below_size (by repeat (first | (with_reducible first | exact HB.out | apply qh0 | apply qe0 | apply qi0) | exact HB.out)))) : P := h
theorem z2_19 {P : Prop} (h : P := by first | (go_simp; done) | (go_simp; rfl)) : P := h
/-- Runs of true and false, by turns. -/
def rb2l : Bool → List Nat → List Bool
 | _, [] => []
 | b, n :: r => List.replicate n b ++ rb2l (!b) r
def rb2 (l : List Nat) : Array Bool := (rb2l true l).toArray
attribute [local go_sem] max2_int min2_int max_two min_two max_three min_three max_four min_four   -- for this text's walks alone
set_option linter.unusedVariables false
set_option linter.unusedSimpArgs false

/-! ### spec_l1Spoil: function 22 -/
def spec_l1Spoil.f (s0_0 : List Int) (s0_1 : Int) (s0_2 : Int) (a1 : Int) (l2 : List Int) : Option (Int × Int × Int) := (spec_l1Once.f s0_0 s0_1 s0_2 40).bind fun bt161 => (if bt161.1 = true then ((spec_l1PickInt.f s0_0 bt161.2.1 bt161.2.2 l2).bind fun bt164 => (some (bt164.1, bt164.2.1, bt164.2.2))) else (some (a1, bt161.2.1, bt161.2.2)))
set_option maxHeartbeats 8000000 in
set_option maxRecDepth 100000 in
theorem spec_l1Spoil.calls (g : Nat) (s0_0 : List Int) (s0_1 : Int) (s0_2 : Int) (a1 : Int) (A2 : Option Addr) (c2 : Nat) (l2 : List Int) (r1 : Int) (r2 : Int) (r3 : Int) (w0 w : World) (hI : IsS66 w0 w g s0_0 s0_1 s0_2) (hB : Below w0.heap.size w0 w) (hr2 : Kd.C (Kd.int .i64) w A2 l2.length l2) (hc2 : l2.length ≤ c2) (hf2 : ∀ ad, A2 = some ad → 0 < l2.length → ad.block ≠ g) (h : spec_l1Spoil.f s0_0 s0_1 s0_2 a1 l2 = some (r1, r2, r3)) :
  Calls Try.prog 22 #[.pointer (some ⟨g, 0, none⟩), .int .i64 a1, .slice A2 l2.length c2] w fun e w' => e = .returned (.int .i64 r1) ∧ IsS66 w0 w' g s0_0 r2 r3 ∧ Below w0.heap.size w0 w' ∧ qd0 w w' g none := by
 have HR2 := Aside0.mk hr2
 have HC2 := Aside0.mk hc2
 clear hr2 hc2
 have HI0 := Aside0.mk hI
 have HK := Aside0.mk (qd0.refl w g none)
 have HL := Aside0.mk hB.size
 clear hI
 have HW0 := Aside0.mk hB.size
 have HB := Aside0.mk hB
 clear hB
 have H : ((spec_l1Once.f s0_0 s0_1 s0_2 40).bind fun bt161 => (if bt161.1 = true then ((spec_l1PickInt.f s0_0 bt161.2.1 bt161.2.2 l2).bind fun bt164 => (some (bt164.1, bt164.2.1, bt164.2.2))) else (some (a1, bt161.2.1, bt161.2.2)))) = some (r1, r2, r3) := h
 clear h
 replace H := Option.bind_eq_some_iff.mp H
 obtain ⟨⟨t161, t162, t163⟩, A40, H⟩ := H
 replace H : (if t161 = true then ((spec_l1PickInt.f s0_0 t162 t163 l2).bind fun bt164 => (some (bt164.1, bt164.2.1, bt164.2.2))) else (some (a1, t162, t163))) = some (r1, r2, r3) := H
 have A4 := Aside0.mk A40
 clear A40
 by_cases c5 : t161 = true
 ·subst c5
  have H1 : ((spec_l1PickInt.f s0_0 t162 t163 l2).bind fun bt164 => (some (bt164.1, bt164.2.1, bt164.2.2))) = some (r1, r2, r3) := by rw [if_pos rfl] at H; exact H
  clear H
  have H := H1
  clear H1
  replace H := Option.bind_eq_some_iff.mp H
  obtain ⟨⟨t164, t165, t166⟩, A60, H⟩ := H
  replace H : (some (t164, t165, t166)) = some (r1, r2, r3) := H
  have A6 := Aside0.mk A60
  clear A60
  simp only [Option.some.injEq, Prod.mk.injEq] at H
  obtain ⟨rfl, rfl, rfl⟩ := H
  go_enter Try.func22, Try.ntmps22
  go_wp2_with (first | ((with_reducible refine qc0 (f := 44) rfl ?_); refine qm0 (some 8) rfl rfl Try.func44 z2_10 rfl #[.pointer (some ⟨g, 0, none⟩), .int .i64 40] rfl z2_6 ?_; (with_reducible refine (spec_l1Once.calls g s0_0 s0_1 s0_2 40 true t162 t163 w0 _ ?side1 ?side2 A4.out).mono ?_); (case side1 => exact z2_1); (case side2 => exact z2_2); rintro e w7 ⟨rfl, hi, hb, hk⟩; refine ⟨_, rfl, ?_⟩; have n0_ := Aside0.mk (qd0.trans z2_3 hk (.inl rfl)); have n1_ := Aside0.mk (hb); have n2_ := Aside0.mk (hi); clear HK; clear HB; clear HI0; have HK := n0_; have HB := n1_; have HI0 := n2_; clear n0_ n1_ n2_; (try clear hb); (try clear hb2); (try clear hk); (try clear hi)) | ((with_reducible refine qc0 (f := 43) rfl ?_); refine qm0 (some 11) rfl rfl Try.func43 z2_10 rfl #[.pointer (some ⟨g, 0, none⟩), .slice A2 l2.length c2] rfl z2_6 ?_; (with_reducible refine (spec_l1PickInt.calls g s0_0 t162 t163 _ _ l2 t164 t165 t166 w0 _ ?side1 ?side2 ?side3 ?side4 ?side5 A6.out).mono ?_); (case side1 => exact z2_1); (case side2 => exact z2_2); (case side3 => exact Kd.C_keep 0 HR2.out z2_3 hf2); (case side4 => exact HC2.out); (case side5 => exact hf2); rintro e w8 ⟨rfl, hi, hb, hk⟩; refine ⟨_, rfl, ?_⟩; have n0_ := Aside0.mk (qd0.trans z2_3 hk (.inl rfl)); have n1_ := Aside0.mk (hb); have n2_ := Aside0.mk (hi); clear HK; clear HB; clear HI0; have HK := n0_; have HB := n1_; have HI0 := n2_; clear n0_ n1_ n2_; (try clear hb); (try clear hb2); (try clear hk); (try clear hi)))
  go_ret
  exact ⟨z2_12, z2_1, z2_2, z2_3⟩
 replace c5 := Bool.eq_false_iff.mpr c5
 subst c5
 have H1 : (some (a1, t162, t163)) = some (r1, r2, r3) := by rw [if_neg (show ¬ (false = true) from z2_16)] at H; exact H
 clear H
 have H := H1
 clear H1
 simp only [Option.some.injEq, Prod.mk.injEq] at H
 obtain ⟨rfl, rfl, rfl⟩ := H
 go_enter Try.func22, Try.ntmps22
 go_wp2_with (first | ((with_reducible refine qc0 (f := 44) rfl ?_); refine qm0 (some 8) rfl rfl Try.func44 z2_10 rfl #[.pointer (some ⟨g, 0, none⟩), .int .i64 40] rfl z2_6 ?_; (with_reducible refine (spec_l1Once.calls g s0_0 s0_1 s0_2 40 false t162 t163 w0 _ ?side1 ?side2 A4.out).mono ?_); (case side1 => exact z2_1); (case side2 => exact z2_2); rintro e w9 ⟨rfl, hi, hb, hk⟩; refine ⟨_, rfl, ?_⟩; have n0_ := Aside0.mk (qd0.trans z2_3 hk (.inl rfl)); have n1_ := Aside0.mk (hb); have n2_ := Aside0.mk (hi); clear HK; clear HB; clear HI0; have HK := n0_; have HB := n1_; have HI0 := n2_; clear n0_ n1_ n2_; (try clear hb); (try clear hb2); (try clear hk); (try clear hi)))
 go_ret
 exact ⟨z2_12, z2_1, z2_2, z2_3⟩

/-! ### spec_l2BadDay: function 20 -/
def spec_l2BadDay.f (s0_0 : List Int) (s0_1 : Int) (s0_2 : Int) (a1 : Int) : Option (Int × Int × Int) := (spec_l1Spoil.f s0_0 s0_1 s0_2 a1 (([(-1), 40001, (-9223372036854775808)] : List Int))).bind fun bt170 => (some (bt170.1, bt170.2.1, bt170.2.2))
set_option maxHeartbeats 8000000 in
set_option maxRecDepth 100000 in
theorem spec_l2BadDay.calls (g : Nat) (s0_0 : List Int) (s0_1 : Int) (s0_2 : Int) (a1 : Int) (r1 : Int) (r2 : Int) (r3 : Int) (w0 w : World) (hI : IsS66 w0 w g s0_0 s0_1 s0_2) (hB : Below w0.heap.size w0 w) (h : spec_l2BadDay.f s0_0 s0_1 s0_2 a1 = some (r1, r2, r3)) :
  Calls Try.prog 20 #[.pointer (some ⟨g, 0, none⟩), .int .i64 a1] w fun e w' => e = .returned (.int .i64 r1) ∧ IsS66 w0 w' g s0_0 r2 r3 ∧ Below w0.heap.size w0 w' ∧ qd0 w w' g none := by
 have HI0 := Aside0.mk hI
 have HK := Aside0.mk (qd0.refl w g none)
 have HL := Aside0.mk hB.size
 clear hI
 have HW0 := Aside0.mk hB.size
 have HB := Aside0.mk hB
 clear hB
 have H : ((spec_l1Spoil.f s0_0 s0_1 s0_2 a1 (([(-1), 40001, (-9223372036854775808)] : List Int))).bind fun bt170 => (some (bt170.1, bt170.2.1, bt170.2.2))) = some (r1, r2, r3) := h
 clear h
 obtain ⟨y167, hy167⟩ : ∃ y_ : List Int, y_ = (([(-1), 40001, (-9223372036854775808)] : List Int)) := ⟨_, rfl⟩
 replace H : ((spec_l1Spoil.f s0_0 s0_1 s0_2 a1 y167).bind fun bt170 => (some (bt170.1, bt170.2.1, bt170.2.2))) = some (r1, r2, r3) := by first | (rw [hy167]; with_reducible exact H) | (have H2_ := (Option.bind_some _ _).symm.trans H; rw [hy167]; with_reducible exact H2_) | (have H2_ := (Option.bind_some _ _).symm.trans H; with_reducible exact H2_) | with_reducible exact H | (rw [hy167]; exact H) | exact H
 have Ny167 := Aside0.mk hy167
 clear hy167
 replace H := Option.bind_eq_some_iff.mp H
 obtain ⟨⟨t170, t171, t172⟩, A30, H⟩ := H
 replace H : (some (t170, t171, t172)) = some (r1, r2, r3) := H
 have A3 := Aside0.mk A30
 clear A30
 simp only [Option.some.injEq, Prod.mk.injEq] at H
 obtain ⟨rfl, rfl, rfl⟩ := H
 go_enter Try.func20, Try.ntmps20
 go_wp2_with (first | ((with_reducible refine qs0 (N := 7) rfl ?_); refine Kd.R_lit (Kd.int .i64) _ 3 ?hg (N := 7) ?hd (xs := ([(-1), 40001, (-9223372036854775808)] : List Int)) (inner := [.int .i64 (-1), .int .i64 40001, .int .i64 (-9223372036854775808)]) (ok := fun _ => True) (okp := fun _ => True) ?hr ?hp (fun _ hk => hk) trivial (Below.refl _ _) (Nat.le_refl _) (by simp) ?_; (case hd => rfl); (case hg => rfl); (case hr => exact z2_19); (case hp => exact (Reps.one (show Kd.M (Kd.int .i64) _ _ _ (-1) [.int .i64 (-1)] from rfl) (Reps.one (show Kd.M (Kd.int .i64) _ _ _ 40001 [.int .i64 40001] from rfl) (Reps.one (show Kd.M (Kd.int .i64) _ _ _ (-9223372036854775808) [.int .i64 (-9223372036854775808)] from rfl) (Reps.none _ _))))); intro v168 w4 ho5 hb hg_ hnew_; clear hg_ hnew_; (first | rw [← Ny167.out] at ho5 | (simp only [Int.reduceToNat] at ho5; rw [← Ny167.out] at ho5)); have n0_ := Aside0.mk (Kd.R_lower ho5 (keep_size (w := w) (g := g) (row := none) z2_3)); have n1_ := Aside0.mk (IsS66.below z2_1 hb); have n2_ := Aside0.mk (qd0.trans z2_3 (qd0.of_below hb g none) (.inl rfl)); have n3_ := Aside0.mk (qf0 z2_2 hb); clear HI0; clear HK; clear HB; have HO169 := n0_; have HI0 := n1_; have HK := n2_; have HB := n3_; clear n0_ n1_ n2_ n3_; clear hb ho5; obtain ⟨Ao6, co6, eo6⟩ := Kd.R_slice HO169.out; subst eo6) | ((with_reducible refine qc0 (f := 22) rfl ?_); refine qm0 (some 8) rfl rfl Try.func22 z2_10 rfl #[.pointer (some ⟨g, 0, none⟩), .int .i64 a1, .slice Ao6 y167.length co6] rfl z2_6 ?_; (with_reducible refine (spec_l1Spoil.calls g s0_0 s0_1 s0_2 a1 _ _ y167 t170 t171 t172 w0 _ ?side1 ?side2 ?side3 ?side4 ?side5 A3.out).mono ?_); (case side1 => exact z2_1); (case side2 => exact z2_2); (case side3 => repeat (first | exact (Kd.qq0 HO169.out).2.2 | (with_reducible refine Kd.C_alloc ?_ _) | (with_reducible refine Kd.C_drewN ?_ _) | (with_reducible refine Kd.C_drew ?_))); (case side4 => exact (Kd.qq0 HO169.out).2.1); (case side5 => exact far_slice (IsS66.own_ne HI0.out HO169.out z2_16)); rintro e w7 ⟨rfl, hi, hb, hk⟩; refine ⟨_, rfl, ?_⟩; have n0_ := Aside0.mk (Kd.qt0 (Kd.qf1 (IsS66.apart (show IsS66 w0 _ g s0_0 s0_1 s0_2 from z2_1) (by (with_reducible repeat (first | apply Kd.qx0 | apply Kd.qw0 | apply Kd.R_drew)); exact HO169.out) z2_16) hk (fun _ h => h.2)) (fun _ h => h.1)); have n1_ := Aside0.mk (qd0.trans z2_3 hk (.inl rfl)); have n2_ := Aside0.mk (hb); have n3_ := Aside0.mk (hi); clear HO169; clear HK; clear HB; clear HI0; have HO169 := n0_; have HK := n1_; have HB := n2_; have HI0 := n3_; clear n0_ n1_ n2_ n3_; (try clear hb); (try clear hb2); (try clear hk); (try clear hi)))
 go_ret
 exact ⟨z2_12, z2_1, z2_2, z2_3⟩

/-! ### spec_l2DrawDay: function 21 -/
def spec_l2DrawDay.f (s0_0 : List Int) (s0_1 : Int) (s0_2 : Int) : Option (Int × Int × Int) := (spec_l1Below.f s0_0 s0_1 s0_2 10).bind fun bt173 => (if bt173.1 = 0 then ((spec_l1Below.f s0_0 bt173.2.1 bt173.2.2 40001).bind fun bt176 => (some (bt176.1, bt176.2.1, bt176.2.2))) else (if bt173.1 = 1 then ((spec_l1PickInt.f s0_0 bt173.2.1 bt173.2.2 (([0, 1, 30, 31, 58, 59, 60, 365, 366, 36524, 40000, 39999] : List Int))).bind fun bt182 => (some (bt182.1, bt182.2.1, bt182.2.2))) else ((spec_l1Below.f s0_0 bt173.2.1 bt173.2.2 1500).bind fun bt185 => (some (bt185.1, bt185.2.1, bt185.2.2)))))
set_option maxHeartbeats 8000000 in
set_option maxRecDepth 100000 in
theorem spec_l2DrawDay.calls (g : Nat) (s0_0 : List Int) (s0_1 : Int) (s0_2 : Int) (r1 : Int) (r2 : Int) (r3 : Int) (w0 w : World) (hI : IsS66 w0 w g s0_0 s0_1 s0_2) (hB : Below w0.heap.size w0 w) (h : spec_l2DrawDay.f s0_0 s0_1 s0_2 = some (r1, r2, r3)) :
  Calls Try.prog 21 #[.pointer (some ⟨g, 0, none⟩)] w fun e w' => e = .returned (.int .i64 r1) ∧ IsS66 w0 w' g s0_0 r2 r3 ∧ Below w0.heap.size w0 w' ∧ qd0 w w' g none := by
 have HI0 := Aside0.mk hI
 have HK := Aside0.mk (qd0.refl w g none)
 have HL := Aside0.mk hB.size
 clear hI
 have HW0 := Aside0.mk hB.size
 have HB := Aside0.mk hB
 clear hB
 have H : ((spec_l1Below.f s0_0 s0_1 s0_2 10).bind fun bt173 => (if bt173.1 = 0 then ((spec_l1Below.f s0_0 bt173.2.1 bt173.2.2 40001).bind fun bt176 => (some (bt176.1, bt176.2.1, bt176.2.2))) else (if bt173.1 = 1 then ((spec_l1PickInt.f s0_0 bt173.2.1 bt173.2.2 (([0, 1, 30, 31, 58, 59, 60, 365, 366, 36524, 40000, 39999] : List Int))).bind fun bt182 => (some (bt182.1, bt182.2.1, bt182.2.2))) else ((spec_l1Below.f s0_0 bt173.2.1 bt173.2.2 1500).bind fun bt185 => (some (bt185.1, bt185.2.1, bt185.2.2)))))) = some (r1, r2, r3) := h
 clear h
 replace H := Option.bind_eq_some_iff.mp H
 obtain ⟨⟨t173, t174, t175⟩, A20, H⟩ := H
 replace H : (if t173 = 0 then ((spec_l1Below.f s0_0 t174 t175 40001).bind fun bt176 => (some (bt176.1, bt176.2.1, bt176.2.2))) else (if t173 = 1 then ((spec_l1PickInt.f s0_0 t174 t175 (([0, 1, 30, 31, 58, 59, 60, 365, 366, 36524, 40000, 39999] : List Int))).bind fun bt182 => (some (bt182.1, bt182.2.1, bt182.2.2))) else ((spec_l1Below.f s0_0 t174 t175 1500).bind fun bt185 => (some (bt185.1, bt185.2.1, bt185.2.2))))) = some (r1, r2, r3) := H
 have A2 := Aside0.mk A20
 clear A20
 by_cases c3 : t173 = 0
 ·rw [if_pos c3] at H
  have c3b0 : (t173 == 0) = true := beq_iff_eq.mpr c3
  have c3b1 : (t173 != 0) = false := bne_eq_false_iff_eq.mpr c3
  clear c3
  replace H := Option.bind_eq_some_iff.mp H
  obtain ⟨⟨t176, t177, t178⟩, A40, H⟩ := H
  replace H : (some (t176, t177, t178)) = some (r1, r2, r3) := H
  have A4 := Aside0.mk A40
  clear A40
  simp only [Option.some.injEq, Prod.mk.injEq] at H
  obtain ⟨rfl, rfl, rfl⟩ := H
  go_enter Try.func21, Try.ntmps21
  go_wp2_with (first | ((with_reducible refine qc0 (f := 23) rfl ?_); refine qm0 (some 4) rfl rfl Try.func23 z2_10 rfl #[.pointer (some ⟨g, 0, none⟩), .int .i64 10] rfl z2_6 ?_; (with_reducible refine (spec_l1Below.calls g s0_0 s0_1 s0_2 10 t173 t174 t175 w0 _ ?side1 ?side2 A2.out).mono ?_); (case side1 => exact z2_1); (case side2 => exact z2_2); rintro e w5 ⟨rfl, hi, hb, hk⟩; refine ⟨_, rfl, ?_⟩; have n0_ := Aside0.mk (qd0.trans z2_3 hk (.inl rfl)); have n1_ := Aside0.mk (hb); have n2_ := Aside0.mk (hi); clear HK; clear HB; clear HI0; have HK := n0_; have HB := n1_; have HI0 := n2_; clear n0_ n1_ n2_; (try clear hb); (try clear hb2); (try clear hk); (try clear hi)) | ((with_reducible refine qc0 (f := 23) rfl ?_); refine qm0 (some 8) rfl rfl Try.func23 z2_10 rfl #[.pointer (some ⟨g, 0, none⟩), .int .i64 40001] rfl z2_6 ?_; (with_reducible refine (spec_l1Below.calls g s0_0 t174 t175 40001 t176 t177 t178 w0 _ ?side1 ?side2 A4.out).mono ?_); (case side1 => exact z2_1); (case side2 => exact z2_2); rintro e w6 ⟨rfl, hi, hb, hk⟩; refine ⟨_, rfl, ?_⟩; have n0_ := Aside0.mk (qd0.trans z2_3 hk (.inl rfl)); have n1_ := Aside0.mk (hb); have n2_ := Aside0.mk (hi); clear HK; clear HB; clear HI0; have HK := n0_; have HB := n1_; have HI0 := n2_; clear n0_ n1_ n2_; (try clear hb); (try clear hb2); (try clear hk); (try clear hi)))
  go_ret
  exact ⟨z2_12, z2_1, z2_2, z2_3⟩
 rw [if_neg c3] at H
 have c3b0 : (t173 == 0) = false := beq_eq_false_iff_ne.mpr c3
 have c3b1 : (t173 != 0) = true := bne_iff_ne.mpr c3
 by_cases c7 : t173 = 1
 ·rw [if_pos c7] at H
  have c7b0 : (t173 == 1) = true := beq_iff_eq.mpr c7
  have c7b1 : (t173 != 1) = false := bne_eq_false_iff_eq.mpr c7
  clear c7
  obtain ⟨y179, hy179⟩ : ∃ y_ : List Int, y_ = (([0, 1, 30, 31, 58, 59, 60, 365, 366, 36524, 40000, 39999] : List Int)) := ⟨_, rfl⟩
  replace H : ((spec_l1PickInt.f s0_0 t174 t175 y179).bind fun bt182 => (some (bt182.1, bt182.2.1, bt182.2.2))) = some (r1, r2, r3) := by first | (rw [hy179]; with_reducible exact H) | (have H2_ := (Option.bind_some _ _).symm.trans H; rw [hy179]; with_reducible exact H2_) | (have H2_ := (Option.bind_some _ _).symm.trans H; with_reducible exact H2_) | with_reducible exact H | (rw [hy179]; exact H) | exact H
  have Ny179 := Aside0.mk hy179
  clear hy179
  replace H := Option.bind_eq_some_iff.mp H
  obtain ⟨⟨t182, t183, t184⟩, A80, H⟩ := H
  replace H : (some (t182, t183, t184)) = some (r1, r2, r3) := H
  have A8 := Aside0.mk A80
  clear A80
  simp only [Option.some.injEq, Prod.mk.injEq] at H
  obtain ⟨rfl, rfl, rfl⟩ := H
  go_enter Try.func21, Try.ntmps21
  go_wp2_with (first | ((with_reducible refine qc0 (f := 23) rfl ?_); refine qm0 (some 4) rfl rfl Try.func23 z2_10 rfl #[.pointer (some ⟨g, 0, none⟩), .int .i64 10] rfl z2_6 ?_; (with_reducible refine (spec_l1Below.calls g s0_0 s0_1 s0_2 10 t173 t174 t175 w0 _ ?side1 ?side2 A2.out).mono ?_); (case side1 => exact z2_1); (case side2 => exact z2_2); rintro e w9 ⟨rfl, hi, hb, hk⟩; refine ⟨_, rfl, ?_⟩; have n0_ := Aside0.mk (qd0.trans z2_3 hk (.inl rfl)); have n1_ := Aside0.mk (hb); have n2_ := Aside0.mk (hi); clear HK; clear HB; clear HI0; have HK := n0_; have HB := n1_; have HI0 := n2_; clear n0_ n1_ n2_; (try clear hb); (try clear hb2); (try clear hk); (try clear hi)) | ((with_reducible refine qs0 (N := 12) rfl ?_); refine Kd.R_lit (Kd.int .i64) _ 3 ?hg (N := 12) ?hd (xs := ([0, 1, 30, 31, 58, 59, 60, 365, 366, 36524, 40000, 39999] : List Int)) (inner := [.int .i64 0, .int .i64 1, .int .i64 30, .int .i64 31, .int .i64 58, .int .i64 59, .int .i64 60, .int .i64 365, .int .i64 366, .int .i64 36524, .int .i64 40000, .int .i64 39999]) (ok := fun _ => True) (okp := fun _ => True) ?hr ?hp (fun _ hk => hk) trivial (Below.refl _ _) (Nat.le_refl _) (by simp) ?_; (case hd => rfl); (case hg => rfl); (case hr => exact z2_19); (case hp => exact (Reps.one (show Kd.M (Kd.int .i64) _ _ _ 0 [.int .i64 0] from rfl) (Reps.one (show Kd.M (Kd.int .i64) _ _ _ 1 [.int .i64 1] from rfl) (Reps.one (show Kd.M (Kd.int .i64) _ _ _ 30 [.int .i64 30] from rfl) (Reps.one (show Kd.M (Kd.int .i64) _ _ _ 31 [.int .i64 31] from rfl) (Reps.one (show Kd.M (Kd.int .i64) _ _ _ 58 [.int .i64 58] from rfl) (Reps.one (show Kd.M (Kd.int .i64) _ _ _ 59 [.int .i64 59] from rfl) (Reps.one (show Kd.M (Kd.int .i64) _ _ _ 60 [.int .i64 60] from rfl) (Reps.one (show Kd.M (Kd.int .i64) _ _ _ 365 [.int .i64 365] from rfl) (Reps.one (show Kd.M (Kd.int .i64) _ _ _ 366 [.int .i64 366] from rfl) (Reps.one (show Kd.M (Kd.int .i64) _ _ _ 36524 [.int .i64 36524] from rfl) (Reps.one (show Kd.M (Kd.int .i64) _ _ _ 40000 [.int .i64 40000] from rfl) (Reps.one (show Kd.M (Kd.int .i64) _ _ _ 39999 [.int .i64 39999] from rfl) (Reps.none _ _)))))))))))))); intro v180 w10 ho11 hb hg_ hnew_; clear hg_ hnew_; (first | rw [← Ny179.out] at ho11 | (simp only [Int.reduceToNat] at ho11; rw [← Ny179.out] at ho11)); have n0_ := Aside0.mk (Kd.R_lower ho11 (keep_size (w := w) (g := g) (row := none) z2_3)); have n1_ := Aside0.mk (IsS66.below z2_1 hb); have n2_ := Aside0.mk (qd0.trans z2_3 (qd0.of_below hb g none) (.inl rfl)); have n3_ := Aside0.mk (qf0 z2_2 hb); clear HI0; clear HK; clear HB; have HO181 := n0_; have HI0 := n1_; have HK := n2_; have HB := n3_; clear n0_ n1_ n2_ n3_; clear hb ho11; obtain ⟨Ao12, co12, eo12⟩ := Kd.R_slice HO181.out; subst eo12) | ((with_reducible refine qc0 (f := 43) rfl ?_); refine qm0 (some 13) rfl rfl Try.func43 z2_10 rfl #[.pointer (some ⟨g, 0, none⟩), .slice Ao12 y179.length co12] rfl z2_6 ?_; (with_reducible refine (spec_l1PickInt.calls g s0_0 t174 t175 _ _ y179 t182 t183 t184 w0 _ ?side1 ?side2 ?side3 ?side4 ?side5 A8.out).mono ?_); (case side1 => exact z2_1); (case side2 => exact z2_2); (case side3 => repeat (first | exact (Kd.qq0 HO181.out).2.2 | (with_reducible refine Kd.C_alloc ?_ _) | (with_reducible refine Kd.C_drewN ?_ _) | (with_reducible refine Kd.C_drew ?_))); (case side4 => exact (Kd.qq0 HO181.out).2.1); (case side5 => exact far_slice (IsS66.own_ne HI0.out HO181.out z2_16)); rintro e w13 ⟨rfl, hi, hb, hk⟩; refine ⟨_, rfl, ?_⟩; have n0_ := Aside0.mk (Kd.qt0 (Kd.qf1 (IsS66.apart (show IsS66 w0 _ g s0_0 t174 t175 from z2_1) (by (with_reducible repeat (first | apply Kd.qx0 | apply Kd.qw0 | apply Kd.R_drew)); exact HO181.out) z2_16) hk (fun _ h => h.2)) (fun _ h => h.1)); have n1_ := Aside0.mk (qd0.trans z2_3 hk (.inl rfl)); have n2_ := Aside0.mk (hb); have n3_ := Aside0.mk (hi); clear HO181; clear HK; clear HB; clear HI0; have HO181 := n0_; have HK := n1_; have HB := n2_; have HI0 := n3_; clear n0_ n1_ n2_ n3_; (try clear hb); (try clear hb2); (try clear hk); (try clear hi)))
  go_ret
  exact ⟨z2_12, z2_1, z2_2, z2_3⟩
 rw [if_neg c7] at H
 have c7b0 : (t173 == 1) = false := beq_eq_false_iff_ne.mpr c7
 have c7b1 : (t173 != 1) = true := bne_iff_ne.mpr c7
 replace H := Option.bind_eq_some_iff.mp H
 obtain ⟨⟨t185, t186, t187⟩, A140, H⟩ := H
 replace H : (some (t185, t186, t187)) = some (r1, r2, r3) := H
 have A14 := Aside0.mk A140
 clear A140
 simp only [Option.some.injEq, Prod.mk.injEq] at H
 obtain ⟨rfl, rfl, rfl⟩ := H
 go_enter Try.func21, Try.ntmps21
 go_wp2_with (first | ((with_reducible refine qc0 (f := 23) rfl ?_); refine qm0 (some 4) rfl rfl Try.func23 z2_10 rfl #[.pointer (some ⟨g, 0, none⟩), .int .i64 10] rfl z2_6 ?_; (with_reducible refine (spec_l1Below.calls g s0_0 s0_1 s0_2 10 t173 t174 t175 w0 _ ?side1 ?side2 A2.out).mono ?_); (case side1 => exact z2_1); (case side2 => exact z2_2); rintro e w15 ⟨rfl, hi, hb, hk⟩; refine ⟨_, rfl, ?_⟩; have n0_ := Aside0.mk (qd0.trans z2_3 hk (.inl rfl)); have n1_ := Aside0.mk (hb); have n2_ := Aside0.mk (hi); clear HK; clear HB; clear HI0; have HK := n0_; have HB := n1_; have HI0 := n2_; clear n0_ n1_ n2_; (try clear hb); (try clear hb2); (try clear hk); (try clear hi)) | ((with_reducible refine qc0 (f := 23) rfl ?_); refine qm0 (some 15) rfl rfl Try.func23 z2_10 rfl #[.pointer (some ⟨g, 0, none⟩), .int .i64 1500] rfl z2_6 ?_; (with_reducible refine (spec_l1Below.calls g s0_0 t174 t175 1500 t185 t186 t187 w0 _ ?side1 ?side2 A14.out).mono ?_); (case side1 => exact z2_1); (case side2 => exact z2_2); rintro e w16 ⟨rfl, hi, hb, hk⟩; refine ⟨_, rfl, ?_⟩; have n0_ := Aside0.mk (qd0.trans z2_3 hk (.inl rfl)); have n1_ := Aside0.mk (hb); have n2_ := Aside0.mk (hi); clear HK; clear HB; clear HI0; have HK := n0_; have HB := n1_; have HI0 := n2_; clear n0_ n1_ n2_; (try clear hb); (try clear hb2); (try clear hk); (try clear hi)))
 go_ret
 exact ⟨z2_12, z2_1, z2_2, z2_3⟩

/-! ### spec_DrawAddWork: function 6 -/
def spec_DrawAddWork.f (k : Nat) (l0 : List Int) : Option (Int × List Int × Int × Int) := (spec_l1New.f k l0).bind fun bt189 => ((spec_l2DrawCal.f k bt189.1 bt189.2.1 bt189.2.2).bind fun bt193 => ((spec_l2DrawDay.f bt189.1 bt193.2.2.1 bt193.2.2.2).bind fun bt200 => ((spec_l2BadDay.f bt189.1 bt200.2.1 bt200.2.2 bt200.1).bind fun bt203 => ((spec_l1Below.f bt189.1 bt203.2.1 bt203.2.2 30).bind fun bt206 => ((spec_l1Spoil.f bt189.1 bt206.2.1 bt206.2.2 (wrap64 (bt206.1 - 12)) (([2000, (-2000), 2001, (-2001)] : List Int))).bind fun bt212 => (some (bt193.1, bt193.2.1, bt203.1, bt212.1)))))))
theorem spec_DrawAddWork.mono : ∀ a0 k, LeO (spec_DrawAddWork.f k a0) (spec_DrawAddWork.f (k + 1) a0) := by
 intro a0 k
 unfold spec_DrawAddWork.f
 repeat' first
   | (with_reducible exact spec_l1New.mono _ _)
   | (with_reducible exact spec_l2DrawCal.mono _ _ _ _)
   | (with_reducible exact LeO.refl _)
   | (with_reducible exact LeO.none _)
   | (with_reducible refine LeO.ite ?_ ?_)
   | (with_reducible refine LeO.bind ?_ (fun _ => ?_))
   | exact spec_l1New.mono _ _
   | exact spec_l2DrawCal.mono _ _ _ _
   | exact LeO.none _
   | refine LeO.ite ?_ ?_
   | refine LeO.bind ?_ (fun _ => ?_)
def spec_DrawAddWork.T3 : Bool × List (List Nat × List Nat) := (true, [([], []), ([], []), ([], []), ([2], [2]), ([1, 3, 3], [1, 3]), ([], []), ([], []), ([6, 4], [6]), ([7], [7]), ([], []), ([5, 8, 9, 7], [5, 8, 9]), ([0, 10, 0], [0]), ([4, 11, 0, 1, 2, 3, 4, 11], [4]), ([10, 12, 0, 1, 2, 3, 4, 5, 6, 7, 8, 9, 10, 11, 12], [10])])
def spec_DrawAddWork.B3 : List Nat := [0, 0, 0, 4, 14, 0, 0, 94, 222, 0, 1022, 2047, 4095, 8191]
theorem spec_DrawAddWork.tab3 : rtab .any (opsOf Try.f6 3) = spec_DrawAddWork.T3 := by kernel_rfl
theorem spec_DrawAddWork.bits3 : waitsOk spec_DrawAddWork.T3.2 spec_DrawAddWork.B3 = true := by kernel_rfl
set_option maxHeartbeats 8000000 in
set_option maxRecDepth 100000 in
theorem spec_DrawAddWork.calls (k : Nat) (A0 : Option Addr) (c0 : Nat) (l0 : List Int) (r1 : Int) (r2 : List Int) (r3 : Int) (r4 : Int) (w : World) (hr0 : Kd.C (Kd.int .u8) w A0 l0.length l0) (hc0 : l0.length ≤ c0) (h : spec_DrawAddWork.f k l0 = some (r1, r2, r3, r4)) :
  Calls Try.prog 6 #[.slice A0 l0.length c0] w fun e w' => ∃ v1_ : Value, e = .returned (.tuple #[.agg #[.int .i64 r1, v1_], .int .i64 r3, .int .i64 r4]) ∧ Kd.R (Kd.int .i64) 3 w' w.heap.size (fun _ => True) v1_ r2 ∧ Below w.heap.size w w' := by
 have hu26 := Try.underlying26
 have HR0 := Aside0.mk hr0
 have HC0 := Aside0.mk hc0
 clear hr0 hc0
 have HB := Aside0.mk (Below.refl w.heap.size w)
 have H : ((spec_l1New.f k l0).bind fun bt189 => ((spec_l2DrawCal.f k bt189.1 bt189.2.1 bt189.2.2).bind fun bt193 => ((spec_l2DrawDay.f bt189.1 bt193.2.2.1 bt193.2.2.2).bind fun bt200 => ((spec_l2BadDay.f bt189.1 bt200.2.1 bt200.2.2 bt200.1).bind fun bt203 => ((spec_l1Below.f bt189.1 bt203.2.1 bt203.2.2 30).bind fun bt206 => ((spec_l1Spoil.f bt189.1 bt206.2.1 bt206.2.2 (wrap64 (bt206.1 - 12)) (([2000, (-2000), 2001, (-2001)] : List Int))).bind fun bt212 => (some (bt193.1, bt193.2.1, bt203.1, bt212.1)))))))) = some (r1, r2, r3, r4) := h
 clear h
 replace H := Option.bind_eq_some_iff.mp H
 obtain ⟨⟨t189, t190, t191⟩, A20, H⟩ := H
 replace H : ((spec_l2DrawCal.f k t189 t190 t191).bind fun bt193 => ((spec_l2DrawDay.f t189 bt193.2.2.1 bt193.2.2.2).bind fun bt200 => ((spec_l2BadDay.f t189 bt200.2.1 bt200.2.2 bt200.1).bind fun bt203 => ((spec_l1Below.f t189 bt203.2.1 bt203.2.2 30).bind fun bt206 => ((spec_l1Spoil.f t189 bt206.2.1 bt206.2.2 (wrap64 (bt206.1 - 12)) (([2000, (-2000), 2001, (-2001)] : List Int))).bind fun bt212 => (some (bt193.1, bt193.2.1, bt203.1, bt212.1))))))) = some (r1, r2, r3, r4) := H
 have A2 := Aside0.mk A20
 clear A20
 replace H := Option.bind_eq_some_iff.mp H
 obtain ⟨⟨t193, t194, t197, t198⟩, A30, H⟩ := H
 replace H : ((spec_l2DrawDay.f t189 t197 t198).bind fun bt200 => ((spec_l2BadDay.f t189 bt200.2.1 bt200.2.2 bt200.1).bind fun bt203 => ((spec_l1Below.f t189 bt203.2.1 bt203.2.2 30).bind fun bt206 => ((spec_l1Spoil.f t189 bt206.2.1 bt206.2.2 (wrap64 (bt206.1 - 12)) (([2000, (-2000), 2001, (-2001)] : List Int))).bind fun bt212 => (some (t193, t194, bt203.1, bt212.1)))))) = some (r1, r2, r3, r4) := H
 have A3 := Aside0.mk A30
 clear A30
 replace H := Option.bind_eq_some_iff.mp H
 obtain ⟨⟨t200, t201, t202⟩, A40, H⟩ := H
 replace H : ((spec_l2BadDay.f t189 t201 t202 t200).bind fun bt203 => ((spec_l1Below.f t189 bt203.2.1 bt203.2.2 30).bind fun bt206 => ((spec_l1Spoil.f t189 bt206.2.1 bt206.2.2 (wrap64 (bt206.1 - 12)) (([2000, (-2000), 2001, (-2001)] : List Int))).bind fun bt212 => (some (t193, t194, bt203.1, bt212.1))))) = some (r1, r2, r3, r4) := H
 have A4 := Aside0.mk A40
 clear A40
 replace H := Option.bind_eq_some_iff.mp H
 obtain ⟨⟨t203, t204, t205⟩, A50, H⟩ := H
 replace H : ((spec_l1Below.f t189 t204 t205 30).bind fun bt206 => ((spec_l1Spoil.f t189 bt206.2.1 bt206.2.2 (wrap64 (bt206.1 - 12)) (([2000, (-2000), 2001, (-2001)] : List Int))).bind fun bt212 => (some (t193, t194, t203, bt212.1)))) = some (r1, r2, r3, r4) := H
 have A5 := Aside0.mk A50
 clear A50
 replace H := Option.bind_eq_some_iff.mp H
 obtain ⟨⟨t206, t207, t208⟩, A60, H⟩ := H
 replace H : ((spec_l1Spoil.f t189 t207 t208 (wrap64 (t206 - 12)) (([2000, (-2000), 2001, (-2001)] : List Int))).bind fun bt212 => (some (t193, t194, t203, bt212.1))) = some (r1, r2, r3, r4) := H
 have A6 := Aside0.mk A60
 clear A60
 obtain ⟨y209, hy209⟩ : ∃ y_ : List Int, y_ = (([2000, (-2000), 2001, (-2001)] : List Int)) := ⟨_, rfl⟩
 replace H : ((spec_l1Spoil.f t189 t207 t208 (wrap64 (t206 - 12)) y209).bind fun bt212 => (some (t193, t194, t203, bt212.1))) = some (r1, r2, r3, r4) := by first | (rw [hy209]; with_reducible exact H) | (have H2_ := (Option.bind_some _ _).symm.trans H; rw [hy209]; with_reducible exact H2_) | (have H2_ := (Option.bind_some _ _).symm.trans H; with_reducible exact H2_) | with_reducible exact H | (rw [hy209]; exact H) | exact H
 have Ny209 := Aside0.mk hy209
 clear hy209
 replace H := Option.bind_eq_some_iff.mp H
 obtain ⟨⟨t212, t213, t214⟩, A70, H⟩ := H
 replace H : (some (t193, t194, t203, t212)) = some (r1, r2, r3, r4) := H
 have A7 := Aside0.mk A70
 clear A70
 simp only [Option.some.injEq, Prod.mk.injEq] at H
 obtain ⟨rfl, rfl, rfl, rfl⟩ := H
 go_enter Try.func6, Try.ntmps6
 try go_wp2_with (first | ((with_reducible refine qs0 (N := 2) rfl ?_); refine qr0 ?hg (N := 2) ?hd (cs := #[.int .i64 0, .slice none 0 0]) (t := 26) ?hr ?_; (case hd => rfl); (case hg => rfl); (case hr => exact z2_19); intro gb188 hg w8 hbox hb; have n0_ := Aside0.mk (qf0 z2_17 hb); have n1_ := Aside0.mk (hbox); have n2_ := Aside0.mk ((z2_18 : w.heap.size ≤ gb188)); have n3_ := Aside0.mk ((z2_18 : w.heap.size ≤ gb188)); clear HB; have HB := n0_; have BK188 := n1_; have GW188 := n2_; have GE188 := n3_; clear n0_ n1_ n2_ n3_; clear hb hbox hg) | ((with_reducible refine qc0 (f := 18) rfl ?_); refine qm0 (some 8) rfl rfl Try.func18 z2_10 rfl #[.slice A0 l0.length c0] rfl z2_6 ?_; (with_reducible refine (spec_l1New.calls k _ _ l0 t189 t190 t191 w _ ?side1 ?side2 ?side3 A2.out).mono ?_); (case side1 => repeat (first | (with_reducible first | exact HB.out | apply qh0 | apply qe0 | apply qi0 | refine qo0 ?_ GE188.out) | exact HB.out)); (case side2 => exact HR0.out); (case side3 => exact HC0.out); rintro e w9 ⟨g192, rfl, hi, hb, hb2⟩; refine ⟨_, rfl, ?_⟩; have n0_ := Aside0.mk (ql0 (g := gb188) (o := .cells #[.int .i64 0, .slice none 0 0] 26 (0, 0)) z2_5 hb2); have n1_ := Aside0.mk (hb); have n2_ := Aside0.mk (hi); have n3_ := Aside0.mk (IsS66.ne_blk hi (ql0 (g := gb188) (o := .cells #[.int .i64 0, .slice none 0 0] 26 (0, 0)) z2_5 hb2) z2_16); have n4_ := Aside0.mk (Ne.symm (IsS66.ne_blk hi (ql0 (g := gb188) (o := .cells #[.int .i64 0, .slice none 0 0] 26 (0, 0)) z2_5 hb2) z2_16)); clear BK188; clear HB; have BK188 := n0_; have HB := n1_; have HI192 := n2_; have NB192_188 := n3_; have NB188_192 := n4_; clear n0_ n1_ n2_ n3_ n4_; (try clear hb); (try clear hb2); (try clear hk); (try clear hi)) | ((with_reducible refine qc0 (f := 19) rfl ?_); refine qm0 (some 10) rfl rfl Try.func19 z2_10 rfl #[.pointer (some ⟨g192, 0, none⟩)] rfl z2_6 ?_; (with_reducible refine (spec_l2DrawCal.calls k g192 t189 t190 t191 t193 t194 t197 t198 w _ ?side1 ?side2 A3.out).mono ?_); (case side1 => exact z2_11); (case side2 => exact z2_9); rintro e w10 ⟨v195, rfl, ho0, hi, hb, hk⟩; refine ⟨_, rfl, ?_⟩; have n0_ := Aside0.mk (qd0.blk hk (g' := gb188) (o := .cells #[.int .i64 0, .slice none 0 0] 26 (0, 0)) z2_5 NB188_192.out (by simp)); have n1_ := Aside0.mk (Kd.R_lower ho0 (below_size z2_9)); have n2_ := Aside0.mk (hb); have n3_ := Aside0.mk (hi); clear BK188; clear HB; clear HI192; have BK188 := n0_; have HO196 := n1_; have HB := n2_; have HI192 := n3_; clear n0_ n1_ n2_ n3_; (try clear hb); (try clear hb2); (try clear hk); (try clear hi); (try clear ho0)) | ((with_reducible refine qs0 (N := 6) rfl ?_); refine qr0 ?hg (N := 6) ?hd (cs := #[.int .i64 0, .slice none 0 0]) (t := 26) ?hr ?_; (case hd => rfl); (case hg => rfl); (case hr => exact z2_19); intro gb199 hg w11 hbox hb; have n0_ := Aside0.mk (Kd.qz0 z2_8 hb); have n1_ := Aside0.mk (ql0 (g := gb188) (o := .cells #[.int .i64 0, .slice none 0 0] 26 (0, 0)) z2_5 hb); have n2_ := Aside0.mk (IsS66.below z2_11 hb); have n3_ := Aside0.mk (qf0 z2_9 hb); have n4_ := Aside0.mk (hbox); have n5_ := Aside0.mk ((z2_15 : w.heap.size ≤ gb199)); have n6_ := Aside0.mk ((z2_15 : w.heap.size ≤ gb199)); have n7_ := Aside0.mk ((by rw [hg]; exact Nat.ne_of_lt (qu0 (g := gb188) (o := .cells #[.int .i64 0, .slice none 0 0] 26 (0, 0)) z2_5) : gb188 ≠ gb199)); have n8_ := Aside0.mk ((by rw [hg]; exact Nat.ne_of_gt (qu0 (g := gb188) (o := .cells #[.int .i64 0, .slice none 0 0] 26 (0, 0)) z2_5) : gb199 ≠ gb188)); have n9_ := Aside0.mk ((by rw [hg]; exact Nat.ne_of_lt (IsS66.lt (show IsS66 w _ g192 t189 t197 t198 from z2_11)) : g192 ≠ gb199)); have n10_ := Aside0.mk ((by rw [hg]; exact Nat.ne_of_gt (IsS66.lt (show IsS66 w _ g192 t189 t197 t198 from z2_11)) : gb199 ≠ g192)); clear HO196; clear BK188; clear HI192; clear HB; have HO196 := n0_; have BK188 := n1_; have HI192 := n2_; have HB := n3_; have BK199 := n4_; have GW199 := n5_; have GE199 := n6_; have NB188_199 := n7_; have NB199_188 := n8_; have NB192_199 := n9_; have NB199_192 := n10_; clear n0_ n1_ n2_ n3_ n4_ n5_ n6_ n7_ n8_ n9_ n10_; clear hb hbox hg; have hnb12 := NB199_188.out; have hnc12 := NB188_199.out; have hnb13 := NB199_192.out; have hnc13 := NB192_199.out; have hcz14_0 : w11.cell? ⟨gb199, 0, none⟩ = some (.int .i64 0) := (qb0 BK199.out 0).trans rfl; have hcz14_1 : w11.cell? ⟨gb199, 1, none⟩ = some (.slice none 0 0) := (qb0 BK199.out 1).trans rfl; have hfz14_0 := qa0 BK199.out 0; have hfz14_1 := qa0 BK199.out 1; obtain ⟨Ao15, co15, eo15⟩ := Kd.R_slice HO196.out; subst eo15))
 have n0_ : Aside0 (Kd.R (Kd.int .i64) 3 ((w11.setCell ⟨gb199, 0, none⟩ (.int .i64 t193)).setCell ⟨gb199, 1, none⟩ (.slice Ao15 t194.length co15)) w.heap.size (fun _ => True) (.slice Ao15 t194.length co15) t194) := ⟨by (with_reducible repeat (first | apply Kd.qx0 | apply Kd.qw0 | apply Kd.R_drew)); exact Kd.qt0 (Kd.R_far (p := ⟨gb199, 1, none⟩) (Kd.R_far (p := ⟨gb199, 0, none⟩) (Kd.R_types HO196.out BK199.out z2_16) (fun _ hk => hk.2) (.int .i64 t193)) (fun _ hk => hk.2) (.slice Ao15 t194.length co15)) (fun _ hk => trivial)⟩
 have n1_ : Aside0 (((w11.setCell ⟨gb199, 0, none⟩ (.int .i64 t193)).setCell ⟨gb199, 1, none⟩ (.slice Ao15 t194.length co15)).heap[gb188]? = some (.cells #[.int .i64 0, .slice none 0 0] 26 (0, 0))) := ⟨by (with_reducible repeat (first | refine qj0 ?_ _ | refine qk0 ?_ | refine qg0 ?_ _)); refine blk_far ?_ NB188_199.out _; (with_reducible repeat (first | refine qj0 ?_ _ | refine qk0 ?_ | refine qg0 ?_ _)); refine blk_far ?_ NB188_199.out _; (with_reducible repeat (first | refine qj0 ?_ _ | refine qk0 ?_ | refine qg0 ?_ _)); exact BK188.out⟩
 have n2_ : Aside0 (((w11.setCell ⟨gb199, 0, none⟩ (.int .i64 t193)).setCell ⟨gb199, 1, none⟩ (.slice Ao15 t194.length co15)).heap[gb199]? = some (.cells #[.int .i64 t193, .slice Ao15 t194.length co15] 26 (0, 0))) := ⟨by (with_reducible repeat (first | refine qj0 ?_ _ | refine qk0 ?_ | refine qg0 ?_ _)); refine qy0 (cs := #[.int .i64 t193, .slice none 0 0]) ?_ 1 _ rfl; (with_reducible repeat (first | refine qj0 ?_ _ | refine qk0 ?_ | refine qg0 ?_ _)); refine qy0 (cs := #[.int .i64 0, .slice none 0 0]) ?_ 0 _ rfl; (with_reducible repeat (first | refine qj0 ?_ _ | refine qk0 ?_ | refine qg0 ?_ _)); exact BK199.out⟩
 have n3_ : Aside0 (IsS66 w ((w11.setCell ⟨gb199, 0, none⟩ (.int .i64 t193)).setCell ⟨gb199, 1, none⟩ (.slice Ao15 t194.length co15)) g192 t189 t197 t198) := ⟨z2_0⟩
 have n4_ : Aside0 (Below w.heap.size w ((w11.setCell ⟨gb199, 0, none⟩ (.int .i64 t193)).setCell ⟨gb199, 1, none⟩ (.slice Ao15 t194.length co15))) := ⟨z2_4⟩
 (try clear HO196)
 (try clear BK188)
 (try clear BK199)
 (try clear HI192)
 (try clear HB)
 generalize ((w11.setCell ⟨gb199, 0, none⟩ (.int .i64 t193)).setCell ⟨gb199, 1, none⟩ (.slice Ao15 t194.length co15)) = w16 at n0_ n1_ n2_ n3_ n4_ ⊢
 have HO196 := n0_
 have BK188 := n1_
 have BK199 := n2_
 have HI192 := n3_
 have HB := n4_
 clear n0_ n1_ n2_ n3_ n4_
 have n0_ := Aside0.mk (Kd.R_drew HO196.out)
 have n1_ := Aside0.mk (qk0 BK188.out)
 have n2_ := Aside0.mk (qk0 BK199.out)
 have n3_ := Aside0.mk (IsS66.drew HI192.out)
 have n4_ := Aside0.mk (qi0 HB.out)
 clear HO196
 clear BK188
 clear BK199
 clear HI192
 clear HB
 have HO196 := n0_
 have BK188 := n1_
 have BK199 := n2_
 have HI192 := n3_
 have HB := n4_
 clear n0_ n1_ n2_ n3_ n4_
 refine start_ (n := 14) (S := fun w' => True) (ds := []) (rb2 [0, 14]) z2_10 rfl rfl trivial (fun hHeld => ?_); refine with_tabW spec_DrawAddWork.tab3 spec_DrawAddWork.bits3 (fun HT_ HW_ => ?_)
 generalize w16.drew = w17 at HO196 BK188 BK199 HI192 HB hHeld ⊢
 refine pure_ (i := 1) (N := some 12) (v := ?_) (a' := ?_) (rb2 [0, 1, 1, 12]) rfl rfl (any_of HT_.out z2_10) (fun _ _ _ h => h) (Or.inl ⟨by rfl, ?_⟩) ?_ ?_
 rotate_left
 ·intro w'
  go_simp
  with_reducible rfl
 rotate_left
 ·simp only [Act.put, List.setIfInBounds_toArray, List.set_cons_zero, List.set_cons_succ, i64_w, i32_w]
  rfl
 refine pure_ (i := 2) (N := some 13) (v := ?_) (a' := ?_) (rb2 [0, 1, 2, 11]) rfl rfl (any_of HT_.out z2_10) (fun _ _ _ h => h) (Or.inl ⟨by rfl, ?_⟩) ?_ ?_
 rotate_left
 ·intro w'
  go_simp
  with_reducible rfl
 rotate_left
 ·simp only [Act.put, List.setIfInBounds_toArray, List.set_cons_zero, List.set_cons_succ, i64_w, i32_w]
  rfl
 refine pure_ (i := 5) (N := some 16) (v := ?_) (a' := ?_) (rb2 [0, 1, 2, 2, 1, 8]) rfl rfl (any_of HT_.out z2_10) (fun _ _ _ h => h) (Or.inl ⟨by rfl, ?_⟩) ?_ ?_
 rotate_left
 ·intro w'
  go_simp
  with_reducible rfl
 rotate_left
 ·simp only [Act.put, List.setIfInBounds_toArray, List.set_cons_zero, List.set_cons_succ, i64_w, i32_w]
  rfl
 refine pure_ (i := 6) (N := some 17) (v := ?_) (a' := ?_) (rb2 [0, 1, 2, 2, 2, 7]) rfl rfl (any_of HT_.out z2_10) (fun _ _ _ h => h) (Or.inl ⟨by rfl, ?_⟩) ?_ ?_
 rotate_left
 ·intro w'
  go_simp
  with_reducible rfl
 rotate_left
 ·simp only [Act.put, List.setIfInBounds_toArray, List.set_cons_zero, List.set_cons_succ, i64_w, i32_w]
  rfl
 refine inv_at [0, 3, 4, 7, 8, 9, 10, 11, 12, 13] (fun a0_ b a w' => ∃ (v210 : Value), a = qe1 a0_ b [(0, 11, .agg #[.int .i64 t193, .slice Ao15 t194.length co15]), (3, 14, .int .i64 t200), (4, 15, .int .i64 t203), (7, 18, .int .i64 t206), (8, 19, .int .i64 (wrap64 (t206 - 12))), (9, 20, v210), (10, 21, .int .i64 t212), (12, 3, .int .i64 t203), (13, 4, .int .i64 t212)] ∧ (Kd.R (Kd.int .i64) 3 w' w.heap.size (fun _ => True) (.slice Ao15 t194.length co15) t194) ∧ (b 11 = false → w'.heap[gb188]? = some (.cells #[.int .i64 0, .slice none 0 0] 26 (0, 0))) ∧ (w'.heap[gb199]? = some (.cells #[.int .i64 t193, .slice Ao15 t194.length co15] 26 (0, 0))) ∧ (b 3 = false → IsS66 w w' g192 t189 t197 t198) ∧ (Below w.heap.size w w') ∧ (b 3 = true → b 4 = false → IsS66 w w' g192 t189 t201 t202) ∧ (b 4 = true → b 7 = false → IsS66 w w' g192 t189 t204 t205) ∧ (b 7 = true → b 10 = false → IsS66 w w' g192 t189 t207 t208) ∧ (b 9 = true → Kd.R (Kd.int .i64) 3 w' w.heap.size (fun k_ => some k_ ≠ (.slice Ao15 t194.length co15 : Value).ownBlock) v210 y209) ∧ (b 10 = true → IsS66 w w' g192 t189 t213 t214) ∧ (b 11 = true → w'.heap[gb188]? = some (.cells #[.int .i64 t193, .slice Ao15 t194.length co15] 26 (0, 0)))) HT_.out HW_.out z2_10 z2_10 ?_ ?_ ?_
 ·exact ⟨.bool false, by simp only [qe1, Bool.false_eq_true, if_false], HO196.out, fun _ => BK188.out, BK199.out, fun _ => HI192.out, HB.out, fun h_ => absurd h_ z2_16, fun h_ => absurd h_ z2_16, fun h_ => absurd h_ z2_16, fun h_ => absurd h_ z2_16, fun h_ => absurd h_ z2_16, fun h_ => absurd h_ z2_16⟩
 ·skip
  clear BK188 BK199 HB HI192 HO196
  refine steps_cons ?_ ?_
  ·rintro b a w' ⟨v210, ha, Q_HO196, Q_BK188, Q_BK199, Q_HI192, Q_HB, Q_HI192_e3, Q_HI192_e4, Q_HI192_e7, Q_HO211, Q_HI192_e10, Q_BK188_e11⟩ hb_ hon hoff
   refine ⟨_, rfl, fun K hK => ?_⟩
   have e6 : a.tmps[6]? = some (.pointer (some ⟨gb199, 0, none⟩)) := by rw [ha]; exact (putSel_off rfl).trans rfl
   replace ha := Aside0.mk ha
   have HO196 := Aside0.mk Q_HO196
   have BK188 := Aside0.mk (Q_BK188 (hoff 11 z2_10))
   have BK199 := Aside0.mk Q_BK199
   have HB := Aside0.mk Q_HB
   have hc0_ : w'.cell? ⟨gb199, 0, none⟩ = some (.int .i64 t193) := (qb0 BK199.out 0).trans rfl
   have hc1_ : w'.cell? ⟨gb199, 1, none⟩ = some (.slice Ao15 t194.length co15) := (qb0 BK199.out 1).trans rfl
   refine value_ (w1 := w') (v := .agg #[.int .i64 t193, .slice Ao15 t194.length co15]) (by rfl) rfl ?_ ?_
   ·go_simp
    (try simp only [i64_w])
    try rfl
   refine hK.out _ _ ⟨v210, (by rw [ha.out]; exact putSel_upk 0 hb_ rfl rfl rfl), Q_HO196, Q_BK188, Q_BK199, Q_HI192, Q_HB, Q_HI192_e3, Q_HI192_e4, Q_HI192_e7, Q_HO211, Q_HI192_e10, fun h0_ => absurd ((hoff 11 z2_10).symm.trans h0_) z2_16⟩
  refine steps_cons ?_ ?_
  ·rintro b a w' ⟨v210, ha, Q_HO196, Q_BK188, Q_BK199, Q_HI192, Q_HB, Q_HI192_e3, Q_HI192_e4, Q_HI192_e7, Q_HO211, Q_HI192_e10, Q_BK188_e11⟩ hb_ hon hoff
   refine ⟨_, rfl, fun K hK => ?_⟩
   have e13 : a.tmps[13]? = some (.pointer (some ⟨g192, 0, none⟩)) := by rw [ha]; exact (putSel_off rfl).trans rfl
   replace ha := Aside0.mk ha
   have HO196 := Aside0.mk Q_HO196
   have BK188 := Aside0.mk (Q_BK188 (hoff 11 z2_10))
   have BK199 := Aside0.mk Q_BK199
   have HI192 := Aside0.mk (Q_HI192 hb_)
   have HB := Aside0.mk Q_HB
   refine goes_ Try.func21 z2_10 rfl #[.pointer (some ⟨g192, 0, none⟩)] (by rfl) rfl rfl (by first | (simp only [List.map_toArray, List.map_cons, List.map_nil, Act.eval, Array.getD_eq_getD_getElem?, Option.getD_some, e13]; done) | (simp only [List.map_toArray, List.map_cons, List.map_nil, Act.eval, Array.getD_eq_getD_getElem?, Option.getD_some, e13]; rfl)) ?_
   with_reducible refine (spec_l2DrawDay.calls g192 t189 t197 t198 t200 t201 t202 w _ ?side1 ?side2 A4.out).mono ?_
   (case side1 => exact z2_0)
   (case side2 => exact z2_4)
   rintro e w18 ⟨rfl, hi, hb, hk⟩
   refine ⟨_, rfl, ?_⟩
   have n0_ := Aside0.mk (qd0.blk hk (g' := gb188) (o := .cells #[.int .i64 0, .slice none 0 0] 26 (0, 0)) z2_5 NB188_192.out (by simp))
   have n1_ := Aside0.mk (Kd.qt0 (Kd.qf1 (IsS66.apart (show IsS66 w _ g192 t189 t197 t198 from z2_0) z2_8 z2_16) hk (fun _ h => h.2)) (fun _ h => h.1))
   have n2_ := Aside0.mk (qd0.blk hk (g' := gb199) (o := .cells #[.int .i64 t193, .slice Ao15 t194.length co15] 26 (0, 0)) z2_7 NB199_192.out (by simp))
   have n3_ := Aside0.mk (hb)
   have n4_ := Aside0.mk (hi)
   have z_HO211 := fun (h0_ : b 9 = true) => (show Kd.R (Kd.int .i64) 3 w18 w.heap.size (fun k_ => some k_ ≠ (.slice Ao15 t194.length co15 : Value).ownBlock) v210 y209 from by first | exact (Kd.qt0 (Kd.qf1 (IsS66.apart (show IsS66 w _ g192 t189 t197 t198 from z2_0) z2_13 z2_16) hk (fun _ h => h.2)) (fun _ h => h.1)) | exact Kd.qt0 (Kd.qt0 (Kd.qf1 (IsS66.apart (show IsS66 w _ g192 t189 t197 t198 from z2_0) z2_13 z2_16) hk (fun _ h => h.2)) (fun _ h => h.1)) (fun _ h_ => by first | trivial | exact h_ | exact h_.1))
   clear BK188
   clear HO196
   clear BK199
   clear HB
   clear HI192
   have BK188 := n0_
   have HO196 := n1_
   have BK199 := n2_
   have HB := n3_
   have HI192 := n4_
   clear n0_ n1_ n2_ n3_ n4_
   (try clear hb)
   (try clear hb2)
   (try clear hk)
   (try clear hi)
   refine hK.out _ _ ⟨v210, (by rw [ha.out]; exact putSel_upk 1 hb_ rfl rfl rfl), z2_8, fun _ => z2_5, z2_7, fun h0_ => absurd ((up_self b 3).symm.trans h0_) z2_16, z2_4, fun _ _ => z2_0, fun h0_ _ => absurd ((hoff 4 z2_10).symm.trans h0_) z2_16, fun h0_ _ => absurd ((hoff 7 z2_10).symm.trans h0_) z2_16, z_HO211, fun h0_ => absurd ((hoff 10 z2_10).symm.trans h0_) z2_16, fun h0_ => absurd ((hoff 11 z2_10).symm.trans h0_) z2_16⟩
  refine steps_cons ?_ ?_
  ·rintro b a w' ⟨v210, ha, Q_HO196, Q_BK188, Q_BK199, Q_HI192, Q_HB, Q_HI192_e3, Q_HI192_e4, Q_HI192_e7, Q_HO211, Q_HI192_e10, Q_BK188_e11⟩ hb_ hon hoff
   refine ⟨_, rfl, fun K hK => ?_⟩
   have e12 : a.tmps[12]? = some (.pointer (some ⟨g192, 0, none⟩)) := by rw [ha]; exact (putSel_off rfl).trans rfl
   have e14 : a.tmps[14]? = some (.int .i64 t200) := by rw [ha]; exact putSel_on (e := (3, 14, .int .i64 t200)) 1 rfl rfl (hon 3 z2_10) rfl
   replace ha := Aside0.mk ha
   have HO196 := Aside0.mk Q_HO196
   have BK188 := Aside0.mk (Q_BK188 (hoff 11 z2_10))
   have BK199 := Aside0.mk Q_BK199
   have HB := Aside0.mk Q_HB
   have HI192 := Aside0.mk (Q_HI192_e3 (hon 3 z2_10) hb_)
   refine goes_ Try.func20 z2_10 rfl #[.pointer (some ⟨g192, 0, none⟩), .int .i64 t200] (by rfl) rfl rfl (by first | (simp only [List.map_toArray, List.map_cons, List.map_nil, Act.eval, Array.getD_eq_getD_getElem?, Option.getD_some, e12, e14]; done) | (simp only [List.map_toArray, List.map_cons, List.map_nil, Act.eval, Array.getD_eq_getD_getElem?, Option.getD_some, e12, e14]; rfl)) ?_
   with_reducible refine (spec_l2BadDay.calls g192 t189 t201 t202 t200 t203 t204 t205 w _ ?side1 ?side2 A5.out).mono ?_
   (case side1 => exact z2_0)
   (case side2 => exact z2_4)
   rintro e w20 ⟨rfl, hi, hb, hk⟩
   refine ⟨_, rfl, ?_⟩
   have n0_ := Aside0.mk (qd0.blk hk (g' := gb188) (o := .cells #[.int .i64 0, .slice none 0 0] 26 (0, 0)) z2_5 NB188_192.out (by simp))
   have n1_ := Aside0.mk (Kd.qt0 (Kd.qf1 (IsS66.apart (show IsS66 w _ g192 t189 t201 t202 from z2_0) z2_8 z2_16) hk (fun _ h => h.2)) (fun _ h => h.1))
   have n2_ := Aside0.mk (qd0.blk hk (g' := gb199) (o := .cells #[.int .i64 t193, .slice Ao15 t194.length co15] 26 (0, 0)) z2_7 NB199_192.out (by simp))
   have n3_ := Aside0.mk (hb)
   have n4_ := Aside0.mk (hi)
   have z_HO211 := fun (h0_ : b 9 = true) => (show Kd.R (Kd.int .i64) 3 w20 w.heap.size (fun k_ => some k_ ≠ (.slice Ao15 t194.length co15 : Value).ownBlock) v210 y209 from by first | exact (Kd.qt0 (Kd.qf1 (IsS66.apart (show IsS66 w _ g192 t189 t201 t202 from z2_0) z2_13 z2_16) hk (fun _ h => h.2)) (fun _ h => h.1)) | exact Kd.qt0 (Kd.qt0 (Kd.qf1 (IsS66.apart (show IsS66 w _ g192 t189 t201 t202 from z2_0) z2_13 z2_16) hk (fun _ h => h.2)) (fun _ h => h.1)) (fun _ h_ => by first | trivial | exact h_ | exact h_.1))
   clear BK188
   clear HO196
   clear BK199
   clear HB
   clear HI192
   have BK188 := n0_
   have HO196 := n1_
   have BK199 := n2_
   have HB := n3_
   have HI192 := n4_
   clear n0_ n1_ n2_ n3_ n4_
   (try clear hb)
   (try clear hb2)
   (try clear hk)
   (try clear hi)
   refine hK.out _ _ ⟨v210, (by rw [ha.out]; exact putSel_upk 2 hb_ rfl rfl rfl), z2_8, fun _ => z2_5, z2_7, fun h0_ => absurd ((hon 3 z2_10).symm.trans h0_) z2_16, z2_4, fun _ h1_ => absurd ((up_self b 4).symm.trans h1_) z2_16, fun _ _ => z2_0, fun h0_ _ => absurd ((hoff 7 z2_10).symm.trans h0_) z2_16, z_HO211, fun h0_ => absurd ((hoff 10 z2_10).symm.trans h0_) z2_16, fun h0_ => absurd ((hoff 11 z2_10).symm.trans h0_) z2_16⟩
  refine steps_cons ?_ ?_
  ·rintro b a w' ⟨v210, ha, Q_HO196, Q_BK188, Q_BK199, Q_HI192, Q_HB, Q_HI192_e3, Q_HI192_e4, Q_HI192_e7, Q_HO211, Q_HI192_e10, Q_BK188_e11⟩ hb_ hon hoff
   refine ⟨_, rfl, fun K hK => ?_⟩
   have e17 : a.tmps[17]? = some (.pointer (some ⟨g192, 0, none⟩)) := by rw [ha]; exact (putSel_off rfl).trans rfl
   replace ha := Aside0.mk ha
   have HO196 := Aside0.mk Q_HO196
   have BK188 := Aside0.mk (Q_BK188 (hoff 11 z2_10))
   have BK199 := Aside0.mk Q_BK199
   have HB := Aside0.mk Q_HB
   have HI192 := Aside0.mk (Q_HI192_e4 (hon 4 z2_10) hb_)
   refine goes_ Try.func23 z2_10 rfl #[.pointer (some ⟨g192, 0, none⟩), .int .i64 30] (by rfl) rfl rfl (by first | (simp only [List.map_toArray, List.map_cons, List.map_nil, Act.eval, Array.getD_eq_getD_getElem?, Option.getD_some, e17]; done) | (simp only [List.map_toArray, List.map_cons, List.map_nil, Act.eval, Array.getD_eq_getD_getElem?, Option.getD_some, e17]; rfl)) ?_
   with_reducible refine (spec_l1Below.calls g192 t189 t204 t205 30 t206 t207 t208 w _ ?side1 ?side2 A6.out).mono ?_
   (case side1 => exact z2_0)
   (case side2 => exact z2_4)
   rintro e w21 ⟨rfl, hi, hb, hk⟩
   refine ⟨_, rfl, ?_⟩
   have n0_ := Aside0.mk (qd0.blk hk (g' := gb188) (o := .cells #[.int .i64 0, .slice none 0 0] 26 (0, 0)) z2_5 NB188_192.out (by simp))
   have n1_ := Aside0.mk (Kd.qt0 (Kd.qf1 (IsS66.apart (show IsS66 w _ g192 t189 t204 t205 from z2_0) z2_8 z2_16) hk (fun _ h => h.2)) (fun _ h => h.1))
   have n2_ := Aside0.mk (qd0.blk hk (g' := gb199) (o := .cells #[.int .i64 t193, .slice Ao15 t194.length co15] 26 (0, 0)) z2_7 NB199_192.out (by simp))
   have n3_ := Aside0.mk (hb)
   have n4_ := Aside0.mk (hi)
   have z_HO211 := fun (h0_ : b 9 = true) => (show Kd.R (Kd.int .i64) 3 w21 w.heap.size (fun k_ => some k_ ≠ (.slice Ao15 t194.length co15 : Value).ownBlock) v210 y209 from by first | exact (Kd.qt0 (Kd.qf1 (IsS66.apart (show IsS66 w _ g192 t189 t204 t205 from z2_0) z2_13 z2_16) hk (fun _ h => h.2)) (fun _ h => h.1)) | exact Kd.qt0 (Kd.qt0 (Kd.qf1 (IsS66.apart (show IsS66 w _ g192 t189 t204 t205 from z2_0) z2_13 z2_16) hk (fun _ h => h.2)) (fun _ h => h.1)) (fun _ h_ => by first | trivial | exact h_ | exact h_.1))
   clear BK188
   clear HO196
   clear BK199
   clear HB
   clear HI192
   have BK188 := n0_
   have HO196 := n1_
   have BK199 := n2_
   have HB := n3_
   have HI192 := n4_
   clear n0_ n1_ n2_ n3_ n4_
   (try clear hb)
   (try clear hb2)
   (try clear hk)
   (try clear hi)
   refine hK.out _ _ ⟨v210, (by rw [ha.out]; exact putSel_upk 3 hb_ rfl rfl rfl), z2_8, fun _ => z2_5, z2_7, fun h0_ => absurd ((hon 3 z2_10).symm.trans h0_) z2_16, z2_4, fun _ h1_ => absurd ((hon 4 z2_10).symm.trans h1_) z2_16, fun _ h1_ => absurd ((up_self b 7).symm.trans h1_) z2_16, fun _ _ => z2_0, z_HO211, fun h0_ => absurd ((hoff 10 z2_10).symm.trans h0_) z2_16, fun h0_ => absurd ((hoff 11 z2_10).symm.trans h0_) z2_16⟩
  refine steps_cons ?_ ?_
  ·rintro b a w' ⟨v210, ha, Q_HO196, Q_BK188, Q_BK199, Q_HI192, Q_HB, Q_HI192_e3, Q_HI192_e4, Q_HI192_e7, Q_HO211, Q_HI192_e10, Q_BK188_e11⟩ hb_ hon hoff
   refine ⟨_, rfl, fun K hK => ?_⟩
   have e18 : a.tmps[18]? = some (.int .i64 t206) := by rw [ha]; exact putSel_on (e := (7, 18, .int .i64 t206)) 3 rfl rfl (hon 7 z2_10) rfl
   replace ha := Aside0.mk ha
   have HO196 := Aside0.mk Q_HO196
   have BK188 := Aside0.mk (Q_BK188 (hoff 11 z2_10))
   have BK199 := Aside0.mk Q_BK199
   have HB := Aside0.mk Q_HB
   have HI192 := Aside0.mk (Q_HI192_e7 (hon 7 z2_10) (hoff 10 z2_10))
   refine value_ (w1 := w') (v := .int .i64 (wrap64 (t206 - 12))) (by rfl) rfl ?_ ?_
   ·go_simp
    (try simp only [i64_w])
    try rfl
   refine hK.out _ _ ⟨v210, (by rw [ha.out]; exact putSel_upk 4 hb_ rfl rfl rfl), Q_HO196, Q_BK188, Q_BK199, fun h0_ => absurd ((hon 3 z2_10).symm.trans h0_) z2_16, Q_HB, fun _ h1_ => absurd ((hon 4 z2_10).symm.trans h1_) z2_16, fun _ h1_ => absurd ((hon 7 z2_10).symm.trans h1_) z2_16, Q_HI192_e7, Q_HO211, fun h0_ => absurd ((hoff 10 z2_10).symm.trans h0_) z2_16, fun h0_ => absurd ((hoff 11 z2_10).symm.trans h0_) z2_16⟩
  refine steps_cons ?_ ?_
  ·rintro b a w' ⟨v210, ha, Q_HO196, Q_BK188, Q_BK199, Q_HI192, Q_HB, Q_HI192_e3, Q_HI192_e4, Q_HI192_e7, Q_HO211, Q_HI192_e10, Q_BK188_e11⟩ hb_ hon hoff
   refine ⟨_, rfl, fun K hK => ?_⟩
   replace ha := Aside0.mk ha
   have HO196 := Aside0.mk Q_HO196
   have BK188 := Aside0.mk (Q_BK188 (hoff 11 z2_10))
   have BK199 := Aside0.mk Q_BK199
   have HB := Aside0.mk Q_HB
   refine Kd.R_lit_step (Kd.int .i64) _ 3 ?hg (N := 20) ?hd (xs := ([2000, (-2000), 2001, (-2001)] : List Int)) (inner := [.int .i64 2000, .int .i64 (-2000), .int .i64 2001, .int .i64 (-2001)]) (ok := fun _ => True) (okp := fun _ => True) ?hr ?hp (fun _ hk => hk) trivial (Below.refl _ _) (Nat.le_refl _) (by simp) ?_; (case hd => rfl); (case hg => rfl); (case hr => exact z2_19); (case hp => exact (Reps.one (show Kd.M (Kd.int .i64) _ _ _ 2000 [.int .i64 2000] from rfl) (Reps.one (show Kd.M (Kd.int .i64) _ _ _ (-2000) [.int .i64 (-2000)] from rfl) (Reps.one (show Kd.M (Kd.int .i64) _ _ _ 2001 [.int .i64 2001] from rfl) (Reps.one (show Kd.M (Kd.int .i64) _ _ _ (-2001) [.int .i64 (-2001)] from rfl) (Reps.none _ _))))))
   intro v210 w18 ho19 hb hg_ hnew_
   clear hg_ hnew_
   (first | rw [← Ny209.out] at ho19 | (simp only [Int.reduceToNat] at ho19; rw [← Ny209.out] at ho19))
   have n0_ := Aside0.mk (Kd.R_elder' z2_8 (Kd.R_base ho19) hb)
   have n1_ := Aside0.mk (Kd.R_lower (Kd.R_new' ho19 (Kd.R_lt z2_8)) (below_size z2_14))
   have n2_ := Aside0.mk (ql0 (g := gb188) (o := .cells #[.int .i64 0, .slice none 0 0] 26 (0, 0)) z2_5 hb)
   have n4_ := Aside0.mk (ql0 (g := gb199) (o := .cells #[.int .i64 t193, .slice Ao15 t194.length co15] 26 (0, 0)) z2_7 hb)
   have n5_ := Aside0.mk (qf0 z2_14 hb)
   have z_HI192 := fun (h0_ : b 3 = false) => (show IsS66 w w18 g192 t189 t197 t198 from by first | exact (IsS66.below (by repeat (first | (with_reducible first | exact (Q_HI192 h0_) | apply IsS66.alloc | apply IsS66.drewN | apply IsS66.drew | apply IsS66.set_1 | apply IsS66.set_2 | refine IsS66.far ?_ NB192_188.out _ | refine IsS66.far ?_ NB192_199.out _) | exact (Q_HI192 h0_))) hb))
   have z_HI192_e3 := fun (h0_ : b 3 = true) (h1_ : b 4 = false) => (show IsS66 w w18 g192 t189 t201 t202 from by first | exact (IsS66.below (by repeat (first | (with_reducible first | exact (Q_HI192_e3 h0_ h1_) | apply IsS66.alloc | apply IsS66.drewN | apply IsS66.drew | apply IsS66.set_1 | apply IsS66.set_2 | refine IsS66.far ?_ NB192_188.out _ | refine IsS66.far ?_ NB192_199.out _) | exact (Q_HI192_e3 h0_ h1_))) hb))
   have z_HI192_e4 := fun (h0_ : b 4 = true) (h1_ : b 7 = false) => (show IsS66 w w18 g192 t189 t204 t205 from by first | exact (IsS66.below (by repeat (first | (with_reducible first | exact (Q_HI192_e4 h0_ h1_) | apply IsS66.alloc | apply IsS66.drewN | apply IsS66.drew | apply IsS66.set_1 | apply IsS66.set_2 | refine IsS66.far ?_ NB192_188.out _ | refine IsS66.far ?_ NB192_199.out _) | exact (Q_HI192_e4 h0_ h1_))) hb))
   have z_HI192_e7 := fun (h0_ : b 7 = true) (h1_ : b 10 = false) => (show IsS66 w w18 g192 t189 t207 t208 from by first | exact (IsS66.below (by repeat (first | (with_reducible first | exact (Q_HI192_e7 h0_ h1_) | apply IsS66.alloc | apply IsS66.drewN | apply IsS66.drew | apply IsS66.set_1 | apply IsS66.set_2 | refine IsS66.far ?_ NB192_188.out _ | refine IsS66.far ?_ NB192_199.out _) | exact (Q_HI192_e7 h0_ h1_))) hb))
   clear HO196
   clear BK188
   clear BK199
   clear HB
   have HO196 := n0_
   have HO211 := n1_
   have BK188 := n2_
   have BK199 := n4_
   have HB := n5_
   clear n0_ n1_ n2_ n4_ n5_
   clear hb ho19
   refine hK.out _ _ ⟨v210, (by rw [ha.out]; exact putSel_upk 5 hb_ rfl rfl rfl), (by (with_reducible repeat (first | apply Kd.qx0 | apply Kd.qw0 | apply Kd.R_drew)); exact Kd.qt0 HO196.out (fun _ hk => by first | exact hk.2 | trivial)), fun _ => z2_5, z2_7, z_HI192, z2_14, z_HI192_e3, z_HI192_e4, z_HI192_e7, fun _ => (by (with_reducible repeat (first | apply Kd.qx0 | apply Kd.qw0 | apply Kd.R_drew)); exact Kd.qt0 HO211.out (fun _ hk => hk.2)), fun h0_ => absurd ((hoff 10 z2_10).symm.trans h0_) z2_16, fun h0_ => absurd ((hoff 11 z2_10).symm.trans h0_) z2_16⟩
  refine steps_cons ?_ ?_
  ·rintro b a w' ⟨v210, ha, Q_HO196, Q_BK188, Q_BK199, Q_HI192, Q_HB, Q_HI192_e3, Q_HI192_e4, Q_HI192_e7, Q_HO211, Q_HI192_e10, Q_BK188_e11⟩ hb_ hon hoff
   refine ⟨_, rfl, fun K hK => ?_⟩
   have e16 : a.tmps[16]? = some (.pointer (some ⟨g192, 0, none⟩)) := by rw [ha]; exact (putSel_off rfl).trans rfl
   have e19 : a.tmps[19]? = some (.int .i64 (wrap64 (t206 - 12))) := by rw [ha]; exact putSel_on (e := (8, 19, .int .i64 (wrap64 (t206 - 12)))) 4 rfl rfl (hon 8 z2_10) rfl
   have e20 : a.tmps[20]? = some (v210) := by rw [ha]; exact putSel_on (e := (9, 20, v210)) 5 rfl rfl (hon 9 z2_10) rfl
   replace ha := Aside0.mk ha
   have HO196 := Aside0.mk Q_HO196
   have BK188 := Aside0.mk (Q_BK188 (hoff 11 z2_10))
   have BK199 := Aside0.mk Q_BK199
   have HB := Aside0.mk Q_HB
   have HI192 := Aside0.mk (Q_HI192_e7 (hon 7 z2_10) hb_)
   have HO211 := Aside0.mk (Q_HO211 (hon 9 z2_10))
   obtain ⟨Ao24, co24, eo24⟩ := Kd.R_slice HO211.out
   (first | subst eo24 | (injection eo24 with f1_ f2_ f3_; have f4_ := f1_.symm; have f5_ := f3_.symm; clear f1_ f2_ f3_; subst f4_; subst f5_))
   refine goes_ Try.func22 z2_10 rfl #[.pointer (some ⟨g192, 0, none⟩), .int .i64 (wrap64 (t206 - 12)), .slice Ao24 y209.length co24] (by rfl) rfl rfl (by first | (simp only [List.map_toArray, List.map_cons, List.map_nil, Act.eval, Array.getD_eq_getD_getElem?, Option.getD_some, e16, e19, e20]; done) | (simp only [List.map_toArray, List.map_cons, List.map_nil, Act.eval, Array.getD_eq_getD_getElem?, Option.getD_some, e16, e19, e20]; rfl)) ?_
   with_reducible refine (spec_l1Spoil.calls g192 t189 t207 t208 (wrap64 (t206 - 12)) _ _ y209 t212 t213 t214 w _ ?side1 ?side2 ?side3 ?side4 ?side5 A7.out).mono ?_
   (case side1 => exact z2_0)
   (case side2 => exact z2_4)
   (case side3 => repeat (first | exact (Kd.qq0 HO211.out).2.2 | (with_reducible refine Kd.C_alloc ?_ _) | (with_reducible refine Kd.C_drewN ?_ _) | (with_reducible refine Kd.C_drew ?_)))
   (case side4 => exact (Kd.qq0 HO211.out).2.1)
   (case side5 => exact far_slice (IsS66.own_ne HI192.out HO211.out z2_16))
   rintro e w25 ⟨rfl, hi, hb, hk⟩
   refine ⟨_, rfl, ?_⟩
   have n0_ := Aside0.mk (qd0.blk hk (g' := gb188) (o := .cells #[.int .i64 0, .slice none 0 0] 26 (0, 0)) z2_5 NB188_192.out (by simp))
   have n1_ := Aside0.mk (Kd.qt0 (Kd.qf1 (IsS66.apart (show IsS66 w _ g192 t189 t207 t208 from z2_0) z2_8 z2_16) hk (fun _ h => h.2)) (fun _ h => h.1))
   have n2_ := Aside0.mk (qd0.blk hk (g' := gb199) (o := .cells #[.int .i64 t193, .slice Ao15 t194.length co15] 26 (0, 0)) z2_7 NB199_192.out (by simp))
   have n3_ := Aside0.mk (Kd.qt0 (Kd.qf1 (IsS66.apart (show IsS66 w _ g192 t189 t207 t208 from z2_0) (by (with_reducible repeat (first | apply Kd.qx0 | apply Kd.qw0 | apply Kd.R_drew)); exact HO211.out) z2_16) hk (fun _ h => h.2)) (fun _ h => h.1))
   have n4_ := Aside0.mk (hb)
   have n5_ := Aside0.mk (hi)
   clear BK188
   clear HO196
   clear BK199
   clear HO211
   clear HB
   clear HI192
   have BK188 := n0_
   have HO196 := n1_
   have BK199 := n2_
   have HO211 := n3_
   have HB := n4_
   have HI192 := n5_
   clear n0_ n1_ n2_ n3_ n4_ n5_
   (try clear hb)
   (try clear hb2)
   (try clear hk)
   (try clear hi)
   refine hK.out _ _ ⟨.slice Ao24 y209.length co24, (by rw [ha.out]; exact putSel_upk 6 hb_ rfl rfl rfl), z2_8, fun _ => z2_5, z2_7, fun h0_ => absurd ((hon 3 z2_10).symm.trans h0_) z2_16, z2_4, fun _ h1_ => absurd ((hon 4 z2_10).symm.trans h1_) z2_16, fun _ h1_ => absurd ((hon 7 z2_10).symm.trans h1_) z2_16, fun _ h1_ => absurd ((up_self b 10).symm.trans h1_) z2_16, fun _ => (by (with_reducible repeat (first | apply Kd.qx0 | apply Kd.qw0 | apply Kd.R_drew)); exact HO211.out), fun _ => z2_0, fun h0_ => absurd ((hoff 11 z2_10).symm.trans h0_) z2_16⟩
  refine steps_cons ?_ ?_
  ·rintro b a w' ⟨v210, ha, Q_HO196, Q_BK188, Q_BK199, Q_HI192, Q_HB, Q_HI192_e3, Q_HI192_e4, Q_HI192_e7, Q_HO211, Q_HI192_e10, Q_BK188_e11⟩ hb_ hon hoff
   refine ⟨_, rfl, fun K hK => ?_⟩
   have e2 : a.tmps[2]? = some (.pointer (some ⟨gb188, 0, none⟩)) := by rw [ha]; exact (putSel_off rfl).trans rfl
   have e11 : a.tmps[11]? = some (.agg #[.int .i64 t193, .slice Ao15 t194.length co15]) := by rw [ha]; exact putSel_on (e := (0, 11, .agg #[.int .i64 t193, .slice Ao15 t194.length co15])) 0 rfl rfl (hon 0 z2_10) rfl
   replace ha := Aside0.mk ha
   have HO196 := Aside0.mk Q_HO196
   have BK188 := Aside0.mk (Q_BK188 hb_)
   have BK199 := Aside0.mk Q_BK199
   have HB := Aside0.mk Q_HB
   have HO211 := Aside0.mk (Q_HO211 (hon 9 z2_10))
   have HI192 := Aside0.mk (Q_HI192_e10 (hon 10 z2_10))
   have hs26 : w'.cell? ⟨gb188, 0, none⟩ = some (.int .i64 0) := (qb0 BK188.out 0).trans rfl
   have hfs26 := qa0 BK188.out 0
   have hns26_1 := NB199_188.out
   have hms26_1 := NB188_199.out
   have hs27 : w'.cell? ⟨gb188, 1, none⟩ = some (.slice none 0 0) := (qb0 BK188.out 1).trans rfl
   have hfs27 := qa0 BK188.out 1
   have hns27_1 := NB199_188.out
   have hms27_1 := NB188_199.out
   refine skip_ (w1 := ?_) (by rfl) rfl ?_ ?_
   rotate_left
   ·go_simp
    rfl
   refine hK.out _ _ ⟨v210, (by rw [ha.out]; exact putSel_none (v := undef) rfl), (by (with_reducible repeat (first | apply Kd.qx0 | apply Kd.qw0 | apply Kd.R_drew)); exact Kd.qt0 (Kd.R_far (p := ⟨gb188, 1, none⟩) (Kd.R_far (p := ⟨gb188, 0, none⟩) (Kd.R_types HO196.out BK188.out z2_16) (fun _ hk => hk.2) (.int .i64 t193)) (fun _ hk => hk.2) (.slice Ao15 t194.length co15)) (fun _ hk => hk.1)), fun h0_ => absurd ((up_self b 11).symm.trans h0_) z2_16, (by (with_reducible repeat (first | refine qj0 ?_ _ | refine qk0 ?_ | refine qg0 ?_ _)); refine blk_far ?_ NB199_188.out _; (with_reducible repeat (first | refine qj0 ?_ _ | refine qk0 ?_ | refine qg0 ?_ _)); refine blk_far ?_ NB199_188.out _; (with_reducible repeat (first | refine qj0 ?_ _ | refine qk0 ?_ | refine qg0 ?_ _)); exact BK199.out), fun h0_ => absurd ((hon 3 z2_10).symm.trans h0_) z2_16, z2_4, fun _ h1_ => absurd ((hon 4 z2_10).symm.trans h1_) z2_16, fun _ h1_ => absurd ((hon 7 z2_10).symm.trans h1_) z2_16, fun _ h1_ => absurd ((hon 10 z2_10).symm.trans h1_) z2_16, fun _ => (by (with_reducible repeat (first | apply Kd.qx0 | apply Kd.qw0 | apply Kd.R_drew)); exact Kd.qt0 (Kd.R_far (p := ⟨gb188, 1, none⟩) (Kd.R_far (p := ⟨gb188, 0, none⟩) (Kd.R_types HO211.out BK188.out z2_16) (fun _ hk => hk.2) (.int .i64 t193)) (fun _ hk => hk.2) (.slice Ao15 t194.length co15)) (fun _ hk => hk.1)), fun _ => z2_0, fun _ => (by (with_reducible repeat (first | refine qj0 ?_ _ | refine qk0 ?_ | refine qg0 ?_ _)); refine qy0 (cs := #[.int .i64 t193, .slice none 0 0]) ?_ 1 _ rfl; (with_reducible repeat (first | refine qj0 ?_ _ | refine qk0 ?_ | refine qg0 ?_ _)); refine qy0 (cs := #[.int .i64 0, .slice none 0 0]) ?_ 0 _ rfl; (with_reducible repeat (first | refine qj0 ?_ _ | refine qk0 ?_ | refine qg0 ?_ _)); exact BK188.out)⟩
  refine steps_cons ?_ ?_
  ·rintro b a w' ⟨v210, ha, Q_HO196, Q_BK188, Q_BK199, Q_HI192, Q_HB, Q_HI192_e3, Q_HI192_e4, Q_HI192_e7, Q_HO211, Q_HI192_e10, Q_BK188_e11⟩ hb_ hon hoff
   refine ⟨_, rfl, fun K hK => ?_⟩
   have e15 : a.tmps[15]? = some (.int .i64 t203) := by rw [ha]; exact putSel_on (e := (4, 15, .int .i64 t203)) 2 rfl rfl (hon 4 z2_10) rfl
   replace ha := Aside0.mk ha
   have HO196 := Aside0.mk Q_HO196
   have BK199 := Aside0.mk Q_BK199
   have HB := Aside0.mk Q_HB
   have HO211 := Aside0.mk (Q_HO211 (hon 9 z2_10))
   have HI192 := Aside0.mk (Q_HI192_e10 (hon 10 z2_10))
   have BK188 := Aside0.mk (Q_BK188_e11 (hon 11 z2_10))
   refine value_ (w1 := w') (v := .int .i64 t203) (by rfl) rfl ?_ ?_
   ·go_simp
    (try simp only [i64_w])
    try rfl
   refine hK.out _ _ ⟨v210, (by rw [ha.out]; exact putSel_upk 7 hb_ rfl rfl rfl), Q_HO196, fun h0_ => absurd ((hon 11 z2_10).symm.trans h0_) z2_16, Q_BK199, fun h0_ => absurd ((hon 3 z2_10).symm.trans h0_) z2_16, Q_HB, fun _ h1_ => absurd ((hon 4 z2_10).symm.trans h1_) z2_16, fun _ h1_ => absurd ((hon 7 z2_10).symm.trans h1_) z2_16, fun _ h1_ => absurd ((hon 10 z2_10).symm.trans h1_) z2_16, Q_HO211, Q_HI192_e10, Q_BK188_e11⟩
  refine steps_cons ?_ ?_
  ·rintro b a w' ⟨v210, ha, Q_HO196, Q_BK188, Q_BK199, Q_HI192, Q_HB, Q_HI192_e3, Q_HI192_e4, Q_HI192_e7, Q_HO211, Q_HI192_e10, Q_BK188_e11⟩ hb_ hon hoff
   refine ⟨_, rfl, fun K hK => ?_⟩
   have e21 : a.tmps[21]? = some (.int .i64 t212) := by rw [ha]; exact putSel_on (e := (10, 21, .int .i64 t212)) 6 rfl rfl (hon 10 z2_10) rfl
   replace ha := Aside0.mk ha
   have HO196 := Aside0.mk Q_HO196
   have BK199 := Aside0.mk Q_BK199
   have HB := Aside0.mk Q_HB
   have HO211 := Aside0.mk (Q_HO211 (hon 9 z2_10))
   have HI192 := Aside0.mk (Q_HI192_e10 (hon 10 z2_10))
   have BK188 := Aside0.mk (Q_BK188_e11 (hon 11 z2_10))
   refine value_ (w1 := w') (v := .int .i64 t212) (by rfl) rfl ?_ ?_
   ·go_simp
    (try simp only [i64_w])
    try rfl
   refine hK.out _ _ ⟨v210, (by rw [ha.out]; exact putSel_upk 8 hb_ rfl rfl rfl), Q_HO196, fun h0_ => absurd ((hon 11 z2_10).symm.trans h0_) z2_16, Q_BK199, fun h0_ => absurd ((hon 3 z2_10).symm.trans h0_) z2_16, Q_HB, fun _ h1_ => absurd ((hon 4 z2_10).symm.trans h1_) z2_16, fun _ h1_ => absurd ((hon 7 z2_10).symm.trans h1_) z2_16, fun _ h1_ => absurd ((hon 10 z2_10).symm.trans h1_) z2_16, Q_HO211, Q_HI192_e10, Q_BK188_e11⟩
  exact steps_nil
 rintro b a w27 hall ⟨v210, ha, Q_HO196, Q_BK188, Q_BK199, Q_HI192, Q_HB, Q_HI192_e3, Q_HI192_e4, Q_HI192_e7, Q_HO211, Q_HI192_e10, Q_BK188_e11⟩
 clear BK188 BK199 HB HI192 HO196
 have hb0_ := hall 0 z2_10
 have hb3_ := hall 3 z2_10
 have hb4_ := hall 4 z2_10
 have hb7_ := hall 7 z2_10
 have hb8_ := hall 8 z2_10
 have hb9_ := hall 9 z2_10
 have hb10_ := hall 10 z2_10
 have hb11_ := hall 11 z2_10
 have hb12_ := hall 12 z2_10
 have hb13_ := hall 13 z2_10
 subst ha
 simp only [qe1, hb0_, hb3_, hb4_, hb7_, hb8_, hb9_, hb10_, hb11_, hb12_, hb13_, if_true, Act.put, List.setIfInBounds_toArray, List.set_cons_zero, List.set_cons_succ]
 have HO196 := Aside0.mk Q_HO196
 clear Q_HO196
 clear Q_BK188
 have BK199 := Aside0.mk Q_BK199
 clear Q_BK199
 clear Q_HI192
 have HB := Aside0.mk Q_HB
 clear Q_HB
 clear Q_HI192_e3
 clear Q_HI192_e4
 clear Q_HI192_e7
 have HO211 := Aside0.mk (Q_HO211 hb9_)
 clear Q_HO211
 have HI192 := Aside0.mk (Q_HI192_e10 hb10_)
 clear Q_HI192_e10
 have BK188 := Aside0.mk (Q_BK188_e11 hb11_)
 clear Q_BK188_e11
 clear hall hb0_ hb3_ hb4_ hb7_ hb8_ hb9_ hb10_ hb11_ hb12_ hb13_
 try go_wp2
 refine bodyPost_ret (results_ctt rfl _ _ gb188 26 #[.int .i64 t193, .slice Ao15 t194.length co15] (0, 0) _ rfl z2_5 Try.underlying26 rfl z2_10) rfl ?_
 exact ⟨_, z2_12, by (with_reducible repeat (first | apply Kd.qx0 | apply Kd.qw0 | apply Kd.R_drew)); exact Kd.qt0 HO196.out (fun _ hk => trivial), z2_4⟩

/-! ### impl_between: function 27 -/
def impl_between.f (a0 : Int) (a1 : Int) (a2 : Int) : Option (Bool) := if a0 ≥ a1 then (some (decide (a0 ≤ a2))) else (some false)
set_option maxHeartbeats 8000000 in
set_option maxRecDepth 100000 in
theorem impl_between.calls (a0 : Int) (a1 : Int) (a2 : Int) (r : Bool) (w : World) (h : impl_between.f a0 a1 a2 = some r) :
  Calls Try.prog 27 #[.int .i64 a0, .int .i64 a1, .int .i64 a2] w fun e w' => e = .returned (.bool r) ∧ Drawn0 w w' := by
 have H : (if a0 ≥ a1 then (some (decide (a0 ≤ a2))) else (some false)) = some r := h
 clear h
 by_cases c4 : a0 ≥ a1
 ·rw [if_pos c4] at H
  have c4b0 : decide (a1 ≤ a0) = true := decide_eq_true c4
  clear c4
  obtain rfl := Option.some.inj H
  go_enter Try.func27, Try.ntmps27
  go_wp2
  go_ret
  exact ⟨by first | rfl | (simp; done) | (simp [*]; done), by repeat (first | exact Drawn0.refl _ | apply Drawn0.step)⟩
 rw [if_neg c4] at H
 have c4b0 : decide (a1 ≤ a0) = false := decide_eq_false c4
 clear c4
 obtain rfl := Option.some.inj H
 go_enter Try.func27, Try.ntmps27
 go_wp2
 go_ret
 exact ⟨by first | rfl | (simp; done) | (simp [*]; done), by repeat (first | exact Drawn0.refl _ | apply Drawn0.step)⟩

/-! ### impl_isDay: function 26 -/
def impl_isDay.f (a0 : Int) : Option (Bool) := (impl_between.f a0 0 40000).bind fun t215 => (some t215)
set_option maxHeartbeats 8000000 in
set_option maxRecDepth 100000 in
theorem impl_isDay.calls (a0 : Int) (r : Bool) (w : World) (h : impl_isDay.f a0 = some r) :
  Calls Try.prog 26 #[.int .i64 a0] w fun e w' => e = .returned (.bool r) ∧ Drawn0 w w' := by
 have H : ((impl_between.f a0 0 40000).bind fun t215 => (some t215)) = some r := h
 clear h
 replace H := Option.bind_eq_some_iff.mp H
 obtain ⟨t215, A20, H⟩ := H
 replace H : (some t215) = some r := H
 have A2 := Aside0.mk A20
 clear A20
 obtain rfl := Option.some.inj H
 go_enter Try.func26, Try.ntmps26
 go_wp2_with (first | ((with_reducible refine qc0 (f := 27) rfl ?_); refine qm0 (some 4) rfl rfl Try.func27 z2_10 rfl #[.int .i64 a0, .int .i64 0, .int .i64 40000] rfl z2_6 ?_; (with_reducible refine (impl_between.calls a0 0 40000 t215 _ A2.out).mono ?_); rintro e w' ⟨rfl, ⟨nd, rfl⟩⟩; refine ⟨_, rfl, ?_⟩))
 go_ret
 exact ⟨by first | rfl | (simp; done) | (simp [*]; done), by repeat (first | exact Drawn0.refl _ | apply Drawn0.step)⟩

end Go.Proofs.Ytggfggmmecbdnaa.PFnWorkBack
