/- Lines by a program (a changed copy of the kit's print: this repo's wip/tools): Go functions as Lean functions, and proofs that the calls answer so. -/
import Derived.Test.YtkkdmmefnicmaaaZPFnUnitsx0
import Derived.Test.YtkkdmmefnicmaaaZPFnUnitsx3
namespace Go.Proofs.Ytkkdmmefnicmaaa.PFnUnits
open Go.RowKit Go.Proofs.YtkkdmmefnicmaaaW.PrintWords Go.Proofs.YtkkdmmefnicmaaaW.PrintLast Go.Proofs.YtkkdmmefnicmaaaW.PrintMore
/-- Runs of true and false, by turns. -/
def rb4l : Bool → List Nat → List Bool
 | _, [] => []
 | b, n :: r => List.replicate n b ++ rb4l (!b) r
def rb4 (l : List Nat) : Array Bool := (rb4l true l).toArray
attribute [local go_sem] max2_int min2_int max_two min_two max_three min_three max_four min_four   -- for this text's walks alone
set_option linter.unusedVariables false
set_option linter.unusedSimpArgs false

/-! ### spec_l15DrawConvs: function 74 -/
mutual
def spec_l15DrawConvs.l0 : Nat → List ByteArray → List (S35) → Int → List Int → Int → Int → Option ((List (S35)) × Int × Int)
 | 0, _, _, _, _, _, _ => none
 | k + 1, x3, x4, x5, x1000, x1001, x1002 => if x5 > 0 then ((spec_l1Below.f x1000 x1001 x1002 (x3.length : Int)).bind fun bt172 => (if 0 ≤ bt172.1 then (if bt172.1 < (x3.length : Int) then ((spec_l1Below.f x1000 bt172.2.1 bt172.2.2 3).bind fun bt176 => (if (x3.length : Int) = 0 then (none) else (if 0 ≤ (Int.tmod (wrap64 ((wrap64 (bt172.1 + 1)) + bt176.1)) (x3.length : Int)) then (if (Int.tmod (wrap64 ((wrap64 (bt172.1 + 1)) + bt176.1)) (x3.length : Int)) < (x3.length : Int) then ((spec_l1Below.f x1000 bt176.2.1 bt176.2.2 12).bind fun bt180 => ((spec_l1PickInt.f x1000 bt180.2.1 bt180.2.2 (([1, 1, 2, 1000] : List Int))).bind fun bt186 => ((spec_l1Once.f x1000 bt186.2.1 bt186.2.2 30).bind fun bt190 => (if bt190.1 = true then ((spec_l1PickInt.f x1000 bt190.2.1 bt190.2.2 (([0, 10000, 10001] : List Int))).bind fun bt196 => (spec_l15DrawConvs.j1 k x3 x4 x5 x1000 bt196.2.1 bt196.2.2 (rdOf ByteArray.empty x3 bt172.1) (rdOf ByteArray.empty x3 (Int.tmod (wrap64 ((wrap64 (bt172.1 + 1)) + bt176.1)) (x3.length : Int))) bt196.1 bt186.1)) else (spec_l15DrawConvs.j1 k x3 x4 x5 x1000 bt190.2.1 bt190.2.2 (rdOf ByteArray.empty x3 bt172.1) (rdOf ByteArray.empty x3 (Int.tmod (wrap64 ((wrap64 (bt172.1 + 1)) + bt176.1)) (x3.length : Int))) (wrap64 (1 + bt180.1)) bt186.1))))) else (none)) else (none)))) else (none)) else (none))) else (some (x4, x1001, x1002))
def spec_l15DrawConvs.j1 : Nat → List ByteArray → List (S35) → Int → List Int → Int → Int → ByteArray → ByteArray → Int → Int → Option ((List (S35)) × Int × Int)
 | 0, _, _, _, _, _, _, _, _, _, _ => none
 | k + 1, x3, x4, x5, x1000, x1001, x1002, x190000, x190001, x190002, x190003 => (spec_l1Once.f x1000 x1001 x1002 40).bind fun bt199 => (if bt199.1 = true then (if x4.length < 2932031007402 then (spec_l15DrawConvs.l0 k x3 (x4 ++ [(⟨x190000, x190000, x190002, x190003⟩ : S35)]) (wrap64 (x5 - 1)) x1000 bt199.2.1 bt199.2.2) else (none)) else (if x4.length < 2932031007402 then (spec_l15DrawConvs.l0 k x3 (x4 ++ [(⟨x190000, x190001, x190002, x190003⟩ : S35)]) (wrap64 (x5 - 1)) x1000 bt199.2.1 bt199.2.2) else (none)))
end
def spec_l15DrawConvs.f (k : Nat) (s0_0 : List Int) (s0_1 : Int) (s0_2 : Int) : Option ((List (S35)) × Int × Int) := (spec_l1Below.f s0_0 s0_1 s0_2 7).bind fun bt169 => (spec_l15DrawConvs.l0 k (([(⟨#[112, 99]⟩ : ByteArray), (⟨#[98, 111, 120]⟩ : ByteArray), (⟨#[112, 97, 108]⟩ : ByteArray), (⟨#[107, 103]⟩ : ByteArray), (⟨#[103]⟩ : ByteArray), (⟨#[116]⟩ : ByteArray), (⟨#[109]⟩ : ByteArray)] : List ByteArray)) (([] : List (S35))) bt169.1 s0_0 bt169.2.1 bt169.2.2)
theorem spec_l15DrawConvs.mono_l : ∀ k, (∀ y0 y1 y2 y3 y4 y5, LeO (spec_l15DrawConvs.l0 k y0 y1 y2 y3 y4 y5) (spec_l15DrawConvs.l0 (k + 1) y0 y1 y2 y3 y4 y5)) ∧ (∀ y0 y1 y2 y3 y4 y5 y6 y7 y8 y9, LeO (spec_l15DrawConvs.j1 k y0 y1 y2 y3 y4 y5 y6 y7 y8 y9) (spec_l15DrawConvs.j1 (k + 1) y0 y1 y2 y3 y4 y5 y6 y7 y8 y9))
 | 0 => ⟨fun _ _ _ _ _ _ r h => by simp [spec_l15DrawConvs.l0] at h, fun _ _ _ _ _ _ _ _ _ _ r h => by simp [spec_l15DrawConvs.j1] at h⟩
 | k + 1 => by
  obtain ⟨ih0, ih1⟩ := spec_l15DrawConvs.mono_l k
  refine ⟨?_, ?_⟩
  ·intro y0 y1 y2 y3 y4 y5
   unfold spec_l15DrawConvs.l0
   repeat' first
   | (with_reducible exact ih0 _ _ _ _ _ _)
   | (with_reducible exact ih1 _ _ _ _ _ _ _ _ _ _)
   | (with_reducible exact LeO.refl _)
   | (with_reducible exact LeO.none _)
   | (with_reducible refine LeO.ite ?_ ?_)
   | (with_reducible refine LeO.bind ?_ (fun _ => ?_))
   | exact ih0 _ _ _ _ _ _
   | exact ih1 _ _ _ _ _ _ _ _ _ _
   | exact LeO.none _
   | refine LeO.ite ?_ ?_
   | refine LeO.bind ?_ (fun _ => ?_)
  ·intro y0 y1 y2 y3 y4 y5 y6 y7 y8 y9
   unfold spec_l15DrawConvs.j1
   repeat' first
   | (with_reducible exact ih0 _ _ _ _ _ _)
   | (with_reducible exact ih1 _ _ _ _ _ _ _ _ _ _)
   | (with_reducible exact LeO.refl _)
   | (with_reducible exact LeO.none _)
   | (with_reducible refine LeO.ite ?_ ?_)
   | (with_reducible refine LeO.bind ?_ (fun _ => ?_))
   | exact ih0 _ _ _ _ _ _
   | exact ih1 _ _ _ _ _ _ _ _ _ _
   | exact LeO.none _
   | refine LeO.ite ?_ ?_
   | refine LeO.bind ?_ (fun _ => ?_)
theorem spec_l15DrawConvs.mono : ∀ a0 a1 a2 k, LeO (spec_l15DrawConvs.f k a0 a1 a2) (spec_l15DrawConvs.f (k + 1) a0 a1 a2) := by
 intro a0 a1 a2 k
 obtain ⟨ih0, ih1⟩ := spec_l15DrawConvs.mono_l k
 unfold spec_l15DrawConvs.f
 repeat' first
   | (with_reducible exact ih0 _ _ _ _ _ _)
   | (with_reducible exact ih1 _ _ _ _ _ _ _ _ _ _)
   | (with_reducible exact LeO.refl _)
   | (with_reducible exact LeO.none _)
   | (with_reducible refine LeO.ite ?_ ?_)
   | (with_reducible refine LeO.bind ?_ (fun _ => ?_))
   | exact ih0 _ _ _ _ _ _
   | exact ih1 _ _ _ _ _ _ _ _ _ _
   | exact LeO.none _
   | refine LeO.ite ?_ ?_
   | refine LeO.bind ?_ (fun _ => ?_)
def spec_l15DrawConvs.T7 : Bool × List (List Nat × List Nat) := (true, [([], []), ([], []), ([0, 1], [0, 1]), ([2], [2]), ([], []), ([], []), ([5], [5]), ([], []), ([7], [7]), ([6, 8], [6, 8]), ([], []), ([10], [10]), ([9, 11], [9, 11]), ([4, 12], [4, 12]), ([13], [13]), ([], []), ([15, 8], [15]), ([16], [16]), ([], []), ([], []), ([18, 19, 16], [18, 19]), ([3, 14, 17, 20], [3, 14, 17, 20]), ([], []), ([22, 21, 20, 0, 1, 2, 3, 4, 5, 6, 7, 8, 9, 10, 11, 12, 13, 14, 15, 16, 17, 18, 19, 20, 21, 22], [21, 22])])
def spec_l15DrawConvs.B7 : List Nat := [0, 0, 3, 7, 0, 0, 32, 0, 128, 480, 0, 1024, 4064, 8176, 16368, 0, 33152, 98688, 0, 0, 885120, 2097151, 0, 8388607]
theorem spec_l15DrawConvs.tab7 : rtab .any (opsOf Try.f74 7) = spec_l15DrawConvs.T7 := by kernel_rfl
theorem spec_l15DrawConvs.bits7 : waitsOk spec_l15DrawConvs.T7.2 spec_l15DrawConvs.B7 = true := by kernel_rfl
set_option maxHeartbeats 8000000 in
set_option maxRecDepth 100000 in
theorem spec_l15DrawConvs.calls (k : Nat) (g : Nat) (s0_0 : List Int) (s0_1 : Int) (s0_2 : Int) (r1 : List (S35)) (r2 : Int) (r3 : Int) (w0 w : World) (hI : IsS186 w0 w g s0_0 s0_1 s0_2) (hB : Below w0.heap.size w0 w) (h : spec_l15DrawConvs.f k s0_0 s0_1 s0_2 = some (r1, r2, r3)) :
  Calls Try.prog 74 #[.pointer (some ⟨g, 0, none⟩)] w fun e w' => ∃ v0_ : Value, e = .returned (v0_) ∧ Kd.R k35 35 w' w.heap.size (fun _ => True) v0_ r1 ∧ IsS186 w0 w' g s0_0 r2 r3 ∧ Below w0.heap.size w0 w' ∧ qn0 w w' g none := by
 have hu35 := Try.underlying35
 have HI0 := Aside0.mk hI
 have HK := Aside0.mk (qn0.refl w g none)
 have HL := Aside0.mk hB.size
 clear hI
 have HW0 := Aside0.mk hB.size
 have HB := Aside0.mk hB
 clear hB
 have H : ((spec_l1Below.f s0_0 s0_1 s0_2 7).bind fun bt169 => (spec_l15DrawConvs.l0 k (([(⟨#[112, 99]⟩ : ByteArray), (⟨#[98, 111, 120]⟩ : ByteArray), (⟨#[112, 97, 108]⟩ : ByteArray), (⟨#[107, 103]⟩ : ByteArray), (⟨#[103]⟩ : ByteArray), (⟨#[116]⟩ : ByteArray), (⟨#[109]⟩ : ByteArray)] : List ByteArray)) (([] : List (S35))) bt169.1 s0_0 bt169.2.1 bt169.2.2)) = some (r1, r2, r3) := h
 clear h
 obtain ⟨y163, hy163⟩ : ∃ y_ : List ByteArray, y_ = (([(⟨#[112, 99]⟩ : ByteArray), (⟨#[98, 111, 120]⟩ : ByteArray), (⟨#[112, 97, 108]⟩ : ByteArray), (⟨#[107, 103]⟩ : ByteArray), (⟨#[103]⟩ : ByteArray), (⟨#[116]⟩ : ByteArray), (⟨#[109]⟩ : ByteArray)] : List ByteArray)) := ⟨_, rfl⟩
 replace H : ((spec_l1Below.f s0_0 s0_1 s0_2 7).bind fun bt169 => (spec_l15DrawConvs.l0 k y163 (([] : List (S35))) bt169.1 s0_0 bt169.2.1 bt169.2.2)) = some (r1, r2, r3) := by first | (rw [hy163]; with_reducible exact H) | (have H2_ := (Option.bind_some _ _).symm.trans H; rw [hy163]; with_reducible exact H2_) | (have H2_ := (Option.bind_some _ _).symm.trans H; with_reducible exact H2_) | with_reducible exact H | (rw [hy163]; exact H) | exact H
 have Ny163 := Aside0.mk hy163
 clear hy163
 obtain ⟨y166, hy166⟩ : ∃ y_ : List (S35), y_ = (([] : List (S35))) := ⟨_, rfl⟩
 replace H : ((spec_l1Below.f s0_0 s0_1 s0_2 7).bind fun bt169 => (spec_l15DrawConvs.l0 k y163 y166 bt169.1 s0_0 bt169.2.1 bt169.2.2)) = some (r1, r2, r3) := by first | (rw [hy166]; with_reducible exact H) | (have H2_ := (Option.bind_some _ _).symm.trans H; rw [hy166]; with_reducible exact H2_) | (have H2_ := (Option.bind_some _ _).symm.trans H; with_reducible exact H2_) | with_reducible exact H | (rw [hy166]; exact H) | exact H
 have Ny166 := Aside0.mk hy166
 clear hy166
 replace H := Option.bind_eq_some_iff.mp H
 obtain ⟨⟨t169, t170, t171⟩, A20, H⟩ := H
 replace H : (spec_l15DrawConvs.l0 k y163 y166 t169 s0_0 t170 t171) = some (r1, r2, r3) := H
 have A2 := Aside0.mk A20
 clear A20
 have H' := Aside0.mk H
 clear H
 go_enter Try.func74, Try.ntmps74
 go_wp2_with (first | ((with_reducible refine qv0 (N := 8) rfl ?_); refine Kd.R_lit Kd.string _ 9 ?hg (N := 8) ?hd (xs := ([(⟨#[112, 99]⟩ : ByteArray), (⟨#[98, 111, 120]⟩ : ByteArray), (⟨#[112, 97, 108]⟩ : ByteArray), (⟨#[107, 103]⟩ : ByteArray), (⟨#[103]⟩ : ByteArray), (⟨#[116]⟩ : ByteArray), (⟨#[109]⟩ : ByteArray)] : List ByteArray)) (inner := [.string (⟨#[112, 99]⟩ : ByteArray), .string (⟨#[98, 111, 120]⟩ : ByteArray), .string (⟨#[112, 97, 108]⟩ : ByteArray), .string (⟨#[107, 103]⟩ : ByteArray), .string (⟨#[103]⟩ : ByteArray), .string (⟨#[116]⟩ : ByteArray), .string (⟨#[109]⟩ : ByteArray)]) (ok := fun _ => True) (okp := fun _ => True) ?hr ?hp (fun _ hk => hk) trivial (Below.refl _ _) (Nat.le_refl _) (by simp) ?_; (case hd => rfl); (case hg => rfl); (case hr => first | (go_simp; done) | (go_simp; rfl)); (case hp => exact (Reps.one (show Kd.M Kd.string _ _ _ (⟨#[112, 99]⟩ : ByteArray) [.string (⟨#[112, 99]⟩ : ByteArray)] from rfl) (Reps.one (show Kd.M Kd.string _ _ _ (⟨#[98, 111, 120]⟩ : ByteArray) [.string (⟨#[98, 111, 120]⟩ : ByteArray)] from rfl) (Reps.one (show Kd.M Kd.string _ _ _ (⟨#[112, 97, 108]⟩ : ByteArray) [.string (⟨#[112, 97, 108]⟩ : ByteArray)] from rfl) (Reps.one (show Kd.M Kd.string _ _ _ (⟨#[107, 103]⟩ : ByteArray) [.string (⟨#[107, 103]⟩ : ByteArray)] from rfl) (Reps.one (show Kd.M Kd.string _ _ _ (⟨#[103]⟩ : ByteArray) [.string (⟨#[103]⟩ : ByteArray)] from rfl) (Reps.one (show Kd.M Kd.string _ _ _ (⟨#[116]⟩ : ByteArray) [.string (⟨#[116]⟩ : ByteArray)] from rfl) (Reps.one (show Kd.M Kd.string _ _ _ (⟨#[109]⟩ : ByteArray) [.string (⟨#[109]⟩ : ByteArray)] from rfl) (Reps.none _ _))))))))); intro v164 w3 ho4 hb hg_ hnew_; clear hg_ hnew_; (first | rw [← Ny163.out] at ho4 | (simp only [Int.reduceToNat] at ho4; rw [← Ny163.out] at ho4)); have n0_ := Aside0.mk (Kd.qp1 ho4 (qq1 (w := w) (g := g) (row := none) (by repeat (first | (with_reducible first | exact HK.out | apply qn0.set_ | apply qq0 | apply qs0 | apply qr0) | exact HK.out)))); have n1_ := Aside0.mk (IsS186.below (by repeat (first | (with_reducible first | exact HI0.out | apply IsS186.alloc | apply IsS186.drewN | apply IsS186.drew | apply IsS186.set_1 | apply IsS186.set_2) | exact HI0.out)) hb); have n2_ := Aside0.mk (qn0.trans (by repeat (first | (with_reducible first | exact HK.out | apply qn0.set_ | apply qq0 | apply qs0 | apply qr0) | exact HK.out)) (qn0.of_below hb g none) (.inl rfl)); have n3_ := Aside0.mk (qo0 (by repeat (first | (with_reducible first | exact HB.out | apply qc0 | apply qa0 | apply qd0 | refine qi0 ?_ (IsS186.ge HI0.out)) | exact HB.out)) hb); clear HI0; clear HK; clear HB; have HO165 := n0_; have HI0 := n1_; have HK := n2_; have HB := n3_; clear n0_ n1_ n2_ n3_; clear hb ho4) | ((with_reducible refine qv0 (N := 9) rfl ?_); refine Kd.R_lit k35 _ 35 ?hg (N := 9) ?hd (xs := ([] : List (S35))) (inner := []) (ok := fun _ => True) (okp := fun _ => True) ?hr ?hp (fun _ hk => hk) trivial (Below.refl _ _) (Nat.le_refl _) (by simp) ?_; (case hd => rfl); (case hg => rfl); (case hr => first | (go_simp; done) | (go_simp; rfl)); (case hp => exact (Reps.none _ _)); intro v167 w5 ho6 hb hg_ hnew_; clear hg_ hnew_; (first | rw [← Ny166.out] at ho6 | (simp only [Int.reduceToNat] at ho6; rw [← Ny166.out] at ho6)); have n0_ := Aside0.mk (Kd.qy0 (by (with_reducible repeat (first | apply Kd.qk0 | apply Kd.qj0 | apply Kd.qm0)); exact HO165.out) hb); have n1_ := Aside0.mk (Kd.qp1 ho6 (qq1 (w := w) (g := g) (row := none) (by repeat (first | (with_reducible first | exact HK.out | apply qn0.set_ | apply qq0 | apply qs0 | apply qr0) | exact HK.out)))); have n2_ := Aside0.mk (IsS186.below (by repeat (first | (with_reducible first | exact HI0.out | apply IsS186.alloc | apply IsS186.drewN | apply IsS186.drew | apply IsS186.set_1 | apply IsS186.set_2) | exact HI0.out)) hb); have n3_ := Aside0.mk (qn0.trans (by repeat (first | (with_reducible first | exact HK.out | apply qn0.set_ | apply qq0 | apply qs0 | apply qr0) | exact HK.out)) (qn0.of_below hb g none) (.inl rfl)); have n4_ := Aside0.mk (qo0 (by repeat (first | (with_reducible first | exact HB.out | apply qc0 | apply qa0 | apply qd0 | refine qi0 ?_ (IsS186.ge HI0.out)) | exact HB.out)) hb); clear HO165; clear HI0; clear HK; clear HB; have HO165 := n0_; have HO168 := n1_; have HI0 := n2_; have HK := n3_; have HB := n4_; clear n0_ n1_ n2_ n3_ n4_; clear hb ho6) | ((with_reducible refine qw0 (f := 61) rfl ?_); refine qn1 (some 11) rfl rfl Try.func61 (by kernel_rfl) rfl #[.pointer (some ⟨g, 0, none⟩), .int .i64 7] rfl (by (try simp only [List.map_toArray, List.map_cons, List.map_nil]); first | done | rfl | (simp only [List.length_drop, List.length_take]; rfl)) ?_; (with_reducible refine (spec_l1Below.calls g s0_0 s0_1 s0_2 7 t169 t170 t171 w0 _ ?side1 ?side2 A2.out).mono ?_); (case side1 => repeat (first | (with_reducible first | exact HI0.out | apply IsS186.alloc | apply IsS186.drewN | apply IsS186.drew | apply IsS186.set_1 | apply IsS186.set_2) | exact HI0.out)); (case side2 => repeat (first | (with_reducible first | exact HB.out | apply qc0 | apply qa0 | apply qd0 | refine qi0 ?_ (IsS186.ge HI0.out)) | exact HB.out)); rintro e w7 ⟨rfl, hi, hb, hk⟩; refine ⟨_, rfl, ?_⟩; have n0_ := Aside0.mk (Kd.qz0 (Kd.ql1 (IsS186.apart (show IsS186 w0 _ g s0_0 s0_1 s0_2 from by repeat (first | (with_reducible first | exact HI0.out | apply IsS186.alloc | apply IsS186.drewN | apply IsS186.drew | apply IsS186.set_1 | apply IsS186.set_2) | exact HI0.out)) (by (with_reducible repeat (first | apply Kd.qk0 | apply Kd.qj0 | apply Kd.qm0)); exact HO165.out) (by decide)) hk (fun _ h => h.2)) (fun _ h => h.1)); have n1_ := Aside0.mk (Kd.qz0 (Kd.ql1 (IsS186.apart (show IsS186 w0 _ g s0_0 s0_1 s0_2 from by repeat (first | (with_reducible first | exact HI0.out | apply IsS186.alloc | apply IsS186.drewN | apply IsS186.drew | apply IsS186.set_1 | apply IsS186.set_2) | exact HI0.out)) (by (with_reducible repeat (first | apply Kd.qk0 | apply Kd.qj0 | apply Kd.qm0)); exact HO168.out) (by decide)) hk (fun _ h => h.2)) (fun _ h => h.1)); have n2_ := Aside0.mk (qn0.trans (by repeat (first | (with_reducible first | exact HK.out | apply qn0.set_ | apply qq0 | apply qs0 | apply qr0) | exact HK.out)) hk (.inl rfl)); have n3_ := Aside0.mk (hb); have n4_ := Aside0.mk (hi); clear HO165; clear HO168; clear HK; clear HB; clear HI0; have HO165 := n0_; have HO168 := n1_; have HK := n2_; have HB := n3_; have HI0 := n4_; clear n0_ n1_ n2_ n3_ n4_; (try clear hb); (try clear hb2); (try clear hk); (try clear hi)))
 go_loopg [4, 5] k (fun kq v4 v5 w' => ∃ (x4_1 : List (S35)) (x5_1 : Int) (x1001_1 : Int) (x1002_1 : Int), v5 = .int .i64 x5_1 ∧ Aside0 (spec_l15DrawConvs.l0 kq y163 x4_1 x5_1 s0_0 x1001_1 x1002_1 = some (r1, r2, r3)) ∧ Aside0 (kq ≤ k) ∧ Aside0 (Kd.R Kd.string 9 w' w.heap.size (fun _ => True) v164 y163) ∧ Aside0 (Kd.R k35 35 w' w.heap.size (fun _ => True) v4 x4_1) ∧ Aside0 (IsS186 w0 w' g s0_0 x1001_1 x1002_1) ∧ Aside0 (qn0 w w' g none) ∧ Aside0 (Below w0.heap.size w0 w'))
 case atStart => exact ⟨(y166), (t169), (t170), (t171), (by first | rfl | (simp; done) | (simp [*]; done)), H', ⟨Nat.le_refl _⟩, ⟨by (with_reducible repeat (first | apply Kd.qk0 | apply Kd.qj0 | apply Kd.qm0)); exact HO165.out⟩, ⟨by (with_reducible repeat (first | apply Kd.qk0 | apply Kd.qj0 | apply Kd.qm0)); exact HO168.out⟩, ⟨by repeat (first | (with_reducible first | exact HI0.out | apply IsS186.alloc | apply IsS186.drewN | apply IsS186.drew | apply IsS186.set_1 | apply IsS186.set_2) | exact HI0.out)⟩, ⟨by repeat (first | (with_reducible first | exact HK.out | apply qn0.set_ | apply qq0 | apply qs0 | apply qr0) | exact HK.out)⟩, ⟨by repeat (first | (with_reducible first | exact HB.out | apply qc0 | apply qa0 | apply qd0 | refine qi0 ?_ (IsS186.ge HI0.out)) | exact HB.out)⟩⟩
 case round =>
  clear H'
  try clear p2
  try clear c6
  try clear c7
  obtain ⟨x4_1, x5_1, x1001_1, x1002_1, rfl, HA, HK1, HO_3, HO_4, HI0, HK, HB⟩ := hrel
  cases gk with
  | zero => exact absurd HA.out (by simp [spec_l15DrawConvs.l0])
  | succ k1 =>
   have H := HA.out
   clear HA
   simp only [spec_l15DrawConvs.l0] at H
   by_cases c8 : x5_1 > 0
   ·rw [if_pos c8] at H
    have c8b0 : decide (0 < x5_1) = true := decide_eq_true c8
    clear c8
    replace H := Option.bind_eq_some_iff.mp H
    obtain ⟨⟨t172, t173, t174⟩, A90, H⟩ := H
    replace H : (if 0 ≤ t172 then (if t172 < (y163.length : Int) then ((spec_l1Below.f s0_0 t173 t174 3).bind fun bt176 => (if (y163.length : Int) = 0 then (none) else (if 0 ≤ (Int.tmod (wrap64 ((wrap64 (t172 + 1)) + bt176.1)) (y163.length : Int)) then (if (Int.tmod (wrap64 ((wrap64 (t172 + 1)) + bt176.1)) (y163.length : Int)) < (y163.length : Int) then ((spec_l1Below.f s0_0 bt176.2.1 bt176.2.2 12).bind fun bt180 => ((spec_l1PickInt.f s0_0 bt180.2.1 bt180.2.2 (([1, 1, 2, 1000] : List Int))).bind fun bt186 => ((spec_l1Once.f s0_0 bt186.2.1 bt186.2.2 30).bind fun bt190 => (if bt190.1 = true then ((spec_l1PickInt.f s0_0 bt190.2.1 bt190.2.2 (([0, 10000, 10001] : List Int))).bind fun bt196 => (spec_l15DrawConvs.j1 k1 y163 x4_1 x5_1 s0_0 bt196.2.1 bt196.2.2 (rdOf ByteArray.empty y163 t172) (rdOf ByteArray.empty y163 (Int.tmod (wrap64 ((wrap64 (t172 + 1)) + bt176.1)) (y163.length : Int))) bt196.1 bt186.1)) else (spec_l15DrawConvs.j1 k1 y163 x4_1 x5_1 s0_0 bt190.2.1 bt190.2.2 (rdOf ByteArray.empty y163 t172) (rdOf ByteArray.empty y163 (Int.tmod (wrap64 ((wrap64 (t172 + 1)) + bt176.1)) (y163.length : Int))) (wrap64 (1 + bt180.1)) bt186.1))))) else (none)) else (none)))) else (none)) else (none)) = some (r1, r2, r3) := H
    have A9 := Aside0.mk A90
    clear A90
    by_cases c10 : 0 ≤ t172
    case neg => rw [if_neg c10] at H; exact absurd H (by simp)
    rw [if_pos c10] at H
    have c10b0 : decide (0 ≤ t172) = true := decide_eq_true c10
    clear c10
    by_cases c11 : t172 < (y163.length : Int)
    case neg => rw [if_neg c11] at H; exact absurd H (by simp)
    rw [if_pos c11] at H
    have c11b0 : decide (t172 < (y163.length : Int)) = true := decide_eq_true c11
    clear c11
    replace H := Option.bind_eq_some_iff.mp H
    obtain ⟨⟨t176, t177, t178⟩, A120, H⟩ := H
    replace H : (if (y163.length : Int) = 0 then (none) else (if 0 ≤ (Int.tmod (wrap64 ((wrap64 (t172 + 1)) + t176)) (y163.length : Int)) then (if (Int.tmod (wrap64 ((wrap64 (t172 + 1)) + t176)) (y163.length : Int)) < (y163.length : Int) then ((spec_l1Below.f s0_0 t177 t178 12).bind fun bt180 => ((spec_l1PickInt.f s0_0 bt180.2.1 bt180.2.2 (([1, 1, 2, 1000] : List Int))).bind fun bt186 => ((spec_l1Once.f s0_0 bt186.2.1 bt186.2.2 30).bind fun bt190 => (if bt190.1 = true then ((spec_l1PickInt.f s0_0 bt190.2.1 bt190.2.2 (([0, 10000, 10001] : List Int))).bind fun bt196 => (spec_l15DrawConvs.j1 k1 y163 x4_1 x5_1 s0_0 bt196.2.1 bt196.2.2 (rdOf ByteArray.empty y163 t172) (rdOf ByteArray.empty y163 (Int.tmod (wrap64 ((wrap64 (t172 + 1)) + t176)) (y163.length : Int))) bt196.1 bt186.1)) else (spec_l15DrawConvs.j1 k1 y163 x4_1 x5_1 s0_0 bt190.2.1 bt190.2.2 (rdOf ByteArray.empty y163 t172) (rdOf ByteArray.empty y163 (Int.tmod (wrap64 ((wrap64 (t172 + 1)) + t176)) (y163.length : Int))) (wrap64 (1 + bt180.1)) bt186.1))))) else (none)) else (none))) = some (r1, r2, r3) := H
    have A12 := Aside0.mk A120
    clear A120
    by_cases c13 : (y163.length : Int) = 0
    ·rw [if_pos c13] at H
     exact absurd H (by simp)
    rw [if_neg c13] at H
    have c13b0 : ((y163.length : Int) == 0) = false := beq_eq_false_iff_ne.mpr c13
    have c13b1 : ((y163.length : Int) != 0) = true := bne_iff_ne.mpr c13
    have c13b2 : ¬ (y163 = []) := fun h_ => c13 (by rw [h_]; rfl)
    obtain ⟨ji14, hji14⟩ : ∃ j_ : Int, (Int.tmod (wrap64 ((wrap64 (t172 + 1)) + t176)) (y163.length : Int)) = j_ := ⟨_, rfl⟩
    replace H : (if 0 ≤ (ji14) then (if (ji14) < (y163.length : Int) then ((spec_l1Below.f s0_0 t177 t178 12).bind fun bt180 => ((spec_l1PickInt.f s0_0 bt180.2.1 bt180.2.2 (([1, 1, 2, 1000] : List Int))).bind fun bt186 => ((spec_l1Once.f s0_0 bt186.2.1 bt186.2.2 30).bind fun bt190 => (if bt190.1 = true then ((spec_l1PickInt.f s0_0 bt190.2.1 bt190.2.2 (([0, 10000, 10001] : List Int))).bind fun bt196 => (spec_l15DrawConvs.j1 k1 y163 x4_1 x5_1 s0_0 bt196.2.1 bt196.2.2 (rdOf ByteArray.empty y163 t172) (rdOf ByteArray.empty y163 (ji14)) bt196.1 bt186.1)) else (spec_l15DrawConvs.j1 k1 y163 x4_1 x5_1 s0_0 bt190.2.1 bt190.2.2 (rdOf ByteArray.empty y163 t172) (rdOf ByteArray.empty y163 (ji14)) (wrap64 (1 + bt180.1)) bt186.1))))) else (none)) else (none)) = some (r1, r2, r3) := by first | (rw [hji14] at H; exact H) | (simp only [hji14] at H ⊢; exact H)
    (try rw [hji14] at A9)
    (try rw [hji14] at A12)
    by_cases c15 : 0 ≤ (ji14)
    case neg => rw [if_neg c15] at H; exact absurd H (by simp)
    rw [if_pos c15] at H
    have c15b0 : decide (0 ≤ (ji14)) = true := decide_eq_true c15
    clear c15
    by_cases c16 : (ji14) < (y163.length : Int)
    case neg => rw [if_neg c16] at H; exact absurd H (by simp)
    rw [if_pos c16] at H
    have c16b0 : decide ((ji14) < (y163.length : Int)) = true := decide_eq_true c16
    clear c16
    replace H := Option.bind_eq_some_iff.mp H
    obtain ⟨⟨t180, t181, t182⟩, A170, H⟩ := H
    replace H : ((spec_l1PickInt.f s0_0 t181 t182 (([1, 1, 2, 1000] : List Int))).bind fun bt186 => ((spec_l1Once.f s0_0 bt186.2.1 bt186.2.2 30).bind fun bt190 => (if bt190.1 = true then ((spec_l1PickInt.f s0_0 bt190.2.1 bt190.2.2 (([0, 10000, 10001] : List Int))).bind fun bt196 => (spec_l15DrawConvs.j1 k1 y163 x4_1 x5_1 s0_0 bt196.2.1 bt196.2.2 (rdOf ByteArray.empty y163 t172) (rdOf ByteArray.empty y163 (ji14)) bt196.1 bt186.1)) else (spec_l15DrawConvs.j1 k1 y163 x4_1 x5_1 s0_0 bt190.2.1 bt190.2.2 (rdOf ByteArray.empty y163 t172) (rdOf ByteArray.empty y163 (ji14)) (wrap64 (1 + t180)) bt186.1)))) = some (r1, r2, r3) := H
    have A17 := Aside0.mk A170
    clear A170
    obtain ⟨y183, hy183⟩ : ∃ y_ : List Int, y_ = (([1, 1, 2, 1000] : List Int)) := ⟨_, rfl⟩
    replace H : ((spec_l1PickInt.f s0_0 t181 t182 y183).bind fun bt186 => ((spec_l1Once.f s0_0 bt186.2.1 bt186.2.2 30).bind fun bt190 => (if bt190.1 = true then ((spec_l1PickInt.f s0_0 bt190.2.1 bt190.2.2 (([0, 10000, 10001] : List Int))).bind fun bt196 => (spec_l15DrawConvs.j1 k1 y163 x4_1 x5_1 s0_0 bt196.2.1 bt196.2.2 (rdOf ByteArray.empty y163 t172) (rdOf ByteArray.empty y163 (ji14)) bt196.1 bt186.1)) else (spec_l15DrawConvs.j1 k1 y163 x4_1 x5_1 s0_0 bt190.2.1 bt190.2.2 (rdOf ByteArray.empty y163 t172) (rdOf ByteArray.empty y163 (ji14)) (wrap64 (1 + t180)) bt186.1)))) = some (r1, r2, r3) := by first | (rw [hy183]; with_reducible exact H) | (have H2_ := (Option.bind_some _ _).symm.trans H; rw [hy183]; with_reducible exact H2_) | (have H2_ := (Option.bind_some _ _).symm.trans H; with_reducible exact H2_) | with_reducible exact H | (rw [hy183]; exact H) | exact H
    have Ny183 := Aside0.mk hy183
    clear hy183
    replace H := Option.bind_eq_some_iff.mp H
    obtain ⟨⟨t186, t187, t188⟩, A180, H⟩ := H
    replace H : ((spec_l1Once.f s0_0 t187 t188 30).bind fun bt190 => (if bt190.1 = true then ((spec_l1PickInt.f s0_0 bt190.2.1 bt190.2.2 (([0, 10000, 10001] : List Int))).bind fun bt196 => (spec_l15DrawConvs.j1 k1 y163 x4_1 x5_1 s0_0 bt196.2.1 bt196.2.2 (rdOf ByteArray.empty y163 t172) (rdOf ByteArray.empty y163 (ji14)) bt196.1 t186)) else (spec_l15DrawConvs.j1 k1 y163 x4_1 x5_1 s0_0 bt190.2.1 bt190.2.2 (rdOf ByteArray.empty y163 t172) (rdOf ByteArray.empty y163 (ji14)) (wrap64 (1 + t180)) t186))) = some (r1, r2, r3) := H
    have A18 := Aside0.mk A180
    clear A180
    replace H := Option.bind_eq_some_iff.mp H
    obtain ⟨⟨t190, t191, t192⟩, A190, H⟩ := H
    replace H : (if t190 = true then ((spec_l1PickInt.f s0_0 t191 t192 (([0, 10000, 10001] : List Int))).bind fun bt196 => (spec_l15DrawConvs.j1 k1 y163 x4_1 x5_1 s0_0 bt196.2.1 bt196.2.2 (rdOf ByteArray.empty y163 t172) (rdOf ByteArray.empty y163 (ji14)) bt196.1 t186)) else (spec_l15DrawConvs.j1 k1 y163 x4_1 x5_1 s0_0 t191 t192 (rdOf ByteArray.empty y163 t172) (rdOf ByteArray.empty y163 (ji14)) (wrap64 (1 + t180)) t186)) = some (r1, r2, r3) := H
    have A19 := Aside0.mk A190
    clear A190
    have HC20 := Aside0.mk H
    clear H
    obtain ⟨Ao21, co21, eo21⟩ := Kd.qo1 HO_3.out
    subst eo21
    try go_wp2_with (first | ((with_reducible refine qw0 (f := 61) rfl ?_); refine qn1 (some 19) rfl rfl Try.func61 (by kernel_rfl) rfl #[.pointer (some ⟨g, 0, none⟩), .int .i64 (y163.length : Int)] rfl (by (try simp only [List.map_toArray, List.map_cons, List.map_nil]); first | done | rfl | (simp only [List.length_drop, List.length_take]; rfl)) ?_; (with_reducible refine (spec_l1Below.calls g s0_0 x1001_1 x1002_1 (y163.length : Int) t172 t173 t174 w0 _ ?side1 ?side2 A9.out).mono ?_); (case side1 => repeat (first | (with_reducible first | exact HI0.out | apply IsS186.alloc | apply IsS186.drewN | apply IsS186.drew | apply IsS186.set_1 | apply IsS186.set_2) | exact HI0.out)); (case side2 => repeat (first | (with_reducible first | exact HB.out | apply qc0 | apply qa0 | apply qd0 | refine qi0 ?_ (IsS186.ge HI0.out)) | exact HB.out)); rintro e w22 ⟨rfl, hi, hb, hk⟩; refine ⟨_, rfl, ?_⟩; have n0_ := Aside0.mk (Kd.qz0 (Kd.ql1 (IsS186.apart (show IsS186 w0 _ g s0_0 x1001_1 x1002_1 from by repeat (first | (with_reducible first | exact HI0.out | apply IsS186.alloc | apply IsS186.drewN | apply IsS186.drew | apply IsS186.set_1 | apply IsS186.set_2) | exact HI0.out)) (by (with_reducible repeat (first | apply Kd.qk0 | apply Kd.qj0 | apply Kd.qm0)); exact HO_3.out) (by decide)) hk (fun _ h => h.2)) (fun _ h => h.1)); have n1_ := Aside0.mk (Kd.qz0 (Kd.ql1 (IsS186.apart (show IsS186 w0 _ g s0_0 x1001_1 x1002_1 from by repeat (first | (with_reducible first | exact HI0.out | apply IsS186.alloc | apply IsS186.drewN | apply IsS186.drew | apply IsS186.set_1 | apply IsS186.set_2) | exact HI0.out)) (by (with_reducible repeat (first | apply Kd.qk0 | apply Kd.qj0 | apply Kd.qm0)); exact HO_4.out) (by decide)) hk (fun _ h => h.2)) (fun _ h => h.1)); have n2_ := Aside0.mk (qn0.trans (by repeat (first | (with_reducible first | exact HK.out | apply qn0.set_ | apply qq0 | apply qs0 | apply qr0) | exact HK.out)) hk (.inl rfl)); have n3_ := Aside0.mk (hb); have n4_ := Aside0.mk (hi); clear HO_3; clear HO_4; clear HK; clear HB; clear HI0; have HO_3 := n0_; have HO_4 := n1_; have HK := n2_; have HB := n3_; have HI0 := n4_; clear n0_ n1_ n2_ n3_ n4_; (try clear hb); (try clear hb2); (try clear hk); (try clear hi)))
    have n0_ := Aside0.mk (Kd.qm0 HO_3.out)
    have n1_ := Aside0.mk (Kd.qm0 HO_4.out)
    have n2_ := Aside0.mk (IsS186.drew HI0.out)
    have n3_ := Aside0.mk (qs0 HK.out)
    have n4_ := Aside0.mk (qd0 HB.out)
    clear HO_3
    clear HO_4
    clear HI0
    clear HK
    clear HB
    have HO_3 := n0_
    have HO_4 := n1_
    have HI0 := n2_
    have HK := n3_
    have HB := n4_
    clear n0_ n1_ n2_ n3_ n4_
    have p175 : 0 ≤ (t172 : Int) := of_decide_eq_true (by first | (with_reducible assumption) | assumption)
    have q175 : t172 < (y163.length : Int) := of_decide_eq_true (by first | (with_reducible assumption) | assumption)
    obtain ⟨ad175, e175, hx175_0⟩ := Kd.at_string (Kd.R_reads' HO_3.out).2.2 t172 p175 q175
    cases e175
    replace p175 := eq_true p175
    replace q175 := eq_true q175
    have p179 : 0 ≤ ((ji14) : Int) := of_decide_eq_true (by first | (with_reducible assumption) | assumption)
    have q179 : (ji14) < (y163.length : Int) := of_decide_eq_true (by first | (with_reducible assumption) | assumption)
    obtain ⟨ad179, e179, hx179_0⟩ := Kd.at_string (Kd.R_reads' HO_3.out).2.2 (ji14) p179 q179
    obtain rfl : ad175 = ad179 := (by injection e179)
    replace p179 := eq_true p179
    replace q179 := eq_true q179
    refine start_ (n := 24) (S := fun w' => w'.cell? (ad175.add (t172).toNat) = some (.string (rdOf ByteArray.empty y163 t172)) ∧ w'.cell? (ad175.add ((ji14)).toNat) = some (.string (rdOf ByteArray.empty y163 (ji14)))) (ds := []) (rb4 [0, 24]) (by kernel_rfl) rfl rfl ⟨hx175_0, hx179_0⟩ (fun hHeld => ?_); refine with_tabW spec_l15DrawConvs.tab7 spec_l15DrawConvs.bits7 (fun HT_ HW_ => ?_)
    generalize w22.drew = w23 at HO_3 HO_4 HI0 HK HB hx175_0 hx179_0 hHeld ⊢
    refine pure_ (i := 0) (N := some 20) (v := ?_) (a' := ?_) (rb4 [1, 23]) rfl rfl (qu1 HT_.out (by kernel_rfl)) (fun _ _ _ h => h) (Or.inl ⟨by rfl, ?_⟩) ?_ ?_
    rotate_left
    ·intro w'
     go_simp
     with_reducible rfl
    rotate_left
    ·simp only [Act.put, List.setIfInBounds_toArray, List.set_cons_zero, List.set_cons_succ, i64_w, i32_w]
     rfl
    refine pure_ (i := 1) (N := some 21) (v := ?_) (a' := ?_) (rb4 [2, 22]) rfl rfl (qu1 HT_.out (by kernel_rfl)) (fun _ _ _ h => h) (Or.inl ⟨by rfl, ?_⟩) ?_ ?_
    rotate_left
    ·intro w'
     go_simp
     with_reducible rfl
    rotate_left
    ·simp only [Act.put, List.setIfInBounds_toArray, List.set_cons_zero, List.set_cons_succ, i64_w, i32_w]
     rfl
    refine pure_ (i := 2) (N := some 22) (v := ?_) (a' := ?_) (rb4 [3, 21]) rfl rfl (qu1 HT_.out (by kernel_rfl)) (fun _ _ _ h => h) (Or.inl ⟨by rfl, ?_⟩) ?_ ?_
    rotate_left
    ·intro w'
     go_simp
     with_reducible rfl
    rotate_left
    ·simp only [Act.put, List.setIfInBounds_toArray, List.set_cons_zero, List.set_cons_succ, i64_w, i32_w]
     rfl
    refine pure_ (i := 4) (N := some 24) (v := ?_) (a' := ?_) (rb4 [3, 1, 1, 19]) rfl rfl (qu1 HT_.out (by kernel_rfl)) (fun _ _ _ h => h) (Or.inl ⟨by rfl, ?_⟩) ?_ ?_
    rotate_left
    ·intro w'
     go_simp
     with_reducible rfl
    rotate_left
    ·simp only [Act.put, List.setIfInBounds_toArray, List.set_cons_zero, List.set_cons_succ, i64_w, i32_w]
     rfl
    refine pure_ (i := 5) (N := some 25) (v := ?_) (a' := ?_) (rb4 [3, 1, 2, 18]) rfl rfl (qu1 HT_.out (by kernel_rfl)) (fun _ _ _ h => h) (Or.inl ⟨by rfl, ?_⟩) ?_ ?_
    rotate_left
    ·intro w'
     go_simp
     with_reducible rfl
    rotate_left
    ·simp only [Act.put, List.setIfInBounds_toArray, List.set_cons_zero, List.set_cons_succ, i64_w, i32_w]
     rfl
    refine pure_ (i := 6) (N := some 26) (v := ?_) (a' := ?_) (rb4 [3, 1, 3, 17]) rfl rfl (qu1 HT_.out (by kernel_rfl)) (fun _ _ _ h => h) (Or.inl ⟨by rfl, ?_⟩) ?_ ?_
    rotate_left
    ·intro w'
     go_simp
     with_reducible rfl
    rotate_left
    ·simp only [Act.put, List.setIfInBounds_toArray, List.set_cons_zero, List.set_cons_succ, i64_w, i32_w]
     rfl
    refine pure_ (i := 7) (N := some 27) (v := ?_) (a' := ?_) (rb4 [3, 1, 4, 16]) rfl rfl (qu1 HT_.out (by kernel_rfl)) (fun _ _ _ h => h) (Or.inl ⟨by rfl, ?_⟩) ?_ ?_
    rotate_left
    ·intro w'
     go_simp
     with_reducible rfl
    rotate_left
    ·simp only [Act.put, List.setIfInBounds_toArray, List.set_cons_zero, List.set_cons_succ, i64_w, i32_w]
     rfl
    refine pure_ (i := 10) (N := some 30) (v := ?_) (a' := ?_) (rb4 [3, 1, 4, 2, 1, 13]) rfl rfl (qu1 HT_.out (by kernel_rfl)) (fun _ _ _ h => h) (Or.inl ⟨by rfl, ?_⟩) ?_ ?_
    rotate_left
    ·intro w'
     go_simp
     with_reducible rfl
    rotate_left
    ·simp only [Act.put, List.setIfInBounds_toArray, List.set_cons_zero, List.set_cons_succ, i64_w, i32_w]
     rfl
    refine pure_ (i := 11) (N := some 31) (v := ?_) (a' := ?_) (rb4 [3, 1, 4, 2, 2, 12]) rfl rfl (qu1 HT_.out (by kernel_rfl)) (fun _ _ _ h => h) (Or.inl ⟨by rfl, ?_⟩) ?_ ?_
    rotate_left
    ·intro w'
     go_simp
     with_reducible rfl
    rotate_left
    ·simp only [Act.put, List.setIfInBounds_toArray, List.set_cons_zero, List.set_cons_succ, i64_w, i32_w]
     rfl
    refine pure_ (i := 15) (N := some 35) (v := ?_) (a' := ?_) (rb4 [3, 1, 4, 2, 2, 3, 1, 8]) rfl rfl (qu1 HT_.out (by kernel_rfl)) (fun _ _ _ h => h) (Or.inl ⟨by rfl, ?_⟩) ?_ ?_
    rotate_left
    ·intro w'
     go_simp
     with_reducible rfl
    rotate_left
    ·simp only [Act.put, List.setIfInBounds_toArray, List.set_cons_zero, List.set_cons_succ, i64_w, i32_w]
     rfl
    refine pure_ (i := 18) (N := some 38) (v := ?_) (a' := ?_) (rb4 [3, 1, 4, 2, 2, 3, 1, 2, 1, 5]) rfl rfl (qu1 HT_.out (by kernel_rfl)) (fun _ _ _ h => h) (Or.inl ⟨by rfl, ?_⟩) ?_ ?_
    rotate_left
    ·intro w'
     go_simp
     with_reducible rfl
    rotate_left
    ·simp only [Act.put, List.setIfInBounds_toArray, List.set_cons_zero, List.set_cons_succ, i64_w, i32_w]
     rfl
    refine take_ (i := 3) (N := some 23) (v := ?_) (a' := ?_) (rb4 [8, 2, 2, 3, 1, 2, 1, 5]) rfl rfl (take_ofW HT_.out HW_.out (by kernel_rfl)) (fun _ _ _ h => h) (Or.inl ⟨by rfl, ?_⟩) hHeld ?_ ?_
    rotate_left
    ·rintro w' ⟨s0, s1⟩
     go_simp
     with_reducible rfl
    rotate_left
    ·simp only [Act.put, List.setIfInBounds_toArray, List.set_cons_zero, List.set_cons_succ, i64_w, i32_w]
     rfl
    refine join_ (σ := Value × Nat) 1 (rb4 [23, 1]) (fun s_ => [(28, .int .i64 t176), (36, .int .i64 t180), (39, s_.1), (40, .int .i64 t186), (7, .pointer (some ⟨s_.2, 0, none⟩)), (29, .int .i64 (wrap64 ((wrap64 (t172 + 1)) + t176))), (32, .int .i64 ji14), (33, .pointer (some (ad175.add ((ji14)).toNat))), (34, .string (rdOf ByteArray.empty y163 (ji14))), (37, .int .i64 (wrap64 (1 + t180))), (41, .agg #[.string (rdOf ByteArray.empty y163 t172), .string (rdOf ByteArray.empty y163 (ji14)), .int .i64 (wrap64 (1 + t180)), .int .i64 t186])]) (fun s_ w' => (w'.cell? (ad175.add (t172).toNat) = some (.string (rdOf ByteArray.empty y163 t172)) ∧ w'.cell? (ad175.add ((ji14)).toNat) = some (.string (rdOf ByteArray.empty y163 (ji14)))) ∧ (Kd.R (Kd.int .i64) 3 w' w.heap.size (fun _ => True) s_.1 y183) ∧ (Kd.R Kd.string 9 w' w.heap.size (fun _ => True) (.slice (some ad175) y163.length co21) y163) ∧ (Kd.R k35 35 w' w.heap.size (fun k_ => k_ ≠ s_.2) u4 x4_1) ∧ (w'.heap[s_.2]? = some (.cells #[.string (⟨#[]⟩ : ByteArray), .string (⟨#[]⟩ : ByteArray), .int .i64 0, .int .i64 0] 35 (0, 0))) ∧ (w.heap.size ≤ s_.2) ∧ (w0.heap.size ≤ s_.2) ∧ (g ≠ s_.2) ∧ (s_.2 ≠ g) ∧ (IsS186 w0 w' g s0_0 t187 t188) ∧ (qn0 w w' g none) ∧ (Below w0.heap.size w0 w')) ?_ ?_
    rotate_left
    ·intro hJ8_16_19_20_22
     refine join_ (σ := Value) 2 (rb4 [22, 2]) (fun s_ => [(28, .int .i64 t176), (36, .int .i64 t180), (39, s_), (40, .int .i64 t186), (29, .int .i64 (wrap64 ((wrap64 (t172 + 1)) + t176))), (32, .int .i64 ji14), (33, .pointer (some (ad175.add ((ji14)).toNat))), (34, .string (rdOf ByteArray.empty y163 (ji14))), (37, .int .i64 (wrap64 (1 + t180))), (41, .agg #[.string (rdOf ByteArray.empty y163 t172), .string (rdOf ByteArray.empty y163 (ji14)), .int .i64 (wrap64 (1 + t180)), .int .i64 t186])]) (fun s_ w' => (w'.cell? (ad175.add (t172).toNat) = some (.string (rdOf ByteArray.empty y163 t172)) ∧ w'.cell? (ad175.add ((ji14)).toNat) = some (.string (rdOf ByteArray.empty y163 (ji14)))) ∧ (Kd.R (Kd.int .i64) 3 w' w.heap.size (fun _ => True) s_ y183) ∧ (Kd.R Kd.string 9 w' w.heap.size (fun _ => True) (.slice (some ad175) y163.length co21) y163) ∧ (Kd.R k35 35 w' w.heap.size (fun _ => True) u4 x4_1) ∧ (IsS186 w0 w' g s0_0 t187 t188) ∧ (qn0 w w' g none) ∧ (Below w0.heap.size w0 w')) ?_ ?_
     rotate_left
     ·intro hJ8_16_19_20
      refine join_ (σ := Value × Nat) 3 (rb4 [20, 2, 1, 1]) (fun s_ => [(28, .int .i64 t176), (36, .int .i64 t180), (39, s_.1), (7, .pointer (some ⟨s_.2, 0, none⟩)), (29, .int .i64 (wrap64 ((wrap64 (t172 + 1)) + t176))), (32, .int .i64 ji14), (33, .pointer (some (ad175.add ((ji14)).toNat))), (34, .string (rdOf ByteArray.empty y163 (ji14))), (37, .int .i64 (wrap64 (1 + t180)))]) (fun s_ w' => (w'.cell? (ad175.add (t172).toNat) = some (.string (rdOf ByteArray.empty y163 t172)) ∧ w'.cell? (ad175.add ((ji14)).toNat) = some (.string (rdOf ByteArray.empty y163 (ji14)))) ∧ (Kd.R (Kd.int .i64) 3 w' w.heap.size (fun _ => True) s_.1 y183) ∧ (Kd.R Kd.string 9 w' w.heap.size (fun _ => True) (.slice (some ad175) y163.length co21) y163) ∧ (Kd.R k35 35 w' w.heap.size (fun k_ => k_ ≠ s_.2) u4 x4_1) ∧ (w'.heap[s_.2]? = some (.cells #[.string (⟨#[]⟩ : ByteArray), .string (⟨#[]⟩ : ByteArray), .int .i64 0, .int .i64 0] 35 (0, 0))) ∧ (w.heap.size ≤ s_.2) ∧ (w0.heap.size ≤ s_.2) ∧ (g ≠ s_.2) ∧ (s_.2 ≠ g) ∧ (IsS186 w0 w' g s0_0 t181 t182) ∧ (qn0 w w' g none) ∧ (Below w0.heap.size w0 w')) ?_ ?_
      rotate_left
      ·intro hJ8_16_19_22
       refine join_ (σ := Value) 4 (rb4 [20, 4]) (fun s_ => [(28, .int .i64 t176), (36, .int .i64 t180), (39, s_), (29, .int .i64 (wrap64 ((wrap64 (t172 + 1)) + t176))), (32, .int .i64 ji14), (33, .pointer (some (ad175.add ((ji14)).toNat))), (34, .string (rdOf ByteArray.empty y163 (ji14))), (37, .int .i64 (wrap64 (1 + t180)))]) (fun s_ w' => (w'.cell? (ad175.add (t172).toNat) = some (.string (rdOf ByteArray.empty y163 t172)) ∧ w'.cell? (ad175.add ((ji14)).toNat) = some (.string (rdOf ByteArray.empty y163 (ji14)))) ∧ (Kd.R (Kd.int .i64) 3 w' w.heap.size (fun _ => True) s_ y183) ∧ (Kd.R Kd.string 9 w' w.heap.size (fun _ => True) (.slice (some ad175) y163.length co21) y163) ∧ (Kd.R k35 35 w' w.heap.size (fun _ => True) u4 x4_1) ∧ (IsS186 w0 w' g s0_0 t181 t182) ∧ (qn0 w w' g none) ∧ (Below w0.heap.size w0 w')) ?_ ?_
       rotate_left
       ·intro hJ8_16_19
        refine join_ (σ := Nat) 4 (rb4 [19, 3, 1, 1]) (fun s_ => [(28, .int .i64 t176), (36, .int .i64 t180), (7, .pointer (some ⟨s_, 0, none⟩)), (29, .int .i64 (wrap64 ((wrap64 (t172 + 1)) + t176))), (32, .int .i64 ji14), (33, .pointer (some (ad175.add ((ji14)).toNat))), (34, .string (rdOf ByteArray.empty y163 (ji14))), (37, .int .i64 (wrap64 (1 + t180)))]) (fun s_ w' => (w'.cell? (ad175.add (t172).toNat) = some (.string (rdOf ByteArray.empty y163 t172)) ∧ w'.cell? (ad175.add ((ji14)).toNat) = some (.string (rdOf ByteArray.empty y163 (ji14)))) ∧ (Kd.R Kd.string 9 w' w.heap.size (fun _ => True) (.slice (some ad175) y163.length co21) y163) ∧ (Kd.R k35 35 w' w.heap.size (fun k_ => k_ ≠ s_) u4 x4_1) ∧ (w'.heap[s_]? = some (.cells #[.string (⟨#[]⟩ : ByteArray), .string (⟨#[]⟩ : ByteArray), .int .i64 0, .int .i64 0] 35 (0, 0))) ∧ (w.heap.size ≤ s_) ∧ (w0.heap.size ≤ s_) ∧ (g ≠ s_) ∧ (s_ ≠ g) ∧ (IsS186 w0 w' g s0_0 t181 t182) ∧ (qn0 w w' g none) ∧ (Below w0.heap.size w0 w')) ?_ ?_
        rotate_left
        ·intro hJ8_16_22
         refine join_ (σ := Value × Nat) 5 (rb4 [16, 2, 2, 2, 1, 1]) (fun s_ => [(28, .int .i64 t176), (39, s_.1), (7, .pointer (some ⟨s_.2, 0, none⟩)), (29, .int .i64 (wrap64 ((wrap64 (t172 + 1)) + t176))), (32, .int .i64 ji14), (33, .pointer (some (ad175.add ((ji14)).toNat))), (34, .string (rdOf ByteArray.empty y163 (ji14)))]) (fun s_ w' => (w'.cell? (ad175.add (t172).toNat) = some (.string (rdOf ByteArray.empty y163 t172)) ∧ w'.cell? (ad175.add ((ji14)).toNat) = some (.string (rdOf ByteArray.empty y163 (ji14)))) ∧ (Kd.R (Kd.int .i64) 3 w' w.heap.size (fun _ => True) s_.1 y183) ∧ (Kd.R Kd.string 9 w' w.heap.size (fun _ => True) (.slice (some ad175) y163.length co21) y163) ∧ (Kd.R k35 35 w' w.heap.size (fun k_ => k_ ≠ s_.2) u4 x4_1) ∧ (w'.heap[s_.2]? = some (.cells #[.string (⟨#[]⟩ : ByteArray), .string (⟨#[]⟩ : ByteArray), .int .i64 0, .int .i64 0] 35 (0, 0))) ∧ (w.heap.size ≤ s_.2) ∧ (w0.heap.size ≤ s_.2) ∧ (g ≠ s_.2) ∧ (s_.2 ≠ g) ∧ (IsS186 w0 w' g s0_0 t177 t178) ∧ (qn0 w w' g none) ∧ (Below w0.heap.size w0 w')) ?_ ?_
         rotate_left
         ·intro hJ8_19_22
          refine join_ (σ := Unit) 5 (rb4 [19, 5]) (fun s_ => [(28, .int .i64 t176), (36, .int .i64 t180), (29, .int .i64 (wrap64 ((wrap64 (t172 + 1)) + t176))), (32, .int .i64 ji14), (33, .pointer (some (ad175.add ((ji14)).toNat))), (34, .string (rdOf ByteArray.empty y163 (ji14))), (37, .int .i64 (wrap64 (1 + t180)))]) (fun s_ w' => (w'.cell? (ad175.add (t172).toNat) = some (.string (rdOf ByteArray.empty y163 t172)) ∧ w'.cell? (ad175.add ((ji14)).toNat) = some (.string (rdOf ByteArray.empty y163 (ji14)))) ∧ (Kd.R Kd.string 9 w' w.heap.size (fun _ => True) (.slice (some ad175) y163.length co21) y163) ∧ (Kd.R k35 35 w' w.heap.size (fun _ => True) u4 x4_1) ∧ (IsS186 w0 w' g s0_0 t181 t182) ∧ (qn0 w w' g none) ∧ (Below w0.heap.size w0 w')) ?_ ?_
          rotate_left
          ·intro hJ8_16
           refine join_ (σ := Value) 6 (rb4 [16, 2, 2, 4]) (fun s_ => [(28, .int .i64 t176), (39, s_), (29, .int .i64 (wrap64 ((wrap64 (t172 + 1)) + t176))), (32, .int .i64 ji14), (33, .pointer (some (ad175.add ((ji14)).toNat))), (34, .string (rdOf ByteArray.empty y163 (ji14)))]) (fun s_ w' => (w'.cell? (ad175.add (t172).toNat) = some (.string (rdOf ByteArray.empty y163 t172)) ∧ w'.cell? (ad175.add ((ji14)).toNat) = some (.string (rdOf ByteArray.empty y163 (ji14)))) ∧ (Kd.R (Kd.int .i64) 3 w' w.heap.size (fun _ => True) s_ y183) ∧ (Kd.R Kd.string 9 w' w.heap.size (fun _ => True) (.slice (some ad175) y163.length co21) y163) ∧ (Kd.R k35 35 w' w.heap.size (fun _ => True) u4 x4_1) ∧ (IsS186 w0 w' g s0_0 t177 t178) ∧ (qn0 w w' g none) ∧ (Below w0.heap.size w0 w')) ?_ ?_
           rotate_left
           ·intro hJ8_19
            refine join_ (σ := Nat) 6 (rb4 [16, 2, 1, 3, 1, 1]) (fun s_ => [(28, .int .i64 t176), (7, .pointer (some ⟨s_, 0, none⟩)), (29, .int .i64 (wrap64 ((wrap64 (t172 + 1)) + t176))), (32, .int .i64 ji14), (33, .pointer (some (ad175.add ((ji14)).toNat))), (34, .string (rdOf ByteArray.empty y163 (ji14)))]) (fun s_ w' => (w'.cell? (ad175.add (t172).toNat) = some (.string (rdOf ByteArray.empty y163 t172)) ∧ w'.cell? (ad175.add ((ji14)).toNat) = some (.string (rdOf ByteArray.empty y163 (ji14)))) ∧ (Kd.R Kd.string 9 w' w.heap.size (fun _ => True) (.slice (some ad175) y163.length co21) y163) ∧ (Kd.R k35 35 w' w.heap.size (fun k_ => k_ ≠ s_) u4 x4_1) ∧ (w'.heap[s_]? = some (.cells #[.string (⟨#[]⟩ : ByteArray), .string (⟨#[]⟩ : ByteArray), .int .i64 0, .int .i64 0] 35 (0, 0))) ∧ (w.heap.size ≤ s_) ∧ (w0.heap.size ≤ s_) ∧ (g ≠ s_) ∧ (s_ ≠ g) ∧ (IsS186 w0 w' g s0_0 t177 t178) ∧ (qn0 w w' g none) ∧ (Below w0.heap.size w0 w')) ?_ ?_
            rotate_left
            ·intro hJ8_22
             refine join_ (σ := Value × Nat) 10 (rb4 [8, 2, 2, 3, 1, 2, 2, 2, 1, 1]) (fun s_ => [(39, s_.1), (7, .pointer (some ⟨s_.2, 0, none⟩))]) (fun s_ w' => (w'.cell? (ad175.add (t172).toNat) = some (.string (rdOf ByteArray.empty y163 t172)) ∧ w'.cell? (ad175.add ((ji14)).toNat) = some (.string (rdOf ByteArray.empty y163 (ji14)))) ∧ (Kd.R (Kd.int .i64) 3 w' w.heap.size (fun _ => True) s_.1 y183) ∧ (Kd.R Kd.string 9 w' w.heap.size (fun _ => True) (.slice (some ad175) y163.length co21) y163) ∧ (Kd.R k35 35 w' w.heap.size (fun k_ => k_ ≠ s_.2) u4 x4_1) ∧ (w'.heap[s_.2]? = some (.cells #[.string (⟨#[]⟩ : ByteArray), .string (⟨#[]⟩ : ByteArray), .int .i64 0, .int .i64 0] 35 (0, 0))) ∧ (w.heap.size ≤ s_.2) ∧ (w0.heap.size ≤ s_.2) ∧ (g ≠ s_.2) ∧ (s_.2 ≠ g) ∧ (IsS186 w0 w' g s0_0 t173 t174) ∧ (qn0 w w' g none) ∧ (Below w0.heap.size w0 w')) ?_ ?_
             rotate_left
             ·intro hJ19_22
              refine join_ (σ := Unit) 7 (rb4 [16, 2, 1, 5]) (fun s_ => [(28, .int .i64 t176), (29, .int .i64 (wrap64 ((wrap64 (t172 + 1)) + t176))), (32, .int .i64 ji14), (33, .pointer (some (ad175.add ((ji14)).toNat))), (34, .string (rdOf ByteArray.empty y163 (ji14)))]) (fun s_ w' => (w'.cell? (ad175.add (t172).toNat) = some (.string (rdOf ByteArray.empty y163 t172)) ∧ w'.cell? (ad175.add ((ji14)).toNat) = some (.string (rdOf ByteArray.empty y163 (ji14)))) ∧ (Kd.R Kd.string 9 w' w.heap.size (fun _ => True) (.slice (some ad175) y163.length co21) y163) ∧ (Kd.R k35 35 w' w.heap.size (fun _ => True) u4 x4_1) ∧ (IsS186 w0 w' g s0_0 t177 t178) ∧ (qn0 w w' g none) ∧ (Below w0.heap.size w0 w')) ?_ ?_
              rotate_left
              ·intro hJ8
               refine join_ (σ := Value) 11 (rb4 [8, 2, 2, 3, 1, 2, 2, 4]) (fun s_ => [(39, s_)]) (fun s_ w' => (w'.cell? (ad175.add (t172).toNat) = some (.string (rdOf ByteArray.empty y163 t172)) ∧ w'.cell? (ad175.add ((ji14)).toNat) = some (.string (rdOf ByteArray.empty y163 (ji14)))) ∧ (Kd.R (Kd.int .i64) 3 w' w.heap.size (fun _ => True) s_ y183) ∧ (Kd.R Kd.string 9 w' w.heap.size (fun _ => True) (.slice (some ad175) y163.length co21) y163) ∧ (Kd.R k35 35 w' w.heap.size (fun _ => True) u4 x4_1) ∧ (IsS186 w0 w' g s0_0 t173 t174) ∧ (qn0 w w' g none) ∧ (Below w0.heap.size w0 w')) ?_ ?_
               rotate_left
               ·intro hJ19
                refine join_ (σ := Nat) 11 (rb4 [8, 2, 2, 3, 1, 2, 1, 3, 1, 1]) (fun s_ => [(7, .pointer (some ⟨s_, 0, none⟩))]) (fun s_ w' => (w'.cell? (ad175.add (t172).toNat) = some (.string (rdOf ByteArray.empty y163 t172)) ∧ w'.cell? (ad175.add ((ji14)).toNat) = some (.string (rdOf ByteArray.empty y163 (ji14)))) ∧ (Kd.R Kd.string 9 w' w.heap.size (fun _ => True) (.slice (some ad175) y163.length co21) y163) ∧ (Kd.R k35 35 w' w.heap.size (fun k_ => k_ ≠ s_) u4 x4_1) ∧ (w'.heap[s_]? = some (.cells #[.string (⟨#[]⟩ : ByteArray), .string (⟨#[]⟩ : ByteArray), .int .i64 0, .int .i64 0] 35 (0, 0))) ∧ (w.heap.size ≤ s_) ∧ (w0.heap.size ≤ s_) ∧ (g ≠ s_) ∧ (s_ ≠ g) ∧ (IsS186 w0 w' g s0_0 t173 t174) ∧ (qn0 w w' g none) ∧ (Below w0.heap.size w0 w')) ?_ ?_
                rotate_left
                ·intro hJ22
                 refine three_ (i := 8) (j := 19) (k := 22) (Ni := some 28) (Nj := some 39) (Nk := some 7) (rb4 [9, 1, 2, 3, 1, 2, 1, 5]) (rb4 [8, 2, 2, 3, 1, 2, 2, 4]) (rb4 [8, 2, 2, 3, 1, 2, 1, 3, 1, 1]) rfl rfl rfl rfl rfl rfl (three_of HT_.out (by kernel_rfl)) (by decide) (by decide) (by decide) (fun K hK => ?_) (fun K hK => ?_) (fun K hK => ?_)
                 ·skip
                  refine goes_ Try.func61 (by kernel_rfl) rfl #[.pointer (some ⟨g, 0, none⟩), .int .i64 3] (by rfl) rfl rfl (by (try simp only [List.map_toArray, List.map_cons, List.map_nil]); first | done | rfl | (simp only [List.length_drop, List.length_take]; rfl)) ?_
                  with_reducible refine (spec_l1Below.calls g s0_0 t173 t174 3 t176 t177 t178 w0 _ ?side1 ?side2 A12.out).mono ?_
                  (case side1 => repeat (first | (with_reducible first | exact HI0.out | apply IsS186.alloc | apply IsS186.drewN | apply IsS186.drew | apply IsS186.set_1 | apply IsS186.set_2) | exact HI0.out))
                  (case side2 => repeat (first | (with_reducible first | exact HB.out | apply qc0 | apply qa0 | apply qd0 | refine qi0 ?_ (IsS186.ge HI0.out)) | exact HB.out))
                  rintro e w24 ⟨rfl, hi, hb, hk⟩
                  have HS0_ := qh1 hk (hHeld.1) (by first | (rw [add_block]; exact Kd.qt0 (IsS186.own_ne HI0.out HO_3.out (by decide))) | (show (Addr.add _ _).block ≠ _; rw [add_block]; exact Kd.qt0 (IsS186.own_ne HI0.out HO_3.out (by decide))) | exact Kd.qt0 (IsS186.own_ne HI0.out HO_3.out (by decide)) | (have b_ := Kd.qt0 (IsS186.own_ne HI0.out HO_3.out (by decide)); exact b_))
                  have HS1_ := qh1 hk (hHeld.2) (by first | (rw [add_block]; exact Kd.qt0 (IsS186.own_ne HI0.out HO_3.out (by decide))) | (show (Addr.add _ _).block ≠ _; rw [add_block]; exact Kd.qt0 (IsS186.own_ne HI0.out HO_3.out (by decide))) | exact Kd.qt0 (IsS186.own_ne HI0.out HO_3.out (by decide)) | (have b_ := Kd.qt0 (IsS186.own_ne HI0.out HO_3.out (by decide)); exact b_))
                  refine ⟨_, rfl, ?_⟩
                  have n0_ := Aside0.mk (Kd.qz0 (Kd.ql1 (IsS186.apart (show IsS186 w0 _ g s0_0 t173 t174 from by repeat (first | (with_reducible first | exact HI0.out | apply IsS186.alloc | apply IsS186.drewN | apply IsS186.drew | apply IsS186.set_1 | apply IsS186.set_2) | exact HI0.out)) (by (with_reducible repeat (first | apply Kd.qk0 | apply Kd.qj0 | apply Kd.qm0)); exact HO_3.out) (by decide)) hk (fun _ h => h.2)) (fun _ h => h.1))
                  have n1_ := Aside0.mk (Kd.qz0 (Kd.ql1 (IsS186.apart (show IsS186 w0 _ g s0_0 t173 t174 from by repeat (first | (with_reducible first | exact HI0.out | apply IsS186.alloc | apply IsS186.drewN | apply IsS186.drew | apply IsS186.set_1 | apply IsS186.set_2) | exact HI0.out)) (by (with_reducible repeat (first | apply Kd.qk0 | apply Kd.qj0 | apply Kd.qm0)); exact HO_4.out) (by decide)) hk (fun _ h => h.2)) (fun _ h => h.1))
                  have n2_ := Aside0.mk (qn0.trans (by repeat (first | (with_reducible first | exact HK.out | apply qn0.set_ | apply qq0 | apply qs0 | apply qr0) | exact HK.out)) hk (.inl rfl))
                  have n3_ := Aside0.mk (hb)
                  have n4_ := Aside0.mk (hi)
                  clear HO_3
                  clear HO_4
                  clear HK
                  clear HB
                  clear HI0
                  have HO_3 := n0_
                  have HO_4 := n1_
                  have HK := n2_
                  have HB := n3_
                  have HI0 := n4_
                  clear n0_ n1_ n2_ n3_ n4_
                  (try clear hb)
                  (try clear hb2)
                  (try clear hk)
                  (try clear hi)
                  refine hK.out _ _ ⟨HS0_, HS1_⟩ (fun hHeld => ?_)
                  clear hK K
                  refine norm_ (a' := ?_) ?_ ?_
                  rotate_left
                  ·show Act.put _ (some 28) _ = _
                   simp only [Act.put, List.setIfInBounds_toArray, List.set_cons_zero, List.set_cons_succ, i64_w, i32_w]
                   rfl
                  refine pure_ (i := 9) (N := some 29) (v := ?_) (a' := ?_) (rb4 [12, 3, 1, 2, 1, 5]) rfl rfl (qu1 HT_.out (by kernel_rfl)) (fun _ _ _ h => h) (Or.inl ⟨by rfl, ?_⟩) ?_ ?_
                  rotate_left
                  ·intro w'
                   go_simp
                   with_reducible rfl
                  rotate_left
                  ·simp only [Act.put, List.setIfInBounds_toArray, List.set_cons_zero, List.set_cons_succ, i64_w, i32_w]
                   rfl
                  refine pure_ (i := 12) (N := some 32) (v := ?_) (a' := ?_) (rb4 [13, 2, 1, 2, 1, 5]) rfl rfl (qu1 HT_.out (by kernel_rfl)) (fun _ _ _ h => h) (Or.inl ⟨by rfl, ?_⟩) ?_ ?_
                  rotate_left
                  ·intro w'
                   go_simp
                   with_reducible rfl
                  rotate_left
                  ·simp only [Act.put, List.setIfInBounds_toArray, List.set_cons_zero, List.set_cons_succ, i64_w, i32_w]
                   rfl
                  refine pure_ (i := 13) (N := some 33) (v := ?_) (a' := ?_) (rb4 [14, 1, 1, 2, 1, 5]) rfl rfl (qu1 HT_.out (by kernel_rfl)) (fun _ _ _ h => h) (Or.inl ⟨by rfl, ?_⟩) ?_ ?_
                  rotate_left
                  ·intro w'
                   go_simp
                   with_reducible rfl
                  rotate_left
                  ·simp only [Act.put, List.setIfInBounds_toArray, List.set_cons_zero, List.set_cons_succ, i64_w, i32_w]
                   rfl
                  refine take_ (i := 14) (N := some 34) (v := ?_) (a' := ?_) (rb4 [16, 2, 1, 5]) rfl rfl (take_ofW HT_.out HW_.out (by kernel_rfl)) (fun _ _ _ h => h) (Or.inl ⟨by rfl, ?_⟩) hHeld ?_ ?_
                  rotate_left
                  ·rintro w' ⟨s0, s1⟩
                   go_simp
                   with_reducible rfl
                  rotate_left
                  ·simp only [Act.put, List.setIfInBounds_toArray, List.set_cons_zero, List.set_cons_succ, i64_w, i32_w]
                   rfl
                  exact norm_ (by first | (simp only [qk1, Act.put, List.setIfInBounds_toArray, List.set_cons_zero, List.set_cons_succ]; done) | (simp only [qk1, Act.put, List.setIfInBounds_toArray, List.set_cons_zero, List.set_cons_succ]; rfl)) (hJ8 () _ ⟨hHeld, (by (with_reducible repeat (first | apply Kd.qk0 | apply Kd.qj0 | apply Kd.qm0)); exact HO_3.out), (by (with_reducible repeat (first | apply Kd.qk0 | apply Kd.qj0 | apply Kd.qm0)); exact HO_4.out), (by repeat (first | (with_reducible first | exact HI0.out | apply IsS186.alloc | apply IsS186.drewN | apply IsS186.drew | apply IsS186.set_1 | apply IsS186.set_2) | exact HI0.out)), (by repeat (first | (with_reducible first | exact HK.out | apply qn0.set_ | apply qq0 | apply qs0 | apply qr0) | exact HK.out)), (by repeat (first | (with_reducible first | exact HB.out | apply qc0 | apply qa0 | apply qd0 | refine qi0 ?_ (IsS186.ge HI0.out)) | exact HB.out))⟩)
                 ·skip
                  refine Kd.R_lit_step (Kd.int .i64) _ 3 ?hg (N := 39) ?hd (xs := ([1, 1, 2, 1000] : List Int)) (inner := [.int .i64 1, .int .i64 1, .int .i64 2, .int .i64 1000]) (ok := fun _ => True) (okp := fun _ => True) ?hr ?hp (fun _ hk => hk) trivial (Below.refl _ _) (Nat.le_refl _) (by simp) ?_; (case hd => rfl); (case hg => rfl); (case hr => first | (go_simp; done) | (go_simp; rfl)); (case hp => exact (Reps.one (show Kd.M (Kd.int .i64) _ _ _ 1 [.int .i64 1] from rfl) (Reps.one (show Kd.M (Kd.int .i64) _ _ _ 1 [.int .i64 1] from rfl) (Reps.one (show Kd.M (Kd.int .i64) _ _ _ 2 [.int .i64 2] from rfl) (Reps.one (show Kd.M (Kd.int .i64) _ _ _ 1000 [.int .i64 1000] from rfl) (Reps.none _ _))))))
                  intro v184 w24 ho25 hb hg_ hnew_
                  have HS0_ := (hb.cell (World.block_lt_of_cell? _ _ (hHeld.1))).trans (hHeld.1)
                  have HS1_ := (hb.cell (World.block_lt_of_cell? _ _ (hHeld.2))).trans (hHeld.2)
                  clear hg_ hnew_
                  (first | rw [← Ny183.out] at ho25 | (simp only [Int.reduceToNat] at ho25; rw [← Ny183.out] at ho25))
                  have n0_ := Aside0.mk (Kd.qy0 (by (with_reducible repeat (first | apply Kd.qk0 | apply Kd.qj0 | apply Kd.qm0)); exact HO_3.out) hb)
                  have n1_ := Aside0.mk (Kd.qy0 (by (with_reducible repeat (first | apply Kd.qk0 | apply Kd.qj0 | apply Kd.qm0)); exact HO_4.out) hb)
                  have n2_ := Aside0.mk (Kd.qp1 ho25 (qq1 (w := w) (g := g) (row := none) (by repeat (first | (with_reducible first | exact HK.out | apply qn0.set_ | apply qq0 | apply qs0 | apply qr0) | exact HK.out))))
                  have n3_ := Aside0.mk (IsS186.below (by repeat (first | (with_reducible first | exact HI0.out | apply IsS186.alloc | apply IsS186.drewN | apply IsS186.drew | apply IsS186.set_1 | apply IsS186.set_2) | exact HI0.out)) hb)
                  have n4_ := Aside0.mk (qn0.trans (by repeat (first | (with_reducible first | exact HK.out | apply qn0.set_ | apply qq0 | apply qs0 | apply qr0) | exact HK.out)) (qn0.of_below hb g none) (.inl rfl))
                  have n5_ := Aside0.mk (qo0 (by repeat (first | (with_reducible first | exact HB.out | apply qc0 | apply qa0 | apply qd0 | refine qi0 ?_ (IsS186.ge HI0.out)) | exact HB.out)) hb)
                  clear HO_3
                  clear HO_4
                  clear HI0
                  clear HK
                  clear HB
                  have HO_3 := n0_
                  have HO_4 := n1_
                  have HO185 := n2_
                  have HI0 := n3_
                  have HK := n4_
                  have HB := n5_
                  clear n0_ n1_ n2_ n3_ n4_ n5_
                  clear hb ho25
                  refine hK.out _ _ ⟨HS0_, HS1_⟩ (fun hHeld => ?_)
                  clear hK K
                  refine norm_ (a' := ?_) ?_ ?_
                  rotate_left
                  ·show Act.put _ (some 39) _ = _
                   simp only [Act.put, List.setIfInBounds_toArray, List.set_cons_zero, List.set_cons_succ, i64_w, i32_w]
                   rfl
                  exact norm_ (by first | (simp only [qk1, Act.put, List.setIfInBounds_toArray, List.set_cons_zero, List.set_cons_succ]; done) | (simp only [qk1, Act.put, List.setIfInBounds_toArray, List.set_cons_zero, List.set_cons_succ]; rfl)) (hJ19 (v184) _ ⟨hHeld, (by (with_reducible repeat (first | apply Kd.qk0 | apply Kd.qj0 | apply Kd.qm0)); exact HO185.out), (by (with_reducible repeat (first | apply Kd.qk0 | apply Kd.qj0 | apply Kd.qm0)); exact HO_3.out), (by (with_reducible repeat (first | apply Kd.qk0 | apply Kd.qj0 | apply Kd.qm0)); exact HO_4.out), (by repeat (first | (with_reducible first | exact HI0.out | apply IsS186.alloc | apply IsS186.drewN | apply IsS186.drew | apply IsS186.set_1 | apply IsS186.set_2) | exact HI0.out)), (by repeat (first | (with_reducible first | exact HK.out | apply qn0.set_ | apply qq0 | apply qs0 | apply qr0) | exact HK.out)), (by repeat (first | (with_reducible first | exact HB.out | apply qc0 | apply qa0 | apply qd0 | refine qi0 ?_ (IsS186.ge HI0.out)) | exact HB.out))⟩)
                 ·skip
                  refine box_step ?hg (N := 7) ?hd (cs := #[.string (⟨#[]⟩ : ByteArray), .string (⟨#[]⟩ : ByteArray), .int .i64 0, .int .i64 0]) (t := 35) ?hr ?_; (case hd => rfl); (case hg => rfl); (case hr => first | (go_simp; done) | (go_simp; rfl))
                  intro gb189 hg w24 hbox hb
                  have HS0_ := (hb.cell (World.block_lt_of_cell? _ _ (hHeld.1))).trans (hHeld.1)
                  have HS1_ := (hb.cell (World.block_lt_of_cell? _ _ (hHeld.2))).trans (hHeld.2)
                  have n0_ := Aside0.mk (Kd.qy0 (by (with_reducible repeat (first | apply Kd.qk0 | apply Kd.qj0 | apply Kd.qm0)); exact HO_3.out) hb)
                  have n1_ := Aside0.mk (Kd.qy0 (Kd.R_elderB (by (with_reducible repeat (first | apply Kd.qk0 | apply Kd.qj0 | apply Kd.qm0)); exact HO_4.out) gb189 (Nat.le_of_eq hg.symm)) hb)
                  have n2_ := Aside0.mk (IsS186.below (by repeat (first | (with_reducible first | exact HI0.out | apply IsS186.alloc | apply IsS186.drewN | apply IsS186.drew | apply IsS186.set_1 | apply IsS186.set_2) | exact HI0.out)) hb)
                  have n3_ := Aside0.mk (qn0.trans (by repeat (first | (with_reducible first | exact HK.out | apply qn0.set_ | apply qq0 | apply qs0 | apply qr0) | exact HK.out)) (qn0.of_below hb g none) (.inl rfl))
                  have n4_ := Aside0.mk (qo0 (by repeat (first | (with_reducible first | exact HB.out | apply qc0 | apply qa0 | apply qd0 | refine qi0 ?_ (IsS186.ge HI0.out)) | exact HB.out)) hb)
                  have n5_ := Aside0.mk (hbox)
                  have n6_ := Aside0.mk ((by rw [hg]; exact (qq1 (w := w) (g := g) (row := none) (by repeat (first | (with_reducible first | exact HK.out | apply qn0.set_ | apply qq0 | apply qs0 | apply qr0) | exact HK.out))) : w.heap.size ≤ gb189))
                  have n7_ := Aside0.mk ((Nat.le_trans HW0.out (by rw [hg]; exact (qq1 (w := w) (g := g) (row := none) (by repeat (first | (with_reducible first | exact HK.out | apply qn0.set_ | apply qq0 | apply qs0 | apply qr0) | exact HK.out))) : w.heap.size ≤ gb189) : w0.heap.size ≤ gb189))
                  have n8_ := Aside0.mk ((by rw [hg]; exact Nat.ne_of_lt (IsS186.lt (show IsS186 w0 _ g s0_0 t173 t174 from by repeat (first | (with_reducible first | exact HI0.out | apply IsS186.alloc | apply IsS186.drewN | apply IsS186.drew | apply IsS186.set_1 | apply IsS186.set_2) | exact HI0.out))) : g ≠ gb189))
                  have n9_ := Aside0.mk ((by rw [hg]; exact Nat.ne_of_gt (IsS186.lt (show IsS186 w0 _ g s0_0 t173 t174 from by repeat (first | (with_reducible first | exact HI0.out | apply IsS186.alloc | apply IsS186.drewN | apply IsS186.drew | apply IsS186.set_1 | apply IsS186.set_2) | exact HI0.out))) : gb189 ≠ g))
                  clear HO_3
                  clear HO_4
                  clear HI0
                  clear HK
                  clear HB
                  have HO_3 := n0_
                  have HO_4 := n1_
                  have HI0 := n2_
                  have HK := n3_
                  have HB := n4_
                  have BK189 := n5_
                  have GW189 := n6_
                  have GE189 := n7_
                  have NB0_189 := n8_
                  have NB189_0 := n9_
                  clear n0_ n1_ n2_ n3_ n4_ n5_ n6_ n7_ n8_ n9_
                  clear hb hbox hg
                  refine hK.out _ _ ⟨HS0_, HS1_⟩ (fun hHeld => ?_)
                  clear hK K
                  refine norm_ (a' := ?_) ?_ ?_
                  rotate_left
                  ·show Act.put _ (some 7) _ = _
                   simp only [Act.put, List.setIfInBounds_toArray, List.set_cons_zero, List.set_cons_succ, i64_w, i32_w]
                   rfl
                  exact norm_ (by first | (simp only [qk1, Act.put, List.setIfInBounds_toArray, List.set_cons_zero, List.set_cons_succ]; done) | (simp only [qk1, Act.put, List.setIfInBounds_toArray, List.set_cons_zero, List.set_cons_succ]; rfl)) (hJ22 (gb189) _ ⟨hHeld, (by (with_reducible repeat (first | apply Kd.qk0 | apply Kd.qj0 | apply Kd.qm0)); exact HO_3.out), (by (with_reducible repeat (first | apply Kd.qk0 | apply Kd.qj0 | apply Kd.qm0)); exact Kd.qz0 HO_4.out (fun _ hk => hk.2)), (by (with_reducible repeat (first | refine qe0 ?_ _ | refine qg0 ?_ | refine qf0 ?_ _)); exact BK189.out), GW189.out, GE189.out, NB0_189.out, NB189_0.out, (by repeat (first | (with_reducible first | exact HI0.out | apply IsS186.alloc | apply IsS186.drewN | apply IsS186.drew | apply IsS186.set_1 | apply IsS186.set_2 | refine IsS186.far ?_ NB0_189.out _) | exact HI0.out)), (by repeat (first | (with_reducible first | exact HK.out | apply qn0.set_ | apply qq0 | apply qs0 | apply qr0 | refine qg1 ?_ GW189.out _) | exact HK.out)), (by repeat (first | (with_reducible first | exact HB.out | apply qc0 | apply qa0 | apply qd0 | refine qi0 ?_ (IsS186.ge HI0.out) | refine qi0 ?_ GE189.out) | exact HB.out))⟩)
                ·skip
                 rintro gb189 w25 ⟨hS_, h0_, h1_, h2_, h3_, h4_, h5_, h6_, h7_, h8_, h9_⟩
                 have n0_ : Aside0 (Kd.R Kd.string 9 w25 w.heap.size (fun _ => True) (.slice (some ad175) y163.length co21) y163) := ⟨h0_⟩
                 have n1_ : Aside0 (Kd.R k35 35 w25 w.heap.size (fun k_ => k_ ≠ gb189) u4 x4_1) := ⟨h1_⟩
                 have n2_ : Aside0 (w25.heap[gb189]? = some (.cells #[.string (⟨#[]⟩ : ByteArray), .string (⟨#[]⟩ : ByteArray), .int .i64 0, .int .i64 0] 35 (0, 0))) := ⟨h2_⟩
                 have n3_ : Aside0 (w.heap.size ≤ gb189) := ⟨h3_⟩
                 have n4_ : Aside0 (w0.heap.size ≤ gb189) := ⟨h4_⟩
                 have n5_ : Aside0 (g ≠ gb189) := ⟨h5_⟩
                 have n6_ : Aside0 (gb189 ≠ g) := ⟨h6_⟩
                 have n7_ : Aside0 (IsS186 w0 w25 g s0_0 t173 t174) := ⟨h7_⟩
                 have n8_ : Aside0 (qn0 w w25 g none) := ⟨h8_⟩
                 have n9_ : Aside0 (Below w0.heap.size w0 w25) := ⟨h9_⟩
                 clear HO_3
                 clear HO_4
                 clear HI0
                 clear HK
                 clear HB
                 clear h0_ h1_ h2_ h3_ h4_ h5_ h6_ h7_ h8_ h9_
                 have HO_3 := n0_
                 have HO_4 := n1_
                 have BK189 := n2_
                 have GW189 := n3_
                 have GE189 := n4_
                 have NB0_189 := n5_
                 have NB189_0 := n6_
                 have HI0 := n7_
                 have HK := n8_
                 have HB := n9_
                 clear n0_ n1_ n2_ n3_ n4_ n5_ n6_ n7_ n8_ n9_
                 have hHeld : w25.cell? (ad175.add (t172).toNat) = some (.string (rdOf ByteArray.empty y163 t172)) ∧ w25.cell? (ad175.add ((ji14)).toNat) = some (.string (rdOf ByteArray.empty y163 (ji14))) := hS_
                 refine norm_ (a' := ?_) ?_ ?_
                 rotate_left
                 ·simp only [qk1, Act.put, List.setIfInBounds_toArray, List.set_cons_zero, List.set_cons_succ]
                  rfl
                 refine two_ (i := 8) (j := 19) (Ni := some 28) (Nj := some 39) (rb4 [9, 1, 2, 3, 1, 2, 1, 3, 1, 1]) (rb4 [8, 2, 2, 3, 1, 2, 2, 2, 1, 1]) rfl rfl rfl rfl (two_of HT_.out (by kernel_rfl)) (by decide) (by decide) (fun K hK => ?_) (fun K hK => ?_)
                 ·skip
                  refine goes_ Try.func61 (by kernel_rfl) rfl #[.pointer (some ⟨g, 0, none⟩), .int .i64 3] (by rfl) rfl rfl (by (try simp only [List.map_toArray, List.map_cons, List.map_nil]); first | done | rfl | (simp only [List.length_drop, List.length_take]; rfl)) ?_
                  with_reducible refine (spec_l1Below.calls g s0_0 t173 t174 3 t176 t177 t178 w0 _ ?side1 ?side2 A12.out).mono ?_
                  (case side1 => repeat (first | (with_reducible first | exact HI0.out | apply IsS186.alloc | apply IsS186.drewN | apply IsS186.drew | apply IsS186.set_1 | apply IsS186.set_2 | refine IsS186.far ?_ NB0_189.out _) | exact HI0.out))
                  (case side2 => repeat (first | (with_reducible first | exact HB.out | apply qc0 | apply qa0 | apply qd0 | refine qi0 ?_ (IsS186.ge HI0.out) | refine qi0 ?_ GE189.out) | exact HB.out))
                  rintro e w26 ⟨rfl, hi, hb, hk⟩
                  have HS0_ := qh1 hk (hHeld.1) (by first | (rw [add_block]; exact Kd.qt0 (IsS186.own_ne HI0.out HO_3.out (by decide))) | (show (Addr.add _ _).block ≠ _; rw [add_block]; exact Kd.qt0 (IsS186.own_ne HI0.out HO_3.out (by decide))) | exact Kd.qt0 (IsS186.own_ne HI0.out HO_3.out (by decide)) | (have b_ := Kd.qt0 (IsS186.own_ne HI0.out HO_3.out (by decide)); exact b_))
                  have HS1_ := qh1 hk (hHeld.2) (by first | (rw [add_block]; exact Kd.qt0 (IsS186.own_ne HI0.out HO_3.out (by decide))) | (show (Addr.add _ _).block ≠ _; rw [add_block]; exact Kd.qt0 (IsS186.own_ne HI0.out HO_3.out (by decide))) | exact Kd.qt0 (IsS186.own_ne HI0.out HO_3.out (by decide)) | (have b_ := Kd.qt0 (IsS186.own_ne HI0.out HO_3.out (by decide)); exact b_))
                  refine ⟨_, rfl, ?_⟩
                  have n0_ := Aside0.mk (Kd.qz0 (Kd.ql1 (IsS186.apart (show IsS186 w0 _ g s0_0 t173 t174 from by repeat (first | (with_reducible first | exact HI0.out | apply IsS186.alloc | apply IsS186.drewN | apply IsS186.drew | apply IsS186.set_1 | apply IsS186.set_2 | refine IsS186.far ?_ NB0_189.out _) | exact HI0.out)) (by (with_reducible repeat (first | apply Kd.qk0 | apply Kd.qj0 | apply Kd.qm0)); exact HO_3.out) (by decide)) hk (fun _ h => h.2)) (fun _ h => h.1))
                  have n1_ := Aside0.mk (Kd.qz0 (Kd.ql1 (IsS186.apart (show IsS186 w0 _ g s0_0 t173 t174 from by repeat (first | (with_reducible first | exact HI0.out | apply IsS186.alloc | apply IsS186.drewN | apply IsS186.drew | apply IsS186.set_1 | apply IsS186.set_2 | refine IsS186.far ?_ NB0_189.out _) | exact HI0.out)) (by (with_reducible repeat (first | apply Kd.qk0 | apply Kd.qj0 | apply Kd.qm0)); exact HO_4.out) (by decide)) hk (fun _ h => h.2)) (fun _ h => h.1))
                  have n2_ := Aside0.mk (qn0.blk hk (g' := gb189) (o := .cells #[.string (⟨#[]⟩ : ByteArray), .string (⟨#[]⟩ : ByteArray), .int .i64 0, .int .i64 0] 35 (0, 0)) (by (with_reducible repeat (first | refine qe0 ?_ _ | refine qg0 ?_ | refine qf0 ?_ _)); exact BK189.out) NB189_0.out (by simp))
                  have n3_ := Aside0.mk (qn0.trans (by repeat (first | (with_reducible first | exact HK.out | apply qn0.set_ | apply qq0 | apply qs0 | apply qr0 | refine qg1 ?_ GW189.out _) | exact HK.out)) hk (.inl rfl))
                  have n4_ := Aside0.mk (hb)
                  have n5_ := Aside0.mk (hi)
                  clear HO_3
                  clear HO_4
                  clear BK189
                  clear HK
                  clear HB
                  clear HI0
                  have HO_3 := n0_
                  have HO_4 := n1_
                  have BK189 := n2_
                  have HK := n3_
                  have HB := n4_
                  have HI0 := n5_
                  clear n0_ n1_ n2_ n3_ n4_ n5_
                  (try clear hb)
                  (try clear hb2)
                  (try clear hk)
                  (try clear hi)
                  refine hK.out _ _ ⟨HS0_, HS1_⟩ (fun hHeld => ?_)
                  clear hK K
                  refine norm_ (a' := ?_) ?_ ?_
                  rotate_left
                  ·show Act.put _ (some 28) _ = _
                   simp only [Act.put, List.setIfInBounds_toArray, List.set_cons_zero, List.set_cons_succ, i64_w, i32_w]
                   rfl
                  refine pure_ (i := 9) (N := some 29) (v := ?_) (a' := ?_) (rb4 [12, 3, 1, 2, 1, 3, 1, 1]) rfl rfl (qu1 HT_.out (by kernel_rfl)) (fun _ _ _ h => h) (Or.inl ⟨by rfl, ?_⟩) ?_ ?_
                  rotate_left
                  ·intro w'
                   go_simp
                   with_reducible rfl
                  rotate_left
                  ·simp only [Act.put, List.setIfInBounds_toArray, List.set_cons_zero, List.set_cons_succ, i64_w, i32_w]
                   rfl
                  refine pure_ (i := 12) (N := some 32) (v := ?_) (a' := ?_) (rb4 [13, 2, 1, 2, 1, 3, 1, 1]) rfl rfl (qu1 HT_.out (by kernel_rfl)) (fun _ _ _ h => h) (Or.inl ⟨by rfl, ?_⟩) ?_ ?_
                  rotate_left
                  ·intro w'
                   go_simp
                   with_reducible rfl
                  rotate_left
                  ·simp only [Act.put, List.setIfInBounds_toArray, List.set_cons_zero, List.set_cons_succ, i64_w, i32_w]
                   rfl
                  refine pure_ (i := 13) (N := some 33) (v := ?_) (a' := ?_) (rb4 [14, 1, 1, 2, 1, 3, 1, 1]) rfl rfl (qu1 HT_.out (by kernel_rfl)) (fun _ _ _ h => h) (Or.inl ⟨by rfl, ?_⟩) ?_ ?_
                  rotate_left
                  ·intro w'
                   go_simp
                   with_reducible rfl
                  rotate_left
                  ·simp only [Act.put, List.setIfInBounds_toArray, List.set_cons_zero, List.set_cons_succ, i64_w, i32_w]
                   rfl
                  refine take_ (i := 14) (N := some 34) (v := ?_) (a' := ?_) (rb4 [16, 2, 1, 3, 1, 1]) rfl rfl (take_ofW HT_.out HW_.out (by kernel_rfl)) (fun _ _ _ h => h) (Or.inl ⟨by rfl, ?_⟩) hHeld ?_ ?_
                  rotate_left
                  ·rintro w' ⟨s0, s1⟩
                   go_simp
                   with_reducible rfl
                  rotate_left
                  ·simp only [Act.put, List.setIfInBounds_toArray, List.set_cons_zero, List.set_cons_succ, i64_w, i32_w]
                   rfl
                  exact norm_ (by first | (simp only [qk1, Act.put, List.setIfInBounds_toArray, List.set_cons_zero, List.set_cons_succ]; done) | (simp only [qk1, Act.put, List.setIfInBounds_toArray, List.set_cons_zero, List.set_cons_succ]; rfl)) (hJ8_22 (gb189) _ ⟨hHeld, (by (with_reducible repeat (first | apply Kd.qk0 | apply Kd.qj0 | apply Kd.qm0)); exact HO_3.out), (by (with_reducible repeat (first | apply Kd.qk0 | apply Kd.qj0 | apply Kd.qm0)); exact HO_4.out), (by (with_reducible repeat (first | refine qe0 ?_ _ | refine qg0 ?_ | refine qf0 ?_ _)); exact BK189.out), GW189.out, GE189.out, NB0_189.out, NB189_0.out, (by repeat (first | (with_reducible first | exact HI0.out | apply IsS186.alloc | apply IsS186.drewN | apply IsS186.drew | apply IsS186.set_1 | apply IsS186.set_2 | refine IsS186.far ?_ NB0_189.out _) | exact HI0.out)), (by repeat (first | (with_reducible first | exact HK.out | apply qn0.set_ | apply qq0 | apply qs0 | apply qr0 | refine qg1 ?_ GW189.out _) | exact HK.out)), (by repeat (first | (with_reducible first | exact HB.out | apply qc0 | apply qa0 | apply qd0 | refine qi0 ?_ (IsS186.ge HI0.out) | refine qi0 ?_ GE189.out) | exact HB.out))⟩)
                 ·skip
                  refine Kd.R_lit_step (Kd.int .i64) _ 3 ?hg (N := 39) ?hd (xs := ([1, 1, 2, 1000] : List Int)) (inner := [.int .i64 1, .int .i64 1, .int .i64 2, .int .i64 1000]) (ok := fun _ => True) (okp := fun _ => True) ?hr ?hp (fun _ hk => hk) trivial (Below.refl _ _) (Nat.le_refl _) (by simp) ?_; (case hd => rfl); (case hg => rfl); (case hr => first | (go_simp; done) | (go_simp; rfl)); (case hp => exact (Reps.one (show Kd.M (Kd.int .i64) _ _ _ 1 [.int .i64 1] from rfl) (Reps.one (show Kd.M (Kd.int .i64) _ _ _ 1 [.int .i64 1] from rfl) (Reps.one (show Kd.M (Kd.int .i64) _ _ _ 2 [.int .i64 2] from rfl) (Reps.one (show Kd.M (Kd.int .i64) _ _ _ 1000 [.int .i64 1000] from rfl) (Reps.none _ _))))))
                  intro v184 w26 ho27 hb hg_ hnew_
                  have HS0_ := (hb.cell (World.block_lt_of_cell? _ _ (hHeld.1))).trans (hHeld.1)
                  have HS1_ := (hb.cell (World.block_lt_of_cell? _ _ (hHeld.2))).trans (hHeld.2)
                  clear hg_ hnew_
                  (first | rw [← Ny183.out] at ho27 | (simp only [Int.reduceToNat] at ho27; rw [← Ny183.out] at ho27))
                  have n0_ := Aside0.mk (Kd.qy0 (by (with_reducible repeat (first | apply Kd.qk0 | apply Kd.qj0 | apply Kd.qm0)); exact HO_3.out) hb)
                  have n1_ := Aside0.mk (Kd.qy0 (by (with_reducible repeat (first | apply Kd.qk0 | apply Kd.qj0 | apply Kd.qm0)); exact HO_4.out) hb)
                  have n2_ := Aside0.mk (Kd.qp1 ho27 (qq1 (w := w) (g := g) (row := none) (by repeat (first | (with_reducible first | exact HK.out | apply qn0.set_ | apply qq0 | apply qs0 | apply qr0 | refine qg1 ?_ GW189.out _) | exact HK.out))))
                  have n3_ := Aside0.mk (IsS186.below (by repeat (first | (with_reducible first | exact HI0.out | apply IsS186.alloc | apply IsS186.drewN | apply IsS186.drew | apply IsS186.set_1 | apply IsS186.set_2 | refine IsS186.far ?_ NB0_189.out _) | exact HI0.out)) hb)
                  have n4_ := Aside0.mk (qa1 (g := gb189) (o := .cells #[.string (⟨#[]⟩ : ByteArray), .string (⟨#[]⟩ : ByteArray), .int .i64 0, .int .i64 0] 35 (0, 0)) (by (with_reducible repeat (first | refine qe0 ?_ _ | refine qg0 ?_ | refine qf0 ?_ _)); exact BK189.out) hb)
                  have n5_ := Aside0.mk (qn0.trans (by repeat (first | (with_reducible first | exact HK.out | apply qn0.set_ | apply qq0 | apply qs0 | apply qr0 | refine qg1 ?_ GW189.out _) | exact HK.out)) (qn0.of_below hb g none) (.inl rfl))
                  have n6_ := Aside0.mk (qo0 (by repeat (first | (with_reducible first | exact HB.out | apply qc0 | apply qa0 | apply qd0 | refine qi0 ?_ (IsS186.ge HI0.out) | refine qi0 ?_ GE189.out) | exact HB.out)) hb)
                  clear HO_3
                  clear HO_4
                  clear HI0
                  clear BK189
                  clear HK
                  clear HB
                  have HO_3 := n0_
                  have HO_4 := n1_
                  have HO185 := n2_
                  have HI0 := n3_
                  have BK189 := n4_
                  have HK := n5_
                  have HB := n6_
                  clear n0_ n1_ n2_ n3_ n4_ n5_ n6_
                  clear hb ho27
                  refine hK.out _ _ ⟨HS0_, HS1_⟩ (fun hHeld => ?_)
                  clear hK K
                  refine norm_ (a' := ?_) ?_ ?_
                  rotate_left
                  ·show Act.put _ (some 39) _ = _
                   simp only [Act.put, List.setIfInBounds_toArray, List.set_cons_zero, List.set_cons_succ, i64_w, i32_w]
                   rfl
                  exact norm_ (by first | (simp only [qk1, Act.put, List.setIfInBounds_toArray, List.set_cons_zero, List.set_cons_succ]; done) | (simp only [qk1, Act.put, List.setIfInBounds_toArray, List.set_cons_zero, List.set_cons_succ]; rfl)) (hJ19_22 (v184, gb189) _ ⟨hHeld, (by (with_reducible repeat (first | apply Kd.qk0 | apply Kd.qj0 | apply Kd.qm0)); exact HO185.out), (by (with_reducible repeat (first | apply Kd.qk0 | apply Kd.qj0 | apply Kd.qm0)); exact HO_3.out), (by (with_reducible repeat (first | apply Kd.qk0 | apply Kd.qj0 | apply Kd.qm0)); exact HO_4.out), (by (with_reducible repeat (first | refine qe0 ?_ _ | refine qg0 ?_ | refine qf0 ?_ _)); exact BK189.out), GW189.out, GE189.out, NB0_189.out, NB189_0.out, (by repeat (first | (with_reducible first | exact HI0.out | apply IsS186.alloc | apply IsS186.drewN | apply IsS186.drew | apply IsS186.set_1 | apply IsS186.set_2 | refine IsS186.far ?_ NB0_189.out _) | exact HI0.out)), (by repeat (first | (with_reducible first | exact HK.out | apply qn0.set_ | apply qq0 | apply qs0 | apply qr0 | refine qg1 ?_ GW189.out _) | exact HK.out)), (by repeat (first | (with_reducible first | exact HB.out | apply qc0 | apply qa0 | apply qd0 | refine qi0 ?_ (IsS186.ge HI0.out) | refine qi0 ?_ GE189.out) | exact HB.out))⟩)
               ·skip
                rintro v184 w26 ⟨hS_, h0_, h1_, h2_, h3_, h4_, h5_⟩
                have n0_ : Aside0 (Kd.R (Kd.int .i64) 3 w26 w.heap.size (fun _ => True) v184 y183) := ⟨h0_⟩
                have n1_ : Aside0 (Kd.R Kd.string 9 w26 w.heap.size (fun _ => True) (.slice (some ad175) y163.length co21) y163) := ⟨h1_⟩
                have n2_ : Aside0 (Kd.R k35 35 w26 w.heap.size (fun _ => True) u4 x4_1) := ⟨h2_⟩
                have n3_ : Aside0 (IsS186 w0 w26 g s0_0 t173 t174) := ⟨h3_⟩
                have n4_ : Aside0 (qn0 w w26 g none) := ⟨h4_⟩
                have n5_ : Aside0 (Below w0.heap.size w0 w26) := ⟨h5_⟩
                clear HO_3
                clear HO_4
                clear HI0
                clear HK
                clear HB
                clear h0_ h1_ h2_ h3_ h4_ h5_
                have HO185 := n0_
                have HO_3 := n1_
                have HO_4 := n2_
                have HI0 := n3_
                have HK := n4_
                have HB := n5_
                clear n0_ n1_ n2_ n3_ n4_ n5_
                have hHeld : w26.cell? (ad175.add (t172).toNat) = some (.string (rdOf ByteArray.empty y163 t172)) ∧ w26.cell? (ad175.add ((ji14)).toNat) = some (.string (rdOf ByteArray.empty y163 (ji14))) := hS_
                refine norm_ (a' := ?_) ?_ ?_
                rotate_left
                ·simp only [qk1, Act.put, List.setIfInBounds_toArray, List.set_cons_zero, List.set_cons_succ]
                 rfl
                refine two_ (i := 8) (j := 22) (Ni := some 28) (Nj := some 7) (rb4 [9, 1, 2, 3, 1, 2, 2, 4]) (rb4 [8, 2, 2, 3, 1, 2, 2, 2, 1, 1]) rfl rfl rfl rfl (two_of HT_.out (by kernel_rfl)) (by decide) (by decide) (fun K hK => ?_) (fun K hK => ?_)
                ·skip
                 refine goes_ Try.func61 (by kernel_rfl) rfl #[.pointer (some ⟨g, 0, none⟩), .int .i64 3] (by rfl) rfl rfl (by (try simp only [List.map_toArray, List.map_cons, List.map_nil]); first | done | rfl | (simp only [List.length_drop, List.length_take]; rfl)) ?_
                 with_reducible refine (spec_l1Below.calls g s0_0 t173 t174 3 t176 t177 t178 w0 _ ?side1 ?side2 A12.out).mono ?_
                 (case side1 => repeat (first | (with_reducible first | exact HI0.out | apply IsS186.alloc | apply IsS186.drewN | apply IsS186.drew | apply IsS186.set_1 | apply IsS186.set_2) | exact HI0.out))
                 (case side2 => repeat (first | (with_reducible first | exact HB.out | apply qc0 | apply qa0 | apply qd0 | refine qi0 ?_ (IsS186.ge HI0.out)) | exact HB.out))
                 rintro e w27 ⟨rfl, hi, hb, hk⟩
                 have HS0_ := qh1 hk (hHeld.1) (by first | (rw [add_block]; exact Kd.qt0 (IsS186.own_ne HI0.out HO_3.out (by decide))) | (show (Addr.add _ _).block ≠ _; rw [add_block]; exact Kd.qt0 (IsS186.own_ne HI0.out HO_3.out (by decide))) | exact Kd.qt0 (IsS186.own_ne HI0.out HO_3.out (by decide)) | (have b_ := Kd.qt0 (IsS186.own_ne HI0.out HO_3.out (by decide)); exact b_))
                 have HS1_ := qh1 hk (hHeld.2) (by first | (rw [add_block]; exact Kd.qt0 (IsS186.own_ne HI0.out HO_3.out (by decide))) | (show (Addr.add _ _).block ≠ _; rw [add_block]; exact Kd.qt0 (IsS186.own_ne HI0.out HO_3.out (by decide))) | exact Kd.qt0 (IsS186.own_ne HI0.out HO_3.out (by decide)) | (have b_ := Kd.qt0 (IsS186.own_ne HI0.out HO_3.out (by decide)); exact b_))
                 refine ⟨_, rfl, ?_⟩
                 have n0_ := Aside0.mk (Kd.qz0 (Kd.ql1 (IsS186.apart (show IsS186 w0 _ g s0_0 t173 t174 from by repeat (first | (with_reducible first | exact HI0.out | apply IsS186.alloc | apply IsS186.drewN | apply IsS186.drew | apply IsS186.set_1 | apply IsS186.set_2) | exact HI0.out)) (by (with_reducible repeat (first | apply Kd.qk0 | apply Kd.qj0 | apply Kd.qm0)); exact HO_3.out) (by decide)) hk (fun _ h => h.2)) (fun _ h => h.1))
                 have n1_ := Aside0.mk (Kd.qz0 (Kd.ql1 (IsS186.apart (show IsS186 w0 _ g s0_0 t173 t174 from by repeat (first | (with_reducible first | exact HI0.out | apply IsS186.alloc | apply IsS186.drewN | apply IsS186.drew | apply IsS186.set_1 | apply IsS186.set_2) | exact HI0.out)) (by (with_reducible repeat (first | apply Kd.qk0 | apply Kd.qj0 | apply Kd.qm0)); exact HO_4.out) (by decide)) hk (fun _ h => h.2)) (fun _ h => h.1))
                 have n2_ := Aside0.mk (Kd.qz0 (Kd.ql1 (IsS186.apart (show IsS186 w0 _ g s0_0 t173 t174 from by repeat (first | (with_reducible first | exact HI0.out | apply IsS186.alloc | apply IsS186.drewN | apply IsS186.drew | apply IsS186.set_1 | apply IsS186.set_2) | exact HI0.out)) (by (with_reducible repeat (first | apply Kd.qk0 | apply Kd.qj0 | apply Kd.qm0)); exact HO185.out) (by decide)) hk (fun _ h => h.2)) (fun _ h => h.1))
                 have n3_ := Aside0.mk (qn0.trans (by repeat (first | (with_reducible first | exact HK.out | apply qn0.set_ | apply qq0 | apply qs0 | apply qr0) | exact HK.out)) hk (.inl rfl))
                 have n4_ := Aside0.mk (hb)
                 have n5_ := Aside0.mk (hi)
                 clear HO_3
                 clear HO_4
                 clear HO185
                 clear HK
                 clear HB
                 clear HI0
                 have HO_3 := n0_
                 have HO_4 := n1_
                 have HO185 := n2_
                 have HK := n3_
                 have HB := n4_
                 have HI0 := n5_
                 clear n0_ n1_ n2_ n3_ n4_ n5_
                 (try clear hb)
                 (try clear hb2)
                 (try clear hk)
                 (try clear hi)
                 refine hK.out _ _ ⟨HS0_, HS1_⟩ (fun hHeld => ?_)
                 clear hK K
                 refine norm_ (a' := ?_) ?_ ?_
                 rotate_left
                 ·show Act.put _ (some 28) _ = _
                  simp only [Act.put, List.setIfInBounds_toArray, List.set_cons_zero, List.set_cons_succ, i64_w, i32_w]
                  rfl
                 refine pure_ (i := 9) (N := some 29) (v := ?_) (a' := ?_) (rb4 [12, 3, 1, 2, 2, 4]) rfl rfl (qu1 HT_.out (by kernel_rfl)) (fun _ _ _ h => h) (Or.inl ⟨by rfl, ?_⟩) ?_ ?_
                 rotate_left
                 ·intro w'
                  go_simp
                  with_reducible rfl
                 rotate_left
                 ·simp only [Act.put, List.setIfInBounds_toArray, List.set_cons_zero, List.set_cons_succ, i64_w, i32_w]
                  rfl
                 refine pure_ (i := 12) (N := some 32) (v := ?_) (a' := ?_) (rb4 [13, 2, 1, 2, 2, 4]) rfl rfl (qu1 HT_.out (by kernel_rfl)) (fun _ _ _ h => h) (Or.inl ⟨by rfl, ?_⟩) ?_ ?_
                 rotate_left
                 ·intro w'
                  go_simp
                  with_reducible rfl
                 rotate_left
                 ·simp only [Act.put, List.setIfInBounds_toArray, List.set_cons_zero, List.set_cons_succ, i64_w, i32_w]
                  rfl
                 refine pure_ (i := 13) (N := some 33) (v := ?_) (a' := ?_) (rb4 [14, 1, 1, 2, 2, 4]) rfl rfl (qu1 HT_.out (by kernel_rfl)) (fun _ _ _ h => h) (Or.inl ⟨by rfl, ?_⟩) ?_ ?_
                 rotate_left
                 ·intro w'
                  go_simp
                  with_reducible rfl
                 rotate_left
                 ·simp only [Act.put, List.setIfInBounds_toArray, List.set_cons_zero, List.set_cons_succ, i64_w, i32_w]
                  rfl
                 refine take_ (i := 14) (N := some 34) (v := ?_) (a' := ?_) (rb4 [16, 2, 2, 4]) rfl rfl (take_ofW HT_.out HW_.out (by kernel_rfl)) (fun _ _ _ h => h) (Or.inl ⟨by rfl, ?_⟩) hHeld ?_ ?_
                 rotate_left
                 ·rintro w' ⟨s0, s1⟩
                  go_simp
                  with_reducible rfl
                 rotate_left
                 ·simp only [Act.put, List.setIfInBounds_toArray, List.set_cons_zero, List.set_cons_succ, i64_w, i32_w]
                  rfl
                 exact norm_ (by first | (simp only [qk1, Act.put, List.setIfInBounds_toArray, List.set_cons_zero, List.set_cons_succ]; done) | (simp only [qk1, Act.put, List.setIfInBounds_toArray, List.set_cons_zero, List.set_cons_succ]; rfl)) (hJ8_19 (v184) _ ⟨hHeld, (by (with_reducible repeat (first | apply Kd.qk0 | apply Kd.qj0 | apply Kd.qm0)); exact HO185.out), (by (with_reducible repeat (first | apply Kd.qk0 | apply Kd.qj0 | apply Kd.qm0)); exact HO_3.out), (by (with_reducible repeat (first | apply Kd.qk0 | apply Kd.qj0 | apply Kd.qm0)); exact HO_4.out), (by repeat (first | (with_reducible first | exact HI0.out | apply IsS186.alloc | apply IsS186.drewN | apply IsS186.drew | apply IsS186.set_1 | apply IsS186.set_2) | exact HI0.out)), (by repeat (first | (with_reducible first | exact HK.out | apply qn0.set_ | apply qq0 | apply qs0 | apply qr0) | exact HK.out)), (by repeat (first | (with_reducible first | exact HB.out | apply qc0 | apply qa0 | apply qd0 | refine qi0 ?_ (IsS186.ge HI0.out)) | exact HB.out))⟩)
                ·skip
                 refine box_step ?hg (N := 7) ?hd (cs := #[.string (⟨#[]⟩ : ByteArray), .string (⟨#[]⟩ : ByteArray), .int .i64 0, .int .i64 0]) (t := 35) ?hr ?_; (case hd => rfl); (case hg => rfl); (case hr => first | (go_simp; done) | (go_simp; rfl))
                 intro gb189 hg w27 hbox hb
                 have HS0_ := (hb.cell (World.block_lt_of_cell? _ _ (hHeld.1))).trans (hHeld.1)
                 have HS1_ := (hb.cell (World.block_lt_of_cell? _ _ (hHeld.2))).trans (hHeld.2)
                 have n0_ := Aside0.mk (Kd.qy0 (by (with_reducible repeat (first | apply Kd.qk0 | apply Kd.qj0 | apply Kd.qm0)); exact HO_3.out) hb)
                 have n1_ := Aside0.mk (Kd.qy0 (Kd.R_elderB (by (with_reducible repeat (first | apply Kd.qk0 | apply Kd.qj0 | apply Kd.qm0)); exact HO_4.out) gb189 (Nat.le_of_eq hg.symm)) hb)
                 have n2_ := Aside0.mk (Kd.qy0 (by (with_reducible repeat (first | apply Kd.qk0 | apply Kd.qj0 | apply Kd.qm0)); exact HO185.out) hb)
                 have n3_ := Aside0.mk (IsS186.below (by repeat (first | (with_reducible first | exact HI0.out | apply IsS186.alloc | apply IsS186.drewN | apply IsS186.drew | apply IsS186.set_1 | apply IsS186.set_2) | exact HI0.out)) hb)
                 have n4_ := Aside0.mk (qn0.trans (by repeat (first | (with_reducible first | exact HK.out | apply qn0.set_ | apply qq0 | apply qs0 | apply qr0) | exact HK.out)) (qn0.of_below hb g none) (.inl rfl))
                 have n5_ := Aside0.mk (qo0 (by repeat (first | (with_reducible first | exact HB.out | apply qc0 | apply qa0 | apply qd0 | refine qi0 ?_ (IsS186.ge HI0.out)) | exact HB.out)) hb)
                 have n6_ := Aside0.mk (hbox)
                 have n7_ := Aside0.mk ((by rw [hg]; exact (qq1 (w := w) (g := g) (row := none) (by repeat (first | (with_reducible first | exact HK.out | apply qn0.set_ | apply qq0 | apply qs0 | apply qr0) | exact HK.out))) : w.heap.size ≤ gb189))
                 have n8_ := Aside0.mk ((Nat.le_trans HW0.out (by rw [hg]; exact (qq1 (w := w) (g := g) (row := none) (by repeat (first | (with_reducible first | exact HK.out | apply qn0.set_ | apply qq0 | apply qs0 | apply qr0) | exact HK.out))) : w.heap.size ≤ gb189) : w0.heap.size ≤ gb189))
                 have n9_ := Aside0.mk ((by rw [hg]; exact Nat.ne_of_lt (IsS186.lt (show IsS186 w0 _ g s0_0 t173 t174 from by repeat (first | (with_reducible first | exact HI0.out | apply IsS186.alloc | apply IsS186.drewN | apply IsS186.drew | apply IsS186.set_1 | apply IsS186.set_2) | exact HI0.out))) : g ≠ gb189))
                 have n10_ := Aside0.mk ((by rw [hg]; exact Nat.ne_of_gt (IsS186.lt (show IsS186 w0 _ g s0_0 t173 t174 from by repeat (first | (with_reducible first | exact HI0.out | apply IsS186.alloc | apply IsS186.drewN | apply IsS186.drew | apply IsS186.set_1 | apply IsS186.set_2) | exact HI0.out))) : gb189 ≠ g))
                 clear HO_3
                 clear HO_4
                 clear HO185
                 clear HI0
                 clear HK
                 clear HB
                 have HO_3 := n0_
                 have HO_4 := n1_
                 have HO185 := n2_
                 have HI0 := n3_
                 have HK := n4_
                 have HB := n5_
                 have BK189 := n6_
                 have GW189 := n7_
                 have GE189 := n8_
                 have NB0_189 := n9_
                 have NB189_0 := n10_
                 clear n0_ n1_ n2_ n3_ n4_ n5_ n6_ n7_ n8_ n9_ n10_
                 clear hb hbox hg
                 refine hK.out _ _ ⟨HS0_, HS1_⟩ (fun hHeld => ?_)
                 clear hK K
                 refine norm_ (a' := ?_) ?_ ?_
                 rotate_left
                 ·show Act.put _ (some 7) _ = _
                  simp only [Act.put, List.setIfInBounds_toArray, List.set_cons_zero, List.set_cons_succ, i64_w, i32_w]
                  rfl
                 exact norm_ (by first | (simp only [qk1, Act.put, List.setIfInBounds_toArray, List.set_cons_zero, List.set_cons_succ]; done) | (simp only [qk1, Act.put, List.setIfInBounds_toArray, List.set_cons_zero, List.set_cons_succ]; rfl)) (hJ19_22 (v184, gb189) _ ⟨hHeld, (by (with_reducible repeat (first | apply Kd.qk0 | apply Kd.qj0 | apply Kd.qm0)); exact HO185.out), (by (with_reducible repeat (first | apply Kd.qk0 | apply Kd.qj0 | apply Kd.qm0)); exact HO_3.out), (by (with_reducible repeat (first | apply Kd.qk0 | apply Kd.qj0 | apply Kd.qm0)); exact Kd.qz0 HO_4.out (fun _ hk => hk.2)), (by (with_reducible repeat (first | refine qe0 ?_ _ | refine qg0 ?_ | refine qf0 ?_ _)); exact BK189.out), GW189.out, GE189.out, NB0_189.out, NB189_0.out, (by repeat (first | (with_reducible first | exact HI0.out | apply IsS186.alloc | apply IsS186.drewN | apply IsS186.drew | apply IsS186.set_1 | apply IsS186.set_2 | refine IsS186.far ?_ NB0_189.out _) | exact HI0.out)), (by repeat (first | (with_reducible first | exact HK.out | apply qn0.set_ | apply qq0 | apply qs0 | apply qr0 | refine qg1 ?_ GW189.out _) | exact HK.out)), (by repeat (first | (with_reducible first | exact HB.out | apply qc0 | apply qa0 | apply qd0 | refine qi0 ?_ (IsS186.ge HI0.out) | refine qi0 ?_ GE189.out) | exact HB.out))⟩)
              ·skip
               rintro _ w25 ⟨hS_, h0_, h1_, h2_, h3_, h4_⟩
               have n0_ : Aside0 (Kd.R Kd.string 9 w25 w.heap.size (fun _ => True) (.slice (some ad175) y163.length co21) y163) := ⟨h0_⟩
               have n1_ : Aside0 (Kd.R k35 35 w25 w.heap.size (fun _ => True) u4 x4_1) := ⟨h1_⟩
               have n2_ : Aside0 (IsS186 w0 w25 g s0_0 t177 t178) := ⟨h2_⟩
               have n3_ : Aside0 (qn0 w w25 g none) := ⟨h3_⟩
               have n4_ : Aside0 (Below w0.heap.size w0 w25) := ⟨h4_⟩
               clear HO_3
               clear HO_4
               clear HI0
               clear HK
               clear HB
               clear h0_ h1_ h2_ h3_ h4_
               have HO_3 := n0_
               have HO_4 := n1_
               have HI0 := n2_
               have HK := n3_
               have HB := n4_
               clear n0_ n1_ n2_ n3_ n4_
               have hHeld : w25.cell? (ad175.add (t172).toNat) = some (.string (rdOf ByteArray.empty y163 t172)) ∧ w25.cell? (ad175.add ((ji14)).toNat) = some (.string (rdOf ByteArray.empty y163 (ji14))) := hS_
               refine norm_ (a' := ?_) ?_ ?_
               rotate_left
               ·simp only [qk1, Act.put, List.setIfInBounds_toArray, List.set_cons_zero, List.set_cons_succ]
                rfl
               refine three_ (i := 16) (j := 19) (k := 22) (Ni := some 36) (Nj := some 39) (Nk := some 7) (rb4 [17, 1, 1, 5]) (rb4 [16, 2, 2, 4]) (rb4 [16, 2, 1, 3, 1, 1]) rfl rfl rfl rfl rfl rfl (three_of HT_.out (by kernel_rfl)) (by decide) (by decide) (by decide) (fun K hK => ?_) (fun K hK => ?_) (fun K hK => ?_)
               ·skip
                refine goes_ Try.func61 (by kernel_rfl) rfl #[.pointer (some ⟨g, 0, none⟩), .int .i64 12] (by rfl) rfl rfl (by (try simp only [List.map_toArray, List.map_cons, List.map_nil]); first | done | rfl | (simp only [List.length_drop, List.length_take]; rfl)) ?_
                with_reducible refine (spec_l1Below.calls g s0_0 t177 t178 12 t180 t181 t182 w0 _ ?side1 ?side2 A17.out).mono ?_
                (case side1 => repeat (first | (with_reducible first | exact HI0.out | apply IsS186.alloc | apply IsS186.drewN | apply IsS186.drew | apply IsS186.set_1 | apply IsS186.set_2) | exact HI0.out))
                (case side2 => repeat (first | (with_reducible first | exact HB.out | apply qc0 | apply qa0 | apply qd0 | refine qi0 ?_ (IsS186.ge HI0.out)) | exact HB.out))
                rintro e w26 ⟨rfl, hi, hb, hk⟩
                have HS0_ := qh1 hk (hHeld.1) (by first | (rw [add_block]; exact Kd.qt0 (IsS186.own_ne HI0.out HO_3.out (by decide))) | (show (Addr.add _ _).block ≠ _; rw [add_block]; exact Kd.qt0 (IsS186.own_ne HI0.out HO_3.out (by decide))) | exact Kd.qt0 (IsS186.own_ne HI0.out HO_3.out (by decide)) | (have b_ := Kd.qt0 (IsS186.own_ne HI0.out HO_3.out (by decide)); exact b_))
                have HS1_ := qh1 hk (hHeld.2) (by first | (rw [add_block]; exact Kd.qt0 (IsS186.own_ne HI0.out HO_3.out (by decide))) | (show (Addr.add _ _).block ≠ _; rw [add_block]; exact Kd.qt0 (IsS186.own_ne HI0.out HO_3.out (by decide))) | exact Kd.qt0 (IsS186.own_ne HI0.out HO_3.out (by decide)) | (have b_ := Kd.qt0 (IsS186.own_ne HI0.out HO_3.out (by decide)); exact b_))
                refine ⟨_, rfl, ?_⟩
                have n0_ := Aside0.mk (Kd.qz0 (Kd.ql1 (IsS186.apart (show IsS186 w0 _ g s0_0 t177 t178 from by repeat (first | (with_reducible first | exact HI0.out | apply IsS186.alloc | apply IsS186.drewN | apply IsS186.drew | apply IsS186.set_1 | apply IsS186.set_2) | exact HI0.out)) (by (with_reducible repeat (first | apply Kd.qk0 | apply Kd.qj0 | apply Kd.qm0)); exact HO_3.out) (by decide)) hk (fun _ h => h.2)) (fun _ h => h.1))
                have n1_ := Aside0.mk (Kd.qz0 (Kd.ql1 (IsS186.apart (show IsS186 w0 _ g s0_0 t177 t178 from by repeat (first | (with_reducible first | exact HI0.out | apply IsS186.alloc | apply IsS186.drewN | apply IsS186.drew | apply IsS186.set_1 | apply IsS186.set_2) | exact HI0.out)) (by (with_reducible repeat (first | apply Kd.qk0 | apply Kd.qj0 | apply Kd.qm0)); exact HO_4.out) (by decide)) hk (fun _ h => h.2)) (fun _ h => h.1))
                have n2_ := Aside0.mk (qn0.trans (by repeat (first | (with_reducible first | exact HK.out | apply qn0.set_ | apply qq0 | apply qs0 | apply qr0) | exact HK.out)) hk (.inl rfl))
                have n3_ := Aside0.mk (hb)
                have n4_ := Aside0.mk (hi)
                clear HO_3
                clear HO_4
                clear HK
                clear HB
                clear HI0
                have HO_3 := n0_
                have HO_4 := n1_
                have HK := n2_
                have HB := n3_
                have HI0 := n4_
                clear n0_ n1_ n2_ n3_ n4_
                (try clear hb)
                (try clear hb2)
                (try clear hk)
                (try clear hi)
                refine hK.out _ _ ⟨HS0_, HS1_⟩ (fun hHeld => ?_)
                clear hK K
                refine norm_ (a' := ?_) ?_ ?_
                rotate_left
                ·show Act.put _ (some 36) _ = _
                 simp only [Act.put, List.setIfInBounds_toArray, List.set_cons_zero, List.set_cons_succ, i64_w, i32_w]
                 rfl
                refine pure_ (i := 17) (N := some 37) (v := ?_) (a' := ?_) (rb4 [19, 5]) rfl rfl (qu1 HT_.out (by kernel_rfl)) (fun _ _ _ h => h) (Or.inl ⟨by rfl, ?_⟩) ?_ ?_
                rotate_left
                ·intro w'
                 go_simp
                 with_reducible rfl
                rotate_left
                ·simp only [Act.put, List.setIfInBounds_toArray, List.set_cons_zero, List.set_cons_succ, i64_w, i32_w]
                 rfl
                exact norm_ (by first | (simp only [qk1, Act.put, List.setIfInBounds_toArray, List.set_cons_zero, List.set_cons_succ]; done) | (simp only [qk1, Act.put, List.setIfInBounds_toArray, List.set_cons_zero, List.set_cons_succ]; rfl)) (hJ8_16 () _ ⟨hHeld, (by (with_reducible repeat (first | apply Kd.qk0 | apply Kd.qj0 | apply Kd.qm0)); exact HO_3.out), (by (with_reducible repeat (first | apply Kd.qk0 | apply Kd.qj0 | apply Kd.qm0)); exact HO_4.out), (by repeat (first | (with_reducible first | exact HI0.out | apply IsS186.alloc | apply IsS186.drewN | apply IsS186.drew | apply IsS186.set_1 | apply IsS186.set_2) | exact HI0.out)), (by repeat (first | (with_reducible first | exact HK.out | apply qn0.set_ | apply qq0 | apply qs0 | apply qr0) | exact HK.out)), (by repeat (first | (with_reducible first | exact HB.out | apply qc0 | apply qa0 | apply qd0 | refine qi0 ?_ (IsS186.ge HI0.out)) | exact HB.out))⟩)
               ·skip
                refine Kd.R_lit_step (Kd.int .i64) _ 3 ?hg (N := 39) ?hd (xs := ([1, 1, 2, 1000] : List Int)) (inner := [.int .i64 1, .int .i64 1, .int .i64 2, .int .i64 1000]) (ok := fun _ => True) (okp := fun _ => True) ?hr ?hp (fun _ hk => hk) trivial (Below.refl _ _) (Nat.le_refl _) (by simp) ?_; (case hd => rfl); (case hg => rfl); (case hr => first | (go_simp; done) | (go_simp; rfl)); (case hp => exact (Reps.one (show Kd.M (Kd.int .i64) _ _ _ 1 [.int .i64 1] from rfl) (Reps.one (show Kd.M (Kd.int .i64) _ _ _ 1 [.int .i64 1] from rfl) (Reps.one (show Kd.M (Kd.int .i64) _ _ _ 2 [.int .i64 2] from rfl) (Reps.one (show Kd.M (Kd.int .i64) _ _ _ 1000 [.int .i64 1000] from rfl) (Reps.none _ _))))))
                intro v184 w26 ho27 hb hg_ hnew_
                have HS0_ := (hb.cell (World.block_lt_of_cell? _ _ (hHeld.1))).trans (hHeld.1)
                have HS1_ := (hb.cell (World.block_lt_of_cell? _ _ (hHeld.2))).trans (hHeld.2)
                clear hg_ hnew_
                (first | rw [← Ny183.out] at ho27 | (simp only [Int.reduceToNat] at ho27; rw [← Ny183.out] at ho27))
                have n0_ := Aside0.mk (Kd.qy0 (by (with_reducible repeat (first | apply Kd.qk0 | apply Kd.qj0 | apply Kd.qm0)); exact HO_3.out) hb)
                have n1_ := Aside0.mk (Kd.qy0 (by (with_reducible repeat (first | apply Kd.qk0 | apply Kd.qj0 | apply Kd.qm0)); exact HO_4.out) hb)
                have n2_ := Aside0.mk (Kd.qp1 ho27 (qq1 (w := w) (g := g) (row := none) (by repeat (first | (with_reducible first | exact HK.out | apply qn0.set_ | apply qq0 | apply qs0 | apply qr0) | exact HK.out))))
                have n3_ := Aside0.mk (IsS186.below (by repeat (first | (with_reducible first | exact HI0.out | apply IsS186.alloc | apply IsS186.drewN | apply IsS186.drew | apply IsS186.set_1 | apply IsS186.set_2) | exact HI0.out)) hb)
                have n4_ := Aside0.mk (qn0.trans (by repeat (first | (with_reducible first | exact HK.out | apply qn0.set_ | apply qq0 | apply qs0 | apply qr0) | exact HK.out)) (qn0.of_below hb g none) (.inl rfl))
                have n5_ := Aside0.mk (qo0 (by repeat (first | (with_reducible first | exact HB.out | apply qc0 | apply qa0 | apply qd0 | refine qi0 ?_ (IsS186.ge HI0.out)) | exact HB.out)) hb)
                clear HO_3
                clear HO_4
                clear HI0
                clear HK
                clear HB
                have HO_3 := n0_
                have HO_4 := n1_
                have HO185 := n2_
                have HI0 := n3_
                have HK := n4_
                have HB := n5_
                clear n0_ n1_ n2_ n3_ n4_ n5_
                clear hb ho27
                refine hK.out _ _ ⟨HS0_, HS1_⟩ (fun hHeld => ?_)
                clear hK K
                refine norm_ (a' := ?_) ?_ ?_
                rotate_left
                ·show Act.put _ (some 39) _ = _
                 simp only [Act.put, List.setIfInBounds_toArray, List.set_cons_zero, List.set_cons_succ, i64_w, i32_w]
                 rfl
                exact norm_ (by first | (simp only [qk1, Act.put, List.setIfInBounds_toArray, List.set_cons_zero, List.set_cons_succ]; done) | (simp only [qk1, Act.put, List.setIfInBounds_toArray, List.set_cons_zero, List.set_cons_succ]; rfl)) (hJ8_19 (v184) _ ⟨hHeld, (by (with_reducible repeat (first | apply Kd.qk0 | apply Kd.qj0 | apply Kd.qm0)); exact HO185.out), (by (with_reducible repeat (first | apply Kd.qk0 | apply Kd.qj0 | apply Kd.qm0)); exact HO_3.out), (by (with_reducible repeat (first | apply Kd.qk0 | apply Kd.qj0 | apply Kd.qm0)); exact HO_4.out), (by repeat (first | (with_reducible first | exact HI0.out | apply IsS186.alloc | apply IsS186.drewN | apply IsS186.drew | apply IsS186.set_1 | apply IsS186.set_2) | exact HI0.out)), (by repeat (first | (with_reducible first | exact HK.out | apply qn0.set_ | apply qq0 | apply qs0 | apply qr0) | exact HK.out)), (by repeat (first | (with_reducible first | exact HB.out | apply qc0 | apply qa0 | apply qd0 | refine qi0 ?_ (IsS186.ge HI0.out)) | exact HB.out))⟩)
               ·skip
                refine box_step ?hg (N := 7) ?hd (cs := #[.string (⟨#[]⟩ : ByteArray), .string (⟨#[]⟩ : ByteArray), .int .i64 0, .int .i64 0]) (t := 35) ?hr ?_; (case hd => rfl); (case hg => rfl); (case hr => first | (go_simp; done) | (go_simp; rfl))
                intro gb189 hg w26 hbox hb
                have HS0_ := (hb.cell (World.block_lt_of_cell? _ _ (hHeld.1))).trans (hHeld.1)
                have HS1_ := (hb.cell (World.block_lt_of_cell? _ _ (hHeld.2))).trans (hHeld.2)
                have n0_ := Aside0.mk (Kd.qy0 (by (with_reducible repeat (first | apply Kd.qk0 | apply Kd.qj0 | apply Kd.qm0)); exact HO_3.out) hb)
                have n1_ := Aside0.mk (Kd.qy0 (Kd.R_elderB (by (with_reducible repeat (first | apply Kd.qk0 | apply Kd.qj0 | apply Kd.qm0)); exact HO_4.out) gb189 (Nat.le_of_eq hg.symm)) hb)
                have n2_ := Aside0.mk (IsS186.below (by repeat (first | (with_reducible first | exact HI0.out | apply IsS186.alloc | apply IsS186.drewN | apply IsS186.drew | apply IsS186.set_1 | apply IsS186.set_2) | exact HI0.out)) hb)
                have n3_ := Aside0.mk (qn0.trans (by repeat (first | (with_reducible first | exact HK.out | apply qn0.set_ | apply qq0 | apply qs0 | apply qr0) | exact HK.out)) (qn0.of_below hb g none) (.inl rfl))
                have n4_ := Aside0.mk (qo0 (by repeat (first | (with_reducible first | exact HB.out | apply qc0 | apply qa0 | apply qd0 | refine qi0 ?_ (IsS186.ge HI0.out)) | exact HB.out)) hb)
                have n5_ := Aside0.mk (hbox)
                have n6_ := Aside0.mk ((by rw [hg]; exact (qq1 (w := w) (g := g) (row := none) (by repeat (first | (with_reducible first | exact HK.out | apply qn0.set_ | apply qq0 | apply qs0 | apply qr0) | exact HK.out))) : w.heap.size ≤ gb189))
                have n7_ := Aside0.mk ((Nat.le_trans HW0.out (by rw [hg]; exact (qq1 (w := w) (g := g) (row := none) (by repeat (first | (with_reducible first | exact HK.out | apply qn0.set_ | apply qq0 | apply qs0 | apply qr0) | exact HK.out))) : w.heap.size ≤ gb189) : w0.heap.size ≤ gb189))
                have n8_ := Aside0.mk ((by rw [hg]; exact Nat.ne_of_lt (IsS186.lt (show IsS186 w0 _ g s0_0 t177 t178 from by repeat (first | (with_reducible first | exact HI0.out | apply IsS186.alloc | apply IsS186.drewN | apply IsS186.drew | apply IsS186.set_1 | apply IsS186.set_2) | exact HI0.out))) : g ≠ gb189))
                have n9_ := Aside0.mk ((by rw [hg]; exact Nat.ne_of_gt (IsS186.lt (show IsS186 w0 _ g s0_0 t177 t178 from by repeat (first | (with_reducible first | exact HI0.out | apply IsS186.alloc | apply IsS186.drewN | apply IsS186.drew | apply IsS186.set_1 | apply IsS186.set_2) | exact HI0.out))) : gb189 ≠ g))
                clear HO_3
                clear HO_4
                clear HI0
                clear HK
                clear HB
                have HO_3 := n0_
                have HO_4 := n1_
                have HI0 := n2_
                have HK := n3_
                have HB := n4_
                have BK189 := n5_
                have GW189 := n6_
                have GE189 := n7_
                have NB0_189 := n8_
                have NB189_0 := n9_
                clear n0_ n1_ n2_ n3_ n4_ n5_ n6_ n7_ n8_ n9_
                clear hb hbox hg
                refine hK.out _ _ ⟨HS0_, HS1_⟩ (fun hHeld => ?_)
                clear hK K
                refine norm_ (a' := ?_) ?_ ?_
                rotate_left
                ·show Act.put _ (some 7) _ = _
                 simp only [Act.put, List.setIfInBounds_toArray, List.set_cons_zero, List.set_cons_succ, i64_w, i32_w]
                 rfl
                exact norm_ (by first | (simp only [qk1, Act.put, List.setIfInBounds_toArray, List.set_cons_zero, List.set_cons_succ]; done) | (simp only [qk1, Act.put, List.setIfInBounds_toArray, List.set_cons_zero, List.set_cons_succ]; rfl)) (hJ8_22 (gb189) _ ⟨hHeld, (by (with_reducible repeat (first | apply Kd.qk0 | apply Kd.qj0 | apply Kd.qm0)); exact HO_3.out), (by (with_reducible repeat (first | apply Kd.qk0 | apply Kd.qj0 | apply Kd.qm0)); exact Kd.qz0 HO_4.out (fun _ hk => hk.2)), (by (with_reducible repeat (first | refine qe0 ?_ _ | refine qg0 ?_ | refine qf0 ?_ _)); exact BK189.out), GW189.out, GE189.out, NB0_189.out, NB189_0.out, (by repeat (first | (with_reducible first | exact HI0.out | apply IsS186.alloc | apply IsS186.drewN | apply IsS186.drew | apply IsS186.set_1 | apply IsS186.set_2 | refine IsS186.far ?_ NB0_189.out _) | exact HI0.out)), (by repeat (first | (with_reducible first | exact HK.out | apply qn0.set_ | apply qq0 | apply qs0 | apply qr0 | refine qg1 ?_ GW189.out _) | exact HK.out)), (by repeat (first | (with_reducible first | exact HB.out | apply qc0 | apply qa0 | apply qd0 | refine qi0 ?_ (IsS186.ge HI0.out) | refine qi0 ?_ GE189.out) | exact HB.out))⟩)
             ·skip
              rintro ⟨v184, gb189⟩ w27 ⟨hS_, h0_, h1_, h2_, h3_, h4_, h5_, h6_, h7_, h8_, h9_, h10_⟩
              have n0_ : Aside0 (Kd.R (Kd.int .i64) 3 w27 w.heap.size (fun _ => True) v184 y183) := ⟨h0_⟩
              have n1_ : Aside0 (Kd.R Kd.string 9 w27 w.heap.size (fun _ => True) (.slice (some ad175) y163.length co21) y163) := ⟨h1_⟩
              have n2_ : Aside0 (Kd.R k35 35 w27 w.heap.size (fun k_ => k_ ≠ gb189) u4 x4_1) := ⟨h2_⟩
              have n3_ : Aside0 (w27.heap[gb189]? = some (.cells #[.string (⟨#[]⟩ : ByteArray), .string (⟨#[]⟩ : ByteArray), .int .i64 0, .int .i64 0] 35 (0, 0))) := ⟨h3_⟩
              have n4_ : Aside0 (w.heap.size ≤ gb189) := ⟨h4_⟩
              have n5_ : Aside0 (w0.heap.size ≤ gb189) := ⟨h5_⟩
              have n6_ : Aside0 (g ≠ gb189) := ⟨h6_⟩
              have n7_ : Aside0 (gb189 ≠ g) := ⟨h7_⟩
              have n8_ : Aside0 (IsS186 w0 w27 g s0_0 t173 t174) := ⟨h8_⟩
              have n9_ : Aside0 (qn0 w w27 g none) := ⟨h9_⟩
              have n10_ : Aside0 (Below w0.heap.size w0 w27) := ⟨h10_⟩
              clear HO_3
              clear HO_4
              clear HI0
              clear HK
              clear HB
              clear h0_ h1_ h2_ h3_ h4_ h5_ h6_ h7_ h8_ h9_ h10_
              have HO185 := n0_
              have HO_3 := n1_
              have HO_4 := n2_
              have BK189 := n3_
              have GW189 := n4_
              have GE189 := n5_
              have NB0_189 := n6_
              have NB189_0 := n7_
              have HI0 := n8_
              have HK := n9_
              have HB := n10_
              clear n0_ n1_ n2_ n3_ n4_ n5_ n6_ n7_ n8_ n9_ n10_
              have hHeld : w27.cell? (ad175.add (t172).toNat) = some (.string (rdOf ByteArray.empty y163 t172)) ∧ w27.cell? (ad175.add ((ji14)).toNat) = some (.string (rdOf ByteArray.empty y163 (ji14))) := hS_
              refine norm_ (a' := ?_) ?_ ?_
              rotate_left
              ·simp only [qk1, Act.put, List.setIfInBounds_toArray, List.set_cons_zero, List.set_cons_succ]
               rfl
              refine one_ (i := 8) (N := some 28) (rb4 [9, 1, 2, 3, 1, 2, 2, 2, 1, 1]) rfl rfl (one_of HT_.out (by kernel_rfl)) (by decide) (fun K hK => ?_)
              refine goes_ Try.func61 (by kernel_rfl) rfl #[.pointer (some ⟨g, 0, none⟩), .int .i64 3] (by rfl) rfl rfl (by (try simp only [List.map_toArray, List.map_cons, List.map_nil]); first | done | rfl | (simp only [List.length_drop, List.length_take]; rfl)) ?_
              with_reducible refine (spec_l1Below.calls g s0_0 t173 t174 3 t176 t177 t178 w0 _ ?side1 ?side2 A12.out).mono ?_
              (case side1 => repeat (first | (with_reducible first | exact HI0.out | apply IsS186.alloc | apply IsS186.drewN | apply IsS186.drew | apply IsS186.set_1 | apply IsS186.set_2 | refine IsS186.far ?_ NB0_189.out _) | exact HI0.out))
              (case side2 => repeat (first | (with_reducible first | exact HB.out | apply qc0 | apply qa0 | apply qd0 | refine qi0 ?_ (IsS186.ge HI0.out) | refine qi0 ?_ GE189.out) | exact HB.out))
              rintro e w28 ⟨rfl, hi, hb, hk⟩
              have HS0_ := qh1 hk (hHeld.1) (by first | (rw [add_block]; exact Kd.qt0 (IsS186.own_ne HI0.out HO_3.out (by decide))) | (show (Addr.add _ _).block ≠ _; rw [add_block]; exact Kd.qt0 (IsS186.own_ne HI0.out HO_3.out (by decide))) | exact Kd.qt0 (IsS186.own_ne HI0.out HO_3.out (by decide)) | (have b_ := Kd.qt0 (IsS186.own_ne HI0.out HO_3.out (by decide)); exact b_))
              have HS1_ := qh1 hk (hHeld.2) (by first | (rw [add_block]; exact Kd.qt0 (IsS186.own_ne HI0.out HO_3.out (by decide))) | (show (Addr.add _ _).block ≠ _; rw [add_block]; exact Kd.qt0 (IsS186.own_ne HI0.out HO_3.out (by decide))) | exact Kd.qt0 (IsS186.own_ne HI0.out HO_3.out (by decide)) | (have b_ := Kd.qt0 (IsS186.own_ne HI0.out HO_3.out (by decide)); exact b_))
              refine ⟨_, rfl, ?_⟩
              have n0_ := Aside0.mk (Kd.qz0 (Kd.ql1 (IsS186.apart (show IsS186 w0 _ g s0_0 t173 t174 from by repeat (first | (with_reducible first | exact HI0.out | apply IsS186.alloc | apply IsS186.drewN | apply IsS186.drew | apply IsS186.set_1 | apply IsS186.set_2 | refine IsS186.far ?_ NB0_189.out _) | exact HI0.out)) (by (with_reducible repeat (first | apply Kd.qk0 | apply Kd.qj0 | apply Kd.qm0)); exact HO_3.out) (by decide)) hk (fun _ h => h.2)) (fun _ h => h.1))
              have n1_ := Aside0.mk (Kd.qz0 (Kd.ql1 (IsS186.apart (show IsS186 w0 _ g s0_0 t173 t174 from by repeat (first | (with_reducible first | exact HI0.out | apply IsS186.alloc | apply IsS186.drewN | apply IsS186.drew | apply IsS186.set_1 | apply IsS186.set_2 | refine IsS186.far ?_ NB0_189.out _) | exact HI0.out)) (by (with_reducible repeat (first | apply Kd.qk0 | apply Kd.qj0 | apply Kd.qm0)); exact HO_4.out) (by decide)) hk (fun _ h => h.2)) (fun _ h => h.1))
              have n2_ := Aside0.mk (Kd.qz0 (Kd.ql1 (IsS186.apart (show IsS186 w0 _ g s0_0 t173 t174 from by repeat (first | (with_reducible first | exact HI0.out | apply IsS186.alloc | apply IsS186.drewN | apply IsS186.drew | apply IsS186.set_1 | apply IsS186.set_2 | refine IsS186.far ?_ NB0_189.out _) | exact HI0.out)) (by (with_reducible repeat (first | apply Kd.qk0 | apply Kd.qj0 | apply Kd.qm0)); exact HO185.out) (by decide)) hk (fun _ h => h.2)) (fun _ h => h.1))
              have n3_ := Aside0.mk (qn0.blk hk (g' := gb189) (o := .cells #[.string (⟨#[]⟩ : ByteArray), .string (⟨#[]⟩ : ByteArray), .int .i64 0, .int .i64 0] 35 (0, 0)) (by (with_reducible repeat (first | refine qe0 ?_ _ | refine qg0 ?_ | refine qf0 ?_ _)); exact BK189.out) NB189_0.out (by simp))
              have n4_ := Aside0.mk (qn0.trans (by repeat (first | (with_reducible first | exact HK.out | apply qn0.set_ | apply qq0 | apply qs0 | apply qr0 | refine qg1 ?_ GW189.out _) | exact HK.out)) hk (.inl rfl))
              have n5_ := Aside0.mk (hb)
              have n6_ := Aside0.mk (hi)
              clear HO_3
              clear HO_4
              clear HO185
              clear BK189
              clear HK
              clear HB
              clear HI0
              have HO_3 := n0_
              have HO_4 := n1_
              have HO185 := n2_
              have BK189 := n3_
              have HK := n4_
              have HB := n5_
              have HI0 := n6_
              clear n0_ n1_ n2_ n3_ n4_ n5_ n6_
              (try clear hb)
              (try clear hb2)
              (try clear hk)
              (try clear hi)
              refine hK.out _ _ ⟨HS0_, HS1_⟩ (fun hHeld => ?_)
              clear hK K
              refine norm_ (a' := ?_) ?_ ?_
              rotate_left
              ·show Act.put _ (some 28) _ = _
               simp only [Act.put, List.setIfInBounds_toArray, List.set_cons_zero, List.set_cons_succ, i64_w, i32_w]
               rfl
              refine pure_ (i := 9) (N := some 29) (v := ?_) (a' := ?_) (rb4 [12, 3, 1, 2, 2, 2, 1, 1]) rfl rfl (qu1 HT_.out (by kernel_rfl)) (fun _ _ _ h => h) (Or.inl ⟨by rfl, ?_⟩) ?_ ?_
              rotate_left
              ·intro w'
               go_simp
               with_reducible rfl
              rotate_left
              ·simp only [Act.put, List.setIfInBounds_toArray, List.set_cons_zero, List.set_cons_succ, i64_w, i32_w]
               rfl
              refine pure_ (i := 12) (N := some 32) (v := ?_) (a' := ?_) (rb4 [13, 2, 1, 2, 2, 2, 1, 1]) rfl rfl (qu1 HT_.out (by kernel_rfl)) (fun _ _ _ h => h) (Or.inl ⟨by rfl, ?_⟩) ?_ ?_
              rotate_left
              ·intro w'
               go_simp
               with_reducible rfl
              rotate_left
              ·simp only [Act.put, List.setIfInBounds_toArray, List.set_cons_zero, List.set_cons_succ, i64_w, i32_w]
               rfl
              refine pure_ (i := 13) (N := some 33) (v := ?_) (a' := ?_) (rb4 [14, 1, 1, 2, 2, 2, 1, 1]) rfl rfl (qu1 HT_.out (by kernel_rfl)) (fun _ _ _ h => h) (Or.inl ⟨by rfl, ?_⟩) ?_ ?_
              rotate_left
              ·intro w'
               go_simp
               with_reducible rfl
              rotate_left
              ·simp only [Act.put, List.setIfInBounds_toArray, List.set_cons_zero, List.set_cons_succ, i64_w, i32_w]
               rfl
              refine take_ (i := 14) (N := some 34) (v := ?_) (a' := ?_) (rb4 [16, 2, 2, 2, 1, 1]) rfl rfl (take_ofW HT_.out HW_.out (by kernel_rfl)) (fun _ _ _ h => h) (Or.inl ⟨by rfl, ?_⟩) hHeld ?_ ?_
              rotate_left
              ·rintro w' ⟨s0, s1⟩
               go_simp
               with_reducible rfl
              rotate_left
              ·simp only [Act.put, List.setIfInBounds_toArray, List.set_cons_zero, List.set_cons_succ, i64_w, i32_w]
               rfl
              exact norm_ (by first | (simp only [qk1, Act.put, List.setIfInBounds_toArray, List.set_cons_zero, List.set_cons_succ]; done) | (simp only [qk1, Act.put, List.setIfInBounds_toArray, List.set_cons_zero, List.set_cons_succ]; rfl)) (hJ8_19_22 (v184, gb189) _ ⟨hHeld, (by (with_reducible repeat (first | apply Kd.qk0 | apply Kd.qj0 | apply Kd.qm0)); exact HO185.out), (by (with_reducible repeat (first | apply Kd.qk0 | apply Kd.qj0 | apply Kd.qm0)); exact HO_3.out), (by (with_reducible repeat (first | apply Kd.qk0 | apply Kd.qj0 | apply Kd.qm0)); exact HO_4.out), (by (with_reducible repeat (first | refine qe0 ?_ _ | refine qg0 ?_ | refine qf0 ?_ _)); exact BK189.out), GW189.out, GE189.out, NB0_189.out, NB189_0.out, (by repeat (first | (with_reducible first | exact HI0.out | apply IsS186.alloc | apply IsS186.drewN | apply IsS186.drew | apply IsS186.set_1 | apply IsS186.set_2 | refine IsS186.far ?_ NB0_189.out _) | exact HI0.out)), (by repeat (first | (with_reducible first | exact HK.out | apply qn0.set_ | apply qq0 | apply qs0 | apply qr0 | refine qg1 ?_ GW189.out _) | exact HK.out)), (by repeat (first | (with_reducible first | exact HB.out | apply qc0 | apply qa0 | apply qd0 | refine qi0 ?_ (IsS186.ge HI0.out) | refine qi0 ?_ GE189.out) | exact HB.out))⟩)
            ·skip
             rintro gb189 w26 ⟨hS_, h0_, h1_, h2_, h3_, h4_, h5_, h6_, h7_, h8_, h9_⟩
             have n0_ : Aside0 (Kd.R Kd.string 9 w26 w.heap.size (fun _ => True) (.slice (some ad175) y163.length co21) y163) := ⟨h0_⟩
             have n1_ : Aside0 (Kd.R k35 35 w26 w.heap.size (fun k_ => k_ ≠ gb189) u4 x4_1) := ⟨h1_⟩
             have n2_ : Aside0 (w26.heap[gb189]? = some (.cells #[.string (⟨#[]⟩ : ByteArray), .string (⟨#[]⟩ : ByteArray), .int .i64 0, .int .i64 0] 35 (0, 0))) := ⟨h2_⟩
             have n3_ : Aside0 (w.heap.size ≤ gb189) := ⟨h3_⟩
             have n4_ : Aside0 (w0.heap.size ≤ gb189) := ⟨h4_⟩
             have n5_ : Aside0 (g ≠ gb189) := ⟨h5_⟩
             have n6_ : Aside0 (gb189 ≠ g) := ⟨h6_⟩
             have n7_ : Aside0 (IsS186 w0 w26 g s0_0 t177 t178) := ⟨h7_⟩
             have n8_ : Aside0 (qn0 w w26 g none) := ⟨h8_⟩
             have n9_ : Aside0 (Below w0.heap.size w0 w26) := ⟨h9_⟩
             clear HO_3
             clear HO_4
             clear HI0
             clear HK
             clear HB
             clear h0_ h1_ h2_ h3_ h4_ h5_ h6_ h7_ h8_ h9_
             have HO_3 := n0_
             have HO_4 := n1_
             have BK189 := n2_
             have GW189 := n3_
             have GE189 := n4_
             have NB0_189 := n5_
             have NB189_0 := n6_
             have HI0 := n7_
             have HK := n8_
             have HB := n9_
             clear n0_ n1_ n2_ n3_ n4_ n5_ n6_ n7_ n8_ n9_
             have hHeld : w26.cell? (ad175.add (t172).toNat) = some (.string (rdOf ByteArray.empty y163 t172)) ∧ w26.cell? (ad175.add ((ji14)).toNat) = some (.string (rdOf ByteArray.empty y163 (ji14))) := hS_
             refine norm_ (a' := ?_) ?_ ?_
             rotate_left
             ·simp only [qk1, Act.put, List.setIfInBounds_toArray, List.set_cons_zero, List.set_cons_succ]
              rfl
             refine two_ (i := 16) (j := 19) (Ni := some 36) (Nj := some 39) (rb4 [17, 1, 1, 3, 1, 1]) (rb4 [16, 2, 2, 2, 1, 1]) rfl rfl rfl rfl (two_of HT_.out (by kernel_rfl)) (by decide) (by decide) (fun K hK => ?_) (fun K hK => ?_)
             ·skip
              refine goes_ Try.func61 (by kernel_rfl) rfl #[.pointer (some ⟨g, 0, none⟩), .int .i64 12] (by rfl) rfl rfl (by (try simp only [List.map_toArray, List.map_cons, List.map_nil]); first | done | rfl | (simp only [List.length_drop, List.length_take]; rfl)) ?_
              with_reducible refine (spec_l1Below.calls g s0_0 t177 t178 12 t180 t181 t182 w0 _ ?side1 ?side2 A17.out).mono ?_
              (case side1 => repeat (first | (with_reducible first | exact HI0.out | apply IsS186.alloc | apply IsS186.drewN | apply IsS186.drew | apply IsS186.set_1 | apply IsS186.set_2 | refine IsS186.far ?_ NB0_189.out _) | exact HI0.out))
              (case side2 => repeat (first | (with_reducible first | exact HB.out | apply qc0 | apply qa0 | apply qd0 | refine qi0 ?_ (IsS186.ge HI0.out) | refine qi0 ?_ GE189.out) | exact HB.out))
              rintro e w27 ⟨rfl, hi, hb, hk⟩
              have HS0_ := qh1 hk (hHeld.1) (by first | (rw [add_block]; exact Kd.qt0 (IsS186.own_ne HI0.out HO_3.out (by decide))) | (show (Addr.add _ _).block ≠ _; rw [add_block]; exact Kd.qt0 (IsS186.own_ne HI0.out HO_3.out (by decide))) | exact Kd.qt0 (IsS186.own_ne HI0.out HO_3.out (by decide)) | (have b_ := Kd.qt0 (IsS186.own_ne HI0.out HO_3.out (by decide)); exact b_))
              have HS1_ := qh1 hk (hHeld.2) (by first | (rw [add_block]; exact Kd.qt0 (IsS186.own_ne HI0.out HO_3.out (by decide))) | (show (Addr.add _ _).block ≠ _; rw [add_block]; exact Kd.qt0 (IsS186.own_ne HI0.out HO_3.out (by decide))) | exact Kd.qt0 (IsS186.own_ne HI0.out HO_3.out (by decide)) | (have b_ := Kd.qt0 (IsS186.own_ne HI0.out HO_3.out (by decide)); exact b_))
              refine ⟨_, rfl, ?_⟩
              have n0_ := Aside0.mk (Kd.qz0 (Kd.ql1 (IsS186.apart (show IsS186 w0 _ g s0_0 t177 t178 from by repeat (first | (with_reducible first | exact HI0.out | apply IsS186.alloc | apply IsS186.drewN | apply IsS186.drew | apply IsS186.set_1 | apply IsS186.set_2 | refine IsS186.far ?_ NB0_189.out _) | exact HI0.out)) (by (with_reducible repeat (first | apply Kd.qk0 | apply Kd.qj0 | apply Kd.qm0)); exact HO_3.out) (by decide)) hk (fun _ h => h.2)) (fun _ h => h.1))
              have n1_ := Aside0.mk (Kd.qz0 (Kd.ql1 (IsS186.apart (show IsS186 w0 _ g s0_0 t177 t178 from by repeat (first | (with_reducible first | exact HI0.out | apply IsS186.alloc | apply IsS186.drewN | apply IsS186.drew | apply IsS186.set_1 | apply IsS186.set_2 | refine IsS186.far ?_ NB0_189.out _) | exact HI0.out)) (by (with_reducible repeat (first | apply Kd.qk0 | apply Kd.qj0 | apply Kd.qm0)); exact HO_4.out) (by decide)) hk (fun _ h => h.2)) (fun _ h => h.1))
              have n2_ := Aside0.mk (qn0.blk hk (g' := gb189) (o := .cells #[.string (⟨#[]⟩ : ByteArray), .string (⟨#[]⟩ : ByteArray), .int .i64 0, .int .i64 0] 35 (0, 0)) (by (with_reducible repeat (first | refine qe0 ?_ _ | refine qg0 ?_ | refine qf0 ?_ _)); exact BK189.out) NB189_0.out (by simp))
              have n3_ := Aside0.mk (qn0.trans (by repeat (first | (with_reducible first | exact HK.out | apply qn0.set_ | apply qq0 | apply qs0 | apply qr0 | refine qg1 ?_ GW189.out _) | exact HK.out)) hk (.inl rfl))
              have n4_ := Aside0.mk (hb)
              have n5_ := Aside0.mk (hi)
              clear HO_3
              clear HO_4
              clear BK189
              clear HK
              clear HB
              clear HI0
              have HO_3 := n0_
              have HO_4 := n1_
              have BK189 := n2_
              have HK := n3_
              have HB := n4_
              have HI0 := n5_
              clear n0_ n1_ n2_ n3_ n4_ n5_
              (try clear hb)
              (try clear hb2)
              (try clear hk)
              (try clear hi)
              refine hK.out _ _ ⟨HS0_, HS1_⟩ (fun hHeld => ?_)
              clear hK K
              refine norm_ (a' := ?_) ?_ ?_
              rotate_left
              ·show Act.put _ (some 36) _ = _
               simp only [Act.put, List.setIfInBounds_toArray, List.set_cons_zero, List.set_cons_succ, i64_w, i32_w]
               rfl
              refine pure_ (i := 17) (N := some 37) (v := ?_) (a' := ?_) (rb4 [19, 3, 1, 1]) rfl rfl (qu1 HT_.out (by kernel_rfl)) (fun _ _ _ h => h) (Or.inl ⟨by rfl, ?_⟩) ?_ ?_
              rotate_left
              ·intro w'
               go_simp
               with_reducible rfl
              rotate_left
              ·simp only [Act.put, List.setIfInBounds_toArray, List.set_cons_zero, List.set_cons_succ, i64_w, i32_w]
               rfl
              exact norm_ (by first | (simp only [qk1, Act.put, List.setIfInBounds_toArray, List.set_cons_zero, List.set_cons_succ]; done) | (simp only [qk1, Act.put, List.setIfInBounds_toArray, List.set_cons_zero, List.set_cons_succ]; rfl)) (hJ8_16_22 (gb189) _ ⟨hHeld, (by (with_reducible repeat (first | apply Kd.qk0 | apply Kd.qj0 | apply Kd.qm0)); exact HO_3.out), (by (with_reducible repeat (first | apply Kd.qk0 | apply Kd.qj0 | apply Kd.qm0)); exact HO_4.out), (by (with_reducible repeat (first | refine qe0 ?_ _ | refine qg0 ?_ | refine qf0 ?_ _)); exact BK189.out), GW189.out, GE189.out, NB0_189.out, NB189_0.out, (by repeat (first | (with_reducible first | exact HI0.out | apply IsS186.alloc | apply IsS186.drewN | apply IsS186.drew | apply IsS186.set_1 | apply IsS186.set_2 | refine IsS186.far ?_ NB0_189.out _) | exact HI0.out)), (by repeat (first | (with_reducible first | exact HK.out | apply qn0.set_ | apply qq0 | apply qs0 | apply qr0 | refine qg1 ?_ GW189.out _) | exact HK.out)), (by repeat (first | (with_reducible first | exact HB.out | apply qc0 | apply qa0 | apply qd0 | refine qi0 ?_ (IsS186.ge HI0.out) | refine qi0 ?_ GE189.out) | exact HB.out))⟩)
             ·skip
              refine Kd.R_lit_step (Kd.int .i64) _ 3 ?hg (N := 39) ?hd (xs := ([1, 1, 2, 1000] : List Int)) (inner := [.int .i64 1, .int .i64 1, .int .i64 2, .int .i64 1000]) (ok := fun _ => True) (okp := fun _ => True) ?hr ?hp (fun _ hk => hk) trivial (Below.refl _ _) (Nat.le_refl _) (by simp) ?_; (case hd => rfl); (case hg => rfl); (case hr => first | (go_simp; done) | (go_simp; rfl)); (case hp => exact (Reps.one (show Kd.M (Kd.int .i64) _ _ _ 1 [.int .i64 1] from rfl) (Reps.one (show Kd.M (Kd.int .i64) _ _ _ 1 [.int .i64 1] from rfl) (Reps.one (show Kd.M (Kd.int .i64) _ _ _ 2 [.int .i64 2] from rfl) (Reps.one (show Kd.M (Kd.int .i64) _ _ _ 1000 [.int .i64 1000] from rfl) (Reps.none _ _))))))
              intro v184 w27 ho28 hb hg_ hnew_
              have HS0_ := (hb.cell (World.block_lt_of_cell? _ _ (hHeld.1))).trans (hHeld.1)
              have HS1_ := (hb.cell (World.block_lt_of_cell? _ _ (hHeld.2))).trans (hHeld.2)
              clear hg_ hnew_
              (first | rw [← Ny183.out] at ho28 | (simp only [Int.reduceToNat] at ho28; rw [← Ny183.out] at ho28))
              have n0_ := Aside0.mk (Kd.qy0 (by (with_reducible repeat (first | apply Kd.qk0 | apply Kd.qj0 | apply Kd.qm0)); exact HO_3.out) hb)
              have n1_ := Aside0.mk (Kd.qy0 (by (with_reducible repeat (first | apply Kd.qk0 | apply Kd.qj0 | apply Kd.qm0)); exact HO_4.out) hb)
              have n2_ := Aside0.mk (Kd.qp1 ho28 (qq1 (w := w) (g := g) (row := none) (by repeat (first | (with_reducible first | exact HK.out | apply qn0.set_ | apply qq0 | apply qs0 | apply qr0 | refine qg1 ?_ GW189.out _) | exact HK.out))))
              have n3_ := Aside0.mk (IsS186.below (by repeat (first | (with_reducible first | exact HI0.out | apply IsS186.alloc | apply IsS186.drewN | apply IsS186.drew | apply IsS186.set_1 | apply IsS186.set_2 | refine IsS186.far ?_ NB0_189.out _) | exact HI0.out)) hb)
              have n4_ := Aside0.mk (qa1 (g := gb189) (o := .cells #[.string (⟨#[]⟩ : ByteArray), .string (⟨#[]⟩ : ByteArray), .int .i64 0, .int .i64 0] 35 (0, 0)) (by (with_reducible repeat (first | refine qe0 ?_ _ | refine qg0 ?_ | refine qf0 ?_ _)); exact BK189.out) hb)
              have n5_ := Aside0.mk (qn0.trans (by repeat (first | (with_reducible first | exact HK.out | apply qn0.set_ | apply qq0 | apply qs0 | apply qr0 | refine qg1 ?_ GW189.out _) | exact HK.out)) (qn0.of_below hb g none) (.inl rfl))
              have n6_ := Aside0.mk (qo0 (by repeat (first | (with_reducible first | exact HB.out | apply qc0 | apply qa0 | apply qd0 | refine qi0 ?_ (IsS186.ge HI0.out) | refine qi0 ?_ GE189.out) | exact HB.out)) hb)
              clear HO_3
              clear HO_4
              clear HI0
              clear BK189
              clear HK
              clear HB
              have HO_3 := n0_
              have HO_4 := n1_
              have HO185 := n2_
              have HI0 := n3_
              have BK189 := n4_
              have HK := n5_
              have HB := n6_
              clear n0_ n1_ n2_ n3_ n4_ n5_ n6_
              clear hb ho28
              refine hK.out _ _ ⟨HS0_, HS1_⟩ (fun hHeld => ?_)
              clear hK K
              refine norm_ (a' := ?_) ?_ ?_
              rotate_left
              ·show Act.put _ (some 39) _ = _
               simp only [Act.put, List.setIfInBounds_toArray, List.set_cons_zero, List.set_cons_succ, i64_w, i32_w]
               rfl
              exact norm_ (by first | (simp only [qk1, Act.put, List.setIfInBounds_toArray, List.set_cons_zero, List.set_cons_succ]; done) | (simp only [qk1, Act.put, List.setIfInBounds_toArray, List.set_cons_zero, List.set_cons_succ]; rfl)) (hJ8_19_22 (v184, gb189) _ ⟨hHeld, (by (with_reducible repeat (first | apply Kd.qk0 | apply Kd.qj0 | apply Kd.qm0)); exact HO185.out), (by (with_reducible repeat (first | apply Kd.qk0 | apply Kd.qj0 | apply Kd.qm0)); exact HO_3.out), (by (with_reducible repeat (first | apply Kd.qk0 | apply Kd.qj0 | apply Kd.qm0)); exact HO_4.out), (by (with_reducible repeat (first | refine qe0 ?_ _ | refine qg0 ?_ | refine qf0 ?_ _)); exact BK189.out), GW189.out, GE189.out, NB0_189.out, NB189_0.out, (by repeat (first | (with_reducible first | exact HI0.out | apply IsS186.alloc | apply IsS186.drewN | apply IsS186.drew | apply IsS186.set_1 | apply IsS186.set_2 | refine IsS186.far ?_ NB0_189.out _) | exact HI0.out)), (by repeat (first | (with_reducible first | exact HK.out | apply qn0.set_ | apply qq0 | apply qs0 | apply qr0 | refine qg1 ?_ GW189.out _) | exact HK.out)), (by repeat (first | (with_reducible first | exact HB.out | apply qc0 | apply qa0 | apply qd0 | refine qi0 ?_ (IsS186.ge HI0.out) | refine qi0 ?_ GE189.out) | exact HB.out))⟩)
           ·skip
            rintro v184 w27 ⟨hS_, h0_, h1_, h2_, h3_, h4_, h5_⟩
            have n0_ : Aside0 (Kd.R (Kd.int .i64) 3 w27 w.heap.size (fun _ => True) v184 y183) := ⟨h0_⟩
            have n1_ : Aside0 (Kd.R Kd.string 9 w27 w.heap.size (fun _ => True) (.slice (some ad175) y163.length co21) y163) := ⟨h1_⟩
            have n2_ : Aside0 (Kd.R k35 35 w27 w.heap.size (fun _ => True) u4 x4_1) := ⟨h2_⟩
            have n3_ : Aside0 (IsS186 w0 w27 g s0_0 t177 t178) := ⟨h3_⟩
            have n4_ : Aside0 (qn0 w w27 g none) := ⟨h4_⟩
            have n5_ : Aside0 (Below w0.heap.size w0 w27) := ⟨h5_⟩
            clear HO_3
            clear HO_4
            clear HI0
            clear HK
            clear HB
            clear h0_ h1_ h2_ h3_ h4_ h5_
            have HO185 := n0_
            have HO_3 := n1_
            have HO_4 := n2_
            have HI0 := n3_
            have HK := n4_
            have HB := n5_
            clear n0_ n1_ n2_ n3_ n4_ n5_
            have hHeld : w27.cell? (ad175.add (t172).toNat) = some (.string (rdOf ByteArray.empty y163 t172)) ∧ w27.cell? (ad175.add ((ji14)).toNat) = some (.string (rdOf ByteArray.empty y163 (ji14))) := hS_
            refine norm_ (a' := ?_) ?_ ?_
            rotate_left
            ·simp only [qk1, Act.put, List.setIfInBounds_toArray, List.set_cons_zero, List.set_cons_succ]
             rfl
            refine two_ (i := 16) (j := 22) (Ni := some 36) (Nj := some 7) (rb4 [17, 1, 2, 4]) (rb4 [16, 2, 2, 2, 1, 1]) rfl rfl rfl rfl (two_of HT_.out (by kernel_rfl)) (by decide) (by decide) (fun K hK => ?_) (fun K hK => ?_)
            ·skip
             refine goes_ Try.func61 (by kernel_rfl) rfl #[.pointer (some ⟨g, 0, none⟩), .int .i64 12] (by rfl) rfl rfl (by (try simp only [List.map_toArray, List.map_cons, List.map_nil]); first | done | rfl | (simp only [List.length_drop, List.length_take]; rfl)) ?_
             with_reducible refine (spec_l1Below.calls g s0_0 t177 t178 12 t180 t181 t182 w0 _ ?side1 ?side2 A17.out).mono ?_
             (case side1 => repeat (first | (with_reducible first | exact HI0.out | apply IsS186.alloc | apply IsS186.drewN | apply IsS186.drew | apply IsS186.set_1 | apply IsS186.set_2) | exact HI0.out))
             (case side2 => repeat (first | (with_reducible first | exact HB.out | apply qc0 | apply qa0 | apply qd0 | refine qi0 ?_ (IsS186.ge HI0.out)) | exact HB.out))
             rintro e w28 ⟨rfl, hi, hb, hk⟩
             have HS0_ := qh1 hk (hHeld.1) (by first | (rw [add_block]; exact Kd.qt0 (IsS186.own_ne HI0.out HO_3.out (by decide))) | (show (Addr.add _ _).block ≠ _; rw [add_block]; exact Kd.qt0 (IsS186.own_ne HI0.out HO_3.out (by decide))) | exact Kd.qt0 (IsS186.own_ne HI0.out HO_3.out (by decide)) | (have b_ := Kd.qt0 (IsS186.own_ne HI0.out HO_3.out (by decide)); exact b_))
             have HS1_ := qh1 hk (hHeld.2) (by first | (rw [add_block]; exact Kd.qt0 (IsS186.own_ne HI0.out HO_3.out (by decide))) | (show (Addr.add _ _).block ≠ _; rw [add_block]; exact Kd.qt0 (IsS186.own_ne HI0.out HO_3.out (by decide))) | exact Kd.qt0 (IsS186.own_ne HI0.out HO_3.out (by decide)) | (have b_ := Kd.qt0 (IsS186.own_ne HI0.out HO_3.out (by decide)); exact b_))
             refine ⟨_, rfl, ?_⟩
             have n0_ := Aside0.mk (Kd.qz0 (Kd.ql1 (IsS186.apart (show IsS186 w0 _ g s0_0 t177 t178 from by repeat (first | (with_reducible first | exact HI0.out | apply IsS186.alloc | apply IsS186.drewN | apply IsS186.drew | apply IsS186.set_1 | apply IsS186.set_2) | exact HI0.out)) (by (with_reducible repeat (first | apply Kd.qk0 | apply Kd.qj0 | apply Kd.qm0)); exact HO_3.out) (by decide)) hk (fun _ h => h.2)) (fun _ h => h.1))
             have n1_ := Aside0.mk (Kd.qz0 (Kd.ql1 (IsS186.apart (show IsS186 w0 _ g s0_0 t177 t178 from by repeat (first | (with_reducible first | exact HI0.out | apply IsS186.alloc | apply IsS186.drewN | apply IsS186.drew | apply IsS186.set_1 | apply IsS186.set_2) | exact HI0.out)) (by (with_reducible repeat (first | apply Kd.qk0 | apply Kd.qj0 | apply Kd.qm0)); exact HO_4.out) (by decide)) hk (fun _ h => h.2)) (fun _ h => h.1))
             have n2_ := Aside0.mk (Kd.qz0 (Kd.ql1 (IsS186.apart (show IsS186 w0 _ g s0_0 t177 t178 from by repeat (first | (with_reducible first | exact HI0.out | apply IsS186.alloc | apply IsS186.drewN | apply IsS186.drew | apply IsS186.set_1 | apply IsS186.set_2) | exact HI0.out)) (by (with_reducible repeat (first | apply Kd.qk0 | apply Kd.qj0 | apply Kd.qm0)); exact HO185.out) (by decide)) hk (fun _ h => h.2)) (fun _ h => h.1))
             have n3_ := Aside0.mk (qn0.trans (by repeat (first | (with_reducible first | exact HK.out | apply qn0.set_ | apply qq0 | apply qs0 | apply qr0) | exact HK.out)) hk (.inl rfl))
             have n4_ := Aside0.mk (hb)
             have n5_ := Aside0.mk (hi)
             clear HO_3
             clear HO_4
             clear HO185
             clear HK
             clear HB
             clear HI0
             have HO_3 := n0_
             have HO_4 := n1_
             have HO185 := n2_
             have HK := n3_
             have HB := n4_
             have HI0 := n5_
             clear n0_ n1_ n2_ n3_ n4_ n5_
             (try clear hb)
             (try clear hb2)
             (try clear hk)
             (try clear hi)
             refine hK.out _ _ ⟨HS0_, HS1_⟩ (fun hHeld => ?_)
             clear hK K
             refine norm_ (a' := ?_) ?_ ?_
             rotate_left
             ·show Act.put _ (some 36) _ = _
              simp only [Act.put, List.setIfInBounds_toArray, List.set_cons_zero, List.set_cons_succ, i64_w, i32_w]
              rfl
             refine pure_ (i := 17) (N := some 37) (v := ?_) (a' := ?_) (rb4 [20, 4]) rfl rfl (qu1 HT_.out (by kernel_rfl)) (fun _ _ _ h => h) (Or.inl ⟨by rfl, ?_⟩) ?_ ?_
             rotate_left
             ·intro w'
              go_simp
              with_reducible rfl
             rotate_left
             ·simp only [Act.put, List.setIfInBounds_toArray, List.set_cons_zero, List.set_cons_succ, i64_w, i32_w]
              rfl
             exact norm_ (by first | (simp only [qk1, Act.put, List.setIfInBounds_toArray, List.set_cons_zero, List.set_cons_succ]; done) | (simp only [qk1, Act.put, List.setIfInBounds_toArray, List.set_cons_zero, List.set_cons_succ]; rfl)) (hJ8_16_19 (v184) _ ⟨hHeld, (by (with_reducible repeat (first | apply Kd.qk0 | apply Kd.qj0 | apply Kd.qm0)); exact HO185.out), (by (with_reducible repeat (first | apply Kd.qk0 | apply Kd.qj0 | apply Kd.qm0)); exact HO_3.out), (by (with_reducible repeat (first | apply Kd.qk0 | apply Kd.qj0 | apply Kd.qm0)); exact HO_4.out), (by repeat (first | (with_reducible first | exact HI0.out | apply IsS186.alloc | apply IsS186.drewN | apply IsS186.drew | apply IsS186.set_1 | apply IsS186.set_2) | exact HI0.out)), (by repeat (first | (with_reducible first | exact HK.out | apply qn0.set_ | apply qq0 | apply qs0 | apply qr0) | exact HK.out)), (by repeat (first | (with_reducible first | exact HB.out | apply qc0 | apply qa0 | apply qd0 | refine qi0 ?_ (IsS186.ge HI0.out)) | exact HB.out))⟩)
            ·skip
             refine box_step ?hg (N := 7) ?hd (cs := #[.string (⟨#[]⟩ : ByteArray), .string (⟨#[]⟩ : ByteArray), .int .i64 0, .int .i64 0]) (t := 35) ?hr ?_; (case hd => rfl); (case hg => rfl); (case hr => first | (go_simp; done) | (go_simp; rfl))
             intro gb189 hg w28 hbox hb
             have HS0_ := (hb.cell (World.block_lt_of_cell? _ _ (hHeld.1))).trans (hHeld.1)
             have HS1_ := (hb.cell (World.block_lt_of_cell? _ _ (hHeld.2))).trans (hHeld.2)
             have n0_ := Aside0.mk (Kd.qy0 (by (with_reducible repeat (first | apply Kd.qk0 | apply Kd.qj0 | apply Kd.qm0)); exact HO_3.out) hb)
             have n1_ := Aside0.mk (Kd.qy0 (Kd.R_elderB (by (with_reducible repeat (first | apply Kd.qk0 | apply Kd.qj0 | apply Kd.qm0)); exact HO_4.out) gb189 (Nat.le_of_eq hg.symm)) hb)
             have n2_ := Aside0.mk (Kd.qy0 (by (with_reducible repeat (first | apply Kd.qk0 | apply Kd.qj0 | apply Kd.qm0)); exact HO185.out) hb)
             have n3_ := Aside0.mk (IsS186.below (by repeat (first | (with_reducible first | exact HI0.out | apply IsS186.alloc | apply IsS186.drewN | apply IsS186.drew | apply IsS186.set_1 | apply IsS186.set_2) | exact HI0.out)) hb)
             have n4_ := Aside0.mk (qn0.trans (by repeat (first | (with_reducible first | exact HK.out | apply qn0.set_ | apply qq0 | apply qs0 | apply qr0) | exact HK.out)) (qn0.of_below hb g none) (.inl rfl))
             have n5_ := Aside0.mk (qo0 (by repeat (first | (with_reducible first | exact HB.out | apply qc0 | apply qa0 | apply qd0 | refine qi0 ?_ (IsS186.ge HI0.out)) | exact HB.out)) hb)
             have n6_ := Aside0.mk (hbox)
             have n7_ := Aside0.mk ((by rw [hg]; exact (qq1 (w := w) (g := g) (row := none) (by repeat (first | (with_reducible first | exact HK.out | apply qn0.set_ | apply qq0 | apply qs0 | apply qr0) | exact HK.out))) : w.heap.size ≤ gb189))
             have n8_ := Aside0.mk ((Nat.le_trans HW0.out (by rw [hg]; exact (qq1 (w := w) (g := g) (row := none) (by repeat (first | (with_reducible first | exact HK.out | apply qn0.set_ | apply qq0 | apply qs0 | apply qr0) | exact HK.out))) : w.heap.size ≤ gb189) : w0.heap.size ≤ gb189))
             have n9_ := Aside0.mk ((by rw [hg]; exact Nat.ne_of_lt (IsS186.lt (show IsS186 w0 _ g s0_0 t177 t178 from by repeat (first | (with_reducible first | exact HI0.out | apply IsS186.alloc | apply IsS186.drewN | apply IsS186.drew | apply IsS186.set_1 | apply IsS186.set_2) | exact HI0.out))) : g ≠ gb189))
             have n10_ := Aside0.mk ((by rw [hg]; exact Nat.ne_of_gt (IsS186.lt (show IsS186 w0 _ g s0_0 t177 t178 from by repeat (first | (with_reducible first | exact HI0.out | apply IsS186.alloc | apply IsS186.drewN | apply IsS186.drew | apply IsS186.set_1 | apply IsS186.set_2) | exact HI0.out))) : gb189 ≠ g))
             clear HO_3
             clear HO_4
             clear HO185
             clear HI0
             clear HK
             clear HB
             have HO_3 := n0_
             have HO_4 := n1_
             have HO185 := n2_
             have HI0 := n3_
             have HK := n4_
             have HB := n5_
             have BK189 := n6_
             have GW189 := n7_
             have GE189 := n8_
             have NB0_189 := n9_
             have NB189_0 := n10_
             clear n0_ n1_ n2_ n3_ n4_ n5_ n6_ n7_ n8_ n9_ n10_
             clear hb hbox hg
             refine hK.out _ _ ⟨HS0_, HS1_⟩ (fun hHeld => ?_)
             clear hK K
             refine norm_ (a' := ?_) ?_ ?_
             rotate_left
             ·show Act.put _ (some 7) _ = _
              simp only [Act.put, List.setIfInBounds_toArray, List.set_cons_zero, List.set_cons_succ, i64_w, i32_w]
              rfl
             exact norm_ (by first | (simp only [qk1, Act.put, List.setIfInBounds_toArray, List.set_cons_zero, List.set_cons_succ]; done) | (simp only [qk1, Act.put, List.setIfInBounds_toArray, List.set_cons_zero, List.set_cons_succ]; rfl)) (hJ8_19_22 (v184, gb189) _ ⟨hHeld, (by (with_reducible repeat (first | apply Kd.qk0 | apply Kd.qj0 | apply Kd.qm0)); exact HO185.out), (by (with_reducible repeat (first | apply Kd.qk0 | apply Kd.qj0 | apply Kd.qm0)); exact HO_3.out), (by (with_reducible repeat (first | apply Kd.qk0 | apply Kd.qj0 | apply Kd.qm0)); exact Kd.qz0 HO_4.out (fun _ hk => hk.2)), (by (with_reducible repeat (first | refine qe0 ?_ _ | refine qg0 ?_ | refine qf0 ?_ _)); exact BK189.out), GW189.out, GE189.out, NB0_189.out, NB189_0.out, (by repeat (first | (with_reducible first | exact HI0.out | apply IsS186.alloc | apply IsS186.drewN | apply IsS186.drew | apply IsS186.set_1 | apply IsS186.set_2 | refine IsS186.far ?_ NB0_189.out _) | exact HI0.out)), (by repeat (first | (with_reducible first | exact HK.out | apply qn0.set_ | apply qq0 | apply qs0 | apply qr0 | refine qg1 ?_ GW189.out _) | exact HK.out)), (by repeat (first | (with_reducible first | exact HB.out | apply qc0 | apply qa0 | apply qd0 | refine qi0 ?_ (IsS186.ge HI0.out) | refine qi0 ?_ GE189.out) | exact HB.out))⟩)
          ·skip
           rintro _ w26 ⟨hS_, h0_, h1_, h2_, h3_, h4_⟩
           have n0_ : Aside0 (Kd.R Kd.string 9 w26 w.heap.size (fun _ => True) (.slice (some ad175) y163.length co21) y163) := ⟨h0_⟩
           have n1_ : Aside0 (Kd.R k35 35 w26 w.heap.size (fun _ => True) u4 x4_1) := ⟨h1_⟩
           have n2_ : Aside0 (IsS186 w0 w26 g s0_0 t181 t182) := ⟨h2_⟩
           have n3_ : Aside0 (qn0 w w26 g none) := ⟨h3_⟩
           have n4_ : Aside0 (Below w0.heap.size w0 w26) := ⟨h4_⟩
           clear HO_3
           clear HO_4
           clear HI0
           clear HK
           clear HB
           clear h0_ h1_ h2_ h3_ h4_
           have HO_3 := n0_
           have HO_4 := n1_
           have HI0 := n2_
           have HK := n3_
           have HB := n4_
           clear n0_ n1_ n2_ n3_ n4_
           have hHeld : w26.cell? (ad175.add (t172).toNat) = some (.string (rdOf ByteArray.empty y163 t172)) ∧ w26.cell? (ad175.add ((ji14)).toNat) = some (.string (rdOf ByteArray.empty y163 (ji14))) := hS_
           refine norm_ (a' := ?_) ?_ ?_
           rotate_left
           ·simp only [qk1, Act.put, List.setIfInBounds_toArray, List.set_cons_zero, List.set_cons_succ]
            rfl
           refine two_ (i := 19) (j := 22) (Ni := some 39) (Nj := some 7) (rb4 [20, 4]) (rb4 [19, 3, 1, 1]) rfl rfl rfl rfl (two_of HT_.out (by kernel_rfl)) (by decide) (by decide) (fun K hK => ?_) (fun K hK => ?_)
           ·skip
            refine Kd.R_lit_step (Kd.int .i64) _ 3 ?hg (N := 39) ?hd (xs := ([1, 1, 2, 1000] : List Int)) (inner := [.int .i64 1, .int .i64 1, .int .i64 2, .int .i64 1000]) (ok := fun _ => True) (okp := fun _ => True) ?hr ?hp (fun _ hk => hk) trivial (Below.refl _ _) (Nat.le_refl _) (by simp) ?_; (case hd => rfl); (case hg => rfl); (case hr => first | (go_simp; done) | (go_simp; rfl)); (case hp => exact (Reps.one (show Kd.M (Kd.int .i64) _ _ _ 1 [.int .i64 1] from rfl) (Reps.one (show Kd.M (Kd.int .i64) _ _ _ 1 [.int .i64 1] from rfl) (Reps.one (show Kd.M (Kd.int .i64) _ _ _ 2 [.int .i64 2] from rfl) (Reps.one (show Kd.M (Kd.int .i64) _ _ _ 1000 [.int .i64 1000] from rfl) (Reps.none _ _))))))
            intro v184 w27 ho28 hb hg_ hnew_
            have HS0_ := (hb.cell (World.block_lt_of_cell? _ _ (hHeld.1))).trans (hHeld.1)
            have HS1_ := (hb.cell (World.block_lt_of_cell? _ _ (hHeld.2))).trans (hHeld.2)
            clear hg_ hnew_
            (first | rw [← Ny183.out] at ho28 | (simp only [Int.reduceToNat] at ho28; rw [← Ny183.out] at ho28))
            have n0_ := Aside0.mk (Kd.qy0 (by (with_reducible repeat (first | apply Kd.qk0 | apply Kd.qj0 | apply Kd.qm0)); exact HO_3.out) hb)
            have n1_ := Aside0.mk (Kd.qy0 (by (with_reducible repeat (first | apply Kd.qk0 | apply Kd.qj0 | apply Kd.qm0)); exact HO_4.out) hb)
            have n2_ := Aside0.mk (Kd.qp1 ho28 (qq1 (w := w) (g := g) (row := none) (by repeat (first | (with_reducible first | exact HK.out | apply qn0.set_ | apply qq0 | apply qs0 | apply qr0) | exact HK.out))))
            have n3_ := Aside0.mk (IsS186.below (by repeat (first | (with_reducible first | exact HI0.out | apply IsS186.alloc | apply IsS186.drewN | apply IsS186.drew | apply IsS186.set_1 | apply IsS186.set_2) | exact HI0.out)) hb)
            have n4_ := Aside0.mk (qn0.trans (by repeat (first | (with_reducible first | exact HK.out | apply qn0.set_ | apply qq0 | apply qs0 | apply qr0) | exact HK.out)) (qn0.of_below hb g none) (.inl rfl))
            have n5_ := Aside0.mk (qo0 (by repeat (first | (with_reducible first | exact HB.out | apply qc0 | apply qa0 | apply qd0 | refine qi0 ?_ (IsS186.ge HI0.out)) | exact HB.out)) hb)
            clear HO_3
            clear HO_4
            clear HI0
            clear HK
            clear HB
            have HO_3 := n0_
            have HO_4 := n1_
            have HO185 := n2_
            have HI0 := n3_
            have HK := n4_
            have HB := n5_
            clear n0_ n1_ n2_ n3_ n4_ n5_
            clear hb ho28
            refine hK.out _ _ ⟨HS0_, HS1_⟩ (fun hHeld => ?_)
            clear hK K
            refine norm_ (a' := ?_) ?_ ?_
            rotate_left
            ·show Act.put _ (some 39) _ = _
             simp only [Act.put, List.setIfInBounds_toArray, List.set_cons_zero, List.set_cons_succ, i64_w, i32_w]
             rfl
            exact norm_ (by first | (simp only [qk1, Act.put, List.setIfInBounds_toArray, List.set_cons_zero, List.set_cons_succ]; done) | (simp only [qk1, Act.put, List.setIfInBounds_toArray, List.set_cons_zero, List.set_cons_succ]; rfl)) (hJ8_16_19 (v184) _ ⟨hHeld, (by (with_reducible repeat (first | apply Kd.qk0 | apply Kd.qj0 | apply Kd.qm0)); exact HO185.out), (by (with_reducible repeat (first | apply Kd.qk0 | apply Kd.qj0 | apply Kd.qm0)); exact HO_3.out), (by (with_reducible repeat (first | apply Kd.qk0 | apply Kd.qj0 | apply Kd.qm0)); exact HO_4.out), (by repeat (first | (with_reducible first | exact HI0.out | apply IsS186.alloc | apply IsS186.drewN | apply IsS186.drew | apply IsS186.set_1 | apply IsS186.set_2) | exact HI0.out)), (by repeat (first | (with_reducible first | exact HK.out | apply qn0.set_ | apply qq0 | apply qs0 | apply qr0) | exact HK.out)), (by repeat (first | (with_reducible first | exact HB.out | apply qc0 | apply qa0 | apply qd0 | refine qi0 ?_ (IsS186.ge HI0.out)) | exact HB.out))⟩)
           ·skip
            refine box_step ?hg (N := 7) ?hd (cs := #[.string (⟨#[]⟩ : ByteArray), .string (⟨#[]⟩ : ByteArray), .int .i64 0, .int .i64 0]) (t := 35) ?hr ?_; (case hd => rfl); (case hg => rfl); (case hr => first | (go_simp; done) | (go_simp; rfl))
            intro gb189 hg w27 hbox hb
            have HS0_ := (hb.cell (World.block_lt_of_cell? _ _ (hHeld.1))).trans (hHeld.1)
            have HS1_ := (hb.cell (World.block_lt_of_cell? _ _ (hHeld.2))).trans (hHeld.2)
            have n0_ := Aside0.mk (Kd.qy0 (by (with_reducible repeat (first | apply Kd.qk0 | apply Kd.qj0 | apply Kd.qm0)); exact HO_3.out) hb)
            have n1_ := Aside0.mk (Kd.qy0 (Kd.R_elderB (by (with_reducible repeat (first | apply Kd.qk0 | apply Kd.qj0 | apply Kd.qm0)); exact HO_4.out) gb189 (Nat.le_of_eq hg.symm)) hb)
            have n2_ := Aside0.mk (IsS186.below (by repeat (first | (with_reducible first | exact HI0.out | apply IsS186.alloc | apply IsS186.drewN | apply IsS186.drew | apply IsS186.set_1 | apply IsS186.set_2) | exact HI0.out)) hb)
            have n3_ := Aside0.mk (qn0.trans (by repeat (first | (with_reducible first | exact HK.out | apply qn0.set_ | apply qq0 | apply qs0 | apply qr0) | exact HK.out)) (qn0.of_below hb g none) (.inl rfl))
            have n4_ := Aside0.mk (qo0 (by repeat (first | (with_reducible first | exact HB.out | apply qc0 | apply qa0 | apply qd0 | refine qi0 ?_ (IsS186.ge HI0.out)) | exact HB.out)) hb)
            have n5_ := Aside0.mk (hbox)
            have n6_ := Aside0.mk ((by rw [hg]; exact (qq1 (w := w) (g := g) (row := none) (by repeat (first | (with_reducible first | exact HK.out | apply qn0.set_ | apply qq0 | apply qs0 | apply qr0) | exact HK.out))) : w.heap.size ≤ gb189))
            have n7_ := Aside0.mk ((Nat.le_trans HW0.out (by rw [hg]; exact (qq1 (w := w) (g := g) (row := none) (by repeat (first | (with_reducible first | exact HK.out | apply qn0.set_ | apply qq0 | apply qs0 | apply qr0) | exact HK.out))) : w.heap.size ≤ gb189) : w0.heap.size ≤ gb189))
            have n8_ := Aside0.mk ((by rw [hg]; exact Nat.ne_of_lt (IsS186.lt (show IsS186 w0 _ g s0_0 t181 t182 from by repeat (first | (with_reducible first | exact HI0.out | apply IsS186.alloc | apply IsS186.drewN | apply IsS186.drew | apply IsS186.set_1 | apply IsS186.set_2) | exact HI0.out))) : g ≠ gb189))
            have n9_ := Aside0.mk ((by rw [hg]; exact Nat.ne_of_gt (IsS186.lt (show IsS186 w0 _ g s0_0 t181 t182 from by repeat (first | (with_reducible first | exact HI0.out | apply IsS186.alloc | apply IsS186.drewN | apply IsS186.drew | apply IsS186.set_1 | apply IsS186.set_2) | exact HI0.out))) : gb189 ≠ g))
            clear HO_3
            clear HO_4
            clear HI0
            clear HK
            clear HB
            have HO_3 := n0_
            have HO_4 := n1_
            have HI0 := n2_
            have HK := n3_
            have HB := n4_
            have BK189 := n5_
            have GW189 := n6_
            have GE189 := n7_
            have NB0_189 := n8_
            have NB189_0 := n9_
            clear n0_ n1_ n2_ n3_ n4_ n5_ n6_ n7_ n8_ n9_
            clear hb hbox hg
            refine hK.out _ _ ⟨HS0_, HS1_⟩ (fun hHeld => ?_)
            clear hK K
            refine norm_ (a' := ?_) ?_ ?_
            rotate_left
            ·show Act.put _ (some 7) _ = _
             simp only [Act.put, List.setIfInBounds_toArray, List.set_cons_zero, List.set_cons_succ, i64_w, i32_w]
             rfl
            exact norm_ (by first | (simp only [qk1, Act.put, List.setIfInBounds_toArray, List.set_cons_zero, List.set_cons_succ]; done) | (simp only [qk1, Act.put, List.setIfInBounds_toArray, List.set_cons_zero, List.set_cons_succ]; rfl)) (hJ8_16_22 (gb189) _ ⟨hHeld, (by (with_reducible repeat (first | apply Kd.qk0 | apply Kd.qj0 | apply Kd.qm0)); exact HO_3.out), (by (with_reducible repeat (first | apply Kd.qk0 | apply Kd.qj0 | apply Kd.qm0)); exact Kd.qz0 HO_4.out (fun _ hk => hk.2)), (by (with_reducible repeat (first | refine qe0 ?_ _ | refine qg0 ?_ | refine qf0 ?_ _)); exact BK189.out), GW189.out, GE189.out, NB0_189.out, NB189_0.out, (by repeat (first | (with_reducible first | exact HI0.out | apply IsS186.alloc | apply IsS186.drewN | apply IsS186.drew | apply IsS186.set_1 | apply IsS186.set_2 | refine IsS186.far ?_ NB0_189.out _) | exact HI0.out)), (by repeat (first | (with_reducible first | exact HK.out | apply qn0.set_ | apply qq0 | apply qs0 | apply qr0 | refine qg1 ?_ GW189.out _) | exact HK.out)), (by repeat (first | (with_reducible first | exact HB.out | apply qc0 | apply qa0 | apply qd0 | refine qi0 ?_ (IsS186.ge HI0.out) | refine qi0 ?_ GE189.out) | exact HB.out))⟩)
         ·skip
          rintro ⟨v184, gb189⟩ w28 ⟨hS_, h0_, h1_, h2_, h3_, h4_, h5_, h6_, h7_, h8_, h9_, h10_⟩
          have n0_ : Aside0 (Kd.R (Kd.int .i64) 3 w28 w.heap.size (fun _ => True) v184 y183) := ⟨h0_⟩
          have n1_ : Aside0 (Kd.R Kd.string 9 w28 w.heap.size (fun _ => True) (.slice (some ad175) y163.length co21) y163) := ⟨h1_⟩
          have n2_ : Aside0 (Kd.R k35 35 w28 w.heap.size (fun k_ => k_ ≠ gb189) u4 x4_1) := ⟨h2_⟩
          have n3_ : Aside0 (w28.heap[gb189]? = some (.cells #[.string (⟨#[]⟩ : ByteArray), .string (⟨#[]⟩ : ByteArray), .int .i64 0, .int .i64 0] 35 (0, 0))) := ⟨h3_⟩
          have n4_ : Aside0 (w.heap.size ≤ gb189) := ⟨h4_⟩
          have n5_ : Aside0 (w0.heap.size ≤ gb189) := ⟨h5_⟩
          have n6_ : Aside0 (g ≠ gb189) := ⟨h6_⟩
          have n7_ : Aside0 (gb189 ≠ g) := ⟨h7_⟩
          have n8_ : Aside0 (IsS186 w0 w28 g s0_0 t177 t178) := ⟨h8_⟩
          have n9_ : Aside0 (qn0 w w28 g none) := ⟨h9_⟩
          have n10_ : Aside0 (Below w0.heap.size w0 w28) := ⟨h10_⟩
          clear HO_3
          clear HO_4
          clear HI0
          clear HK
          clear HB
          clear h0_ h1_ h2_ h3_ h4_ h5_ h6_ h7_ h8_ h9_ h10_
          have HO185 := n0_
          have HO_3 := n1_
          have HO_4 := n2_
          have BK189 := n3_
          have GW189 := n4_
          have GE189 := n5_
          have NB0_189 := n6_
          have NB189_0 := n7_
          have HI0 := n8_
          have HK := n9_
          have HB := n10_
          clear n0_ n1_ n2_ n3_ n4_ n5_ n6_ n7_ n8_ n9_ n10_
          have hHeld : w28.cell? (ad175.add (t172).toNat) = some (.string (rdOf ByteArray.empty y163 t172)) ∧ w28.cell? (ad175.add ((ji14)).toNat) = some (.string (rdOf ByteArray.empty y163 (ji14))) := hS_
          refine norm_ (a' := ?_) ?_ ?_
          rotate_left
          ·simp only [qk1, Act.put, List.setIfInBounds_toArray, List.set_cons_zero, List.set_cons_succ]
           rfl
          refine one_ (i := 16) (N := some 36) (rb4 [17, 1, 2, 2, 1, 1]) rfl rfl (one_of HT_.out (by kernel_rfl)) (by decide) (fun K hK => ?_)
          refine goes_ Try.func61 (by kernel_rfl) rfl #[.pointer (some ⟨g, 0, none⟩), .int .i64 12] (by rfl) rfl rfl (by (try simp only [List.map_toArray, List.map_cons, List.map_nil]); first | done | rfl | (simp only [List.length_drop, List.length_take]; rfl)) ?_
          with_reducible refine (spec_l1Below.calls g s0_0 t177 t178 12 t180 t181 t182 w0 _ ?side1 ?side2 A17.out).mono ?_
          (case side1 => repeat (first | (with_reducible first | exact HI0.out | apply IsS186.alloc | apply IsS186.drewN | apply IsS186.drew | apply IsS186.set_1 | apply IsS186.set_2 | refine IsS186.far ?_ NB0_189.out _) | exact HI0.out))
          (case side2 => repeat (first | (with_reducible first | exact HB.out | apply qc0 | apply qa0 | apply qd0 | refine qi0 ?_ (IsS186.ge HI0.out) | refine qi0 ?_ GE189.out) | exact HB.out))
          rintro e w29 ⟨rfl, hi, hb, hk⟩
          have HS0_ := qh1 hk (hHeld.1) (by first | (rw [add_block]; exact Kd.qt0 (IsS186.own_ne HI0.out HO_3.out (by decide))) | (show (Addr.add _ _).block ≠ _; rw [add_block]; exact Kd.qt0 (IsS186.own_ne HI0.out HO_3.out (by decide))) | exact Kd.qt0 (IsS186.own_ne HI0.out HO_3.out (by decide)) | (have b_ := Kd.qt0 (IsS186.own_ne HI0.out HO_3.out (by decide)); exact b_))
          have HS1_ := qh1 hk (hHeld.2) (by first | (rw [add_block]; exact Kd.qt0 (IsS186.own_ne HI0.out HO_3.out (by decide))) | (show (Addr.add _ _).block ≠ _; rw [add_block]; exact Kd.qt0 (IsS186.own_ne HI0.out HO_3.out (by decide))) | exact Kd.qt0 (IsS186.own_ne HI0.out HO_3.out (by decide)) | (have b_ := Kd.qt0 (IsS186.own_ne HI0.out HO_3.out (by decide)); exact b_))
          refine ⟨_, rfl, ?_⟩
          have n0_ := Aside0.mk (Kd.qz0 (Kd.ql1 (IsS186.apart (show IsS186 w0 _ g s0_0 t177 t178 from by repeat (first | (with_reducible first | exact HI0.out | apply IsS186.alloc | apply IsS186.drewN | apply IsS186.drew | apply IsS186.set_1 | apply IsS186.set_2 | refine IsS186.far ?_ NB0_189.out _) | exact HI0.out)) (by (with_reducible repeat (first | apply Kd.qk0 | apply Kd.qj0 | apply Kd.qm0)); exact HO_3.out) (by decide)) hk (fun _ h => h.2)) (fun _ h => h.1))
          have n1_ := Aside0.mk (Kd.qz0 (Kd.ql1 (IsS186.apart (show IsS186 w0 _ g s0_0 t177 t178 from by repeat (first | (with_reducible first | exact HI0.out | apply IsS186.alloc | apply IsS186.drewN | apply IsS186.drew | apply IsS186.set_1 | apply IsS186.set_2 | refine IsS186.far ?_ NB0_189.out _) | exact HI0.out)) (by (with_reducible repeat (first | apply Kd.qk0 | apply Kd.qj0 | apply Kd.qm0)); exact HO_4.out) (by decide)) hk (fun _ h => h.2)) (fun _ h => h.1))
          have n2_ := Aside0.mk (Kd.qz0 (Kd.ql1 (IsS186.apart (show IsS186 w0 _ g s0_0 t177 t178 from by repeat (first | (with_reducible first | exact HI0.out | apply IsS186.alloc | apply IsS186.drewN | apply IsS186.drew | apply IsS186.set_1 | apply IsS186.set_2 | refine IsS186.far ?_ NB0_189.out _) | exact HI0.out)) (by (with_reducible repeat (first | apply Kd.qk0 | apply Kd.qj0 | apply Kd.qm0)); exact HO185.out) (by decide)) hk (fun _ h => h.2)) (fun _ h => h.1))
          have n3_ := Aside0.mk (qn0.blk hk (g' := gb189) (o := .cells #[.string (⟨#[]⟩ : ByteArray), .string (⟨#[]⟩ : ByteArray), .int .i64 0, .int .i64 0] 35 (0, 0)) (by (with_reducible repeat (first | refine qe0 ?_ _ | refine qg0 ?_ | refine qf0 ?_ _)); exact BK189.out) NB189_0.out (by simp))
          have n4_ := Aside0.mk (qn0.trans (by repeat (first | (with_reducible first | exact HK.out | apply qn0.set_ | apply qq0 | apply qs0 | apply qr0 | refine qg1 ?_ GW189.out _) | exact HK.out)) hk (.inl rfl))
          have n5_ := Aside0.mk (hb)
          have n6_ := Aside0.mk (hi)
          clear HO_3
          clear HO_4
          clear HO185
          clear BK189
          clear HK
          clear HB
          clear HI0
          have HO_3 := n0_
          have HO_4 := n1_
          have HO185 := n2_
          have BK189 := n3_
          have HK := n4_
          have HB := n5_
          have HI0 := n6_
          clear n0_ n1_ n2_ n3_ n4_ n5_ n6_
          (try clear hb)
          (try clear hb2)
          (try clear hk)
          (try clear hi)
          refine hK.out _ _ ⟨HS0_, HS1_⟩ (fun hHeld => ?_)
          clear hK K
          refine norm_ (a' := ?_) ?_ ?_
          rotate_left
          ·show Act.put _ (some 36) _ = _
           simp only [Act.put, List.setIfInBounds_toArray, List.set_cons_zero, List.set_cons_succ, i64_w, i32_w]
           rfl
          refine pure_ (i := 17) (N := some 37) (v := ?_) (a' := ?_) (rb4 [20, 2, 1, 1]) rfl rfl (qu1 HT_.out (by kernel_rfl)) (fun _ _ _ h => h) (Or.inl ⟨by rfl, ?_⟩) ?_ ?_
          rotate_left
          ·intro w'
           go_simp
           with_reducible rfl
          rotate_left
          ·simp only [Act.put, List.setIfInBounds_toArray, List.set_cons_zero, List.set_cons_succ, i64_w, i32_w]
           rfl
          exact norm_ (by first | (simp only [qk1, Act.put, List.setIfInBounds_toArray, List.set_cons_zero, List.set_cons_succ]; done) | (simp only [qk1, Act.put, List.setIfInBounds_toArray, List.set_cons_zero, List.set_cons_succ]; rfl)) (hJ8_16_19_22 (v184, gb189) _ ⟨hHeld, (by (with_reducible repeat (first | apply Kd.qk0 | apply Kd.qj0 | apply Kd.qm0)); exact HO185.out), (by (with_reducible repeat (first | apply Kd.qk0 | apply Kd.qj0 | apply Kd.qm0)); exact HO_3.out), (by (with_reducible repeat (first | apply Kd.qk0 | apply Kd.qj0 | apply Kd.qm0)); exact HO_4.out), (by (with_reducible repeat (first | refine qe0 ?_ _ | refine qg0 ?_ | refine qf0 ?_ _)); exact BK189.out), GW189.out, GE189.out, NB0_189.out, NB189_0.out, (by repeat (first | (with_reducible first | exact HI0.out | apply IsS186.alloc | apply IsS186.drewN | apply IsS186.drew | apply IsS186.set_1 | apply IsS186.set_2 | refine IsS186.far ?_ NB0_189.out _) | exact HI0.out)), (by repeat (first | (with_reducible first | exact HK.out | apply qn0.set_ | apply qq0 | apply qs0 | apply qr0 | refine qg1 ?_ GW189.out _) | exact HK.out)), (by repeat (first | (with_reducible first | exact HB.out | apply qc0 | apply qa0 | apply qd0 | refine qi0 ?_ (IsS186.ge HI0.out) | refine qi0 ?_ GE189.out) | exact HB.out))⟩)
        ·skip
         rintro gb189 w27 ⟨hS_, h0_, h1_, h2_, h3_, h4_, h5_, h6_, h7_, h8_, h9_⟩
         have n0_ : Aside0 (Kd.R Kd.string 9 w27 w.heap.size (fun _ => True) (.slice (some ad175) y163.length co21) y163) := ⟨h0_⟩
         have n1_ : Aside0 (Kd.R k35 35 w27 w.heap.size (fun k_ => k_ ≠ gb189) u4 x4_1) := ⟨h1_⟩
         have n2_ : Aside0 (w27.heap[gb189]? = some (.cells #[.string (⟨#[]⟩ : ByteArray), .string (⟨#[]⟩ : ByteArray), .int .i64 0, .int .i64 0] 35 (0, 0))) := ⟨h2_⟩
         have n3_ : Aside0 (w.heap.size ≤ gb189) := ⟨h3_⟩
         have n4_ : Aside0 (w0.heap.size ≤ gb189) := ⟨h4_⟩
         have n5_ : Aside0 (g ≠ gb189) := ⟨h5_⟩
         have n6_ : Aside0 (gb189 ≠ g) := ⟨h6_⟩
         have n7_ : Aside0 (IsS186 w0 w27 g s0_0 t181 t182) := ⟨h7_⟩
         have n8_ : Aside0 (qn0 w w27 g none) := ⟨h8_⟩
         have n9_ : Aside0 (Below w0.heap.size w0 w27) := ⟨h9_⟩
         clear HO_3
         clear HO_4
         clear HI0
         clear HK
         clear HB
         clear h0_ h1_ h2_ h3_ h4_ h5_ h6_ h7_ h8_ h9_
         have HO_3 := n0_
         have HO_4 := n1_
         have BK189 := n2_
         have GW189 := n3_
         have GE189 := n4_
         have NB0_189 := n5_
         have NB189_0 := n6_
         have HI0 := n7_
         have HK := n8_
         have HB := n9_
         clear n0_ n1_ n2_ n3_ n4_ n5_ n6_ n7_ n8_ n9_
         have hHeld : w27.cell? (ad175.add (t172).toNat) = some (.string (rdOf ByteArray.empty y163 t172)) ∧ w27.cell? (ad175.add ((ji14)).toNat) = some (.string (rdOf ByteArray.empty y163 (ji14))) := hS_
         refine norm_ (a' := ?_) ?_ ?_
         rotate_left
         ·simp only [qk1, Act.put, List.setIfInBounds_toArray, List.set_cons_zero, List.set_cons_succ]
          rfl
         refine one_ (i := 19) (N := some 39) (rb4 [20, 2, 1, 1]) rfl rfl (one_of HT_.out (by kernel_rfl)) (by decide) (fun K hK => ?_)
         refine Kd.R_lit_step (Kd.int .i64) _ 3 ?hg (N := 39) ?hd (xs := ([1, 1, 2, 1000] : List Int)) (inner := [.int .i64 1, .int .i64 1, .int .i64 2, .int .i64 1000]) (ok := fun _ => True) (okp := fun _ => True) ?hr ?hp (fun _ hk => hk) trivial (Below.refl _ _) (Nat.le_refl _) (by simp) ?_; (case hd => rfl); (case hg => rfl); (case hr => first | (go_simp; done) | (go_simp; rfl)); (case hp => exact (Reps.one (show Kd.M (Kd.int .i64) _ _ _ 1 [.int .i64 1] from rfl) (Reps.one (show Kd.M (Kd.int .i64) _ _ _ 1 [.int .i64 1] from rfl) (Reps.one (show Kd.M (Kd.int .i64) _ _ _ 2 [.int .i64 2] from rfl) (Reps.one (show Kd.M (Kd.int .i64) _ _ _ 1000 [.int .i64 1000] from rfl) (Reps.none _ _))))))
         intro v184 w28 ho29 hb hg_ hnew_
         have HS0_ := (hb.cell (World.block_lt_of_cell? _ _ (hHeld.1))).trans (hHeld.1)
         have HS1_ := (hb.cell (World.block_lt_of_cell? _ _ (hHeld.2))).trans (hHeld.2)
         clear hg_ hnew_
         (first | rw [← Ny183.out] at ho29 | (simp only [Int.reduceToNat] at ho29; rw [← Ny183.out] at ho29))
         have n0_ := Aside0.mk (Kd.qy0 (by (with_reducible repeat (first | apply Kd.qk0 | apply Kd.qj0 | apply Kd.qm0)); exact HO_3.out) hb)
         have n1_ := Aside0.mk (Kd.qy0 (by (with_reducible repeat (first | apply Kd.qk0 | apply Kd.qj0 | apply Kd.qm0)); exact HO_4.out) hb)
         have n2_ := Aside0.mk (Kd.qp1 ho29 (qq1 (w := w) (g := g) (row := none) (by repeat (first | (with_reducible first | exact HK.out | apply qn0.set_ | apply qq0 | apply qs0 | apply qr0 | refine qg1 ?_ GW189.out _) | exact HK.out))))
         have n3_ := Aside0.mk (IsS186.below (by repeat (first | (with_reducible first | exact HI0.out | apply IsS186.alloc | apply IsS186.drewN | apply IsS186.drew | apply IsS186.set_1 | apply IsS186.set_2 | refine IsS186.far ?_ NB0_189.out _) | exact HI0.out)) hb)
         have n4_ := Aside0.mk (qa1 (g := gb189) (o := .cells #[.string (⟨#[]⟩ : ByteArray), .string (⟨#[]⟩ : ByteArray), .int .i64 0, .int .i64 0] 35 (0, 0)) (by (with_reducible repeat (first | refine qe0 ?_ _ | refine qg0 ?_ | refine qf0 ?_ _)); exact BK189.out) hb)
         have n5_ := Aside0.mk (qn0.trans (by repeat (first | (with_reducible first | exact HK.out | apply qn0.set_ | apply qq0 | apply qs0 | apply qr0 | refine qg1 ?_ GW189.out _) | exact HK.out)) (qn0.of_below hb g none) (.inl rfl))
         have n6_ := Aside0.mk (qo0 (by repeat (first | (with_reducible first | exact HB.out | apply qc0 | apply qa0 | apply qd0 | refine qi0 ?_ (IsS186.ge HI0.out) | refine qi0 ?_ GE189.out) | exact HB.out)) hb)
         clear HO_3
         clear HO_4
         clear HI0
         clear BK189
         clear HK
         clear HB
         have HO_3 := n0_
         have HO_4 := n1_
         have HO185 := n2_
         have HI0 := n3_
         have BK189 := n4_
         have HK := n5_
         have HB := n6_
         clear n0_ n1_ n2_ n3_ n4_ n5_ n6_
         clear hb ho29
         refine hK.out _ _ ⟨HS0_, HS1_⟩ (fun hHeld => ?_)
         clear hK K
         refine norm_ (a' := ?_) ?_ ?_
         rotate_left
         ·show Act.put _ (some 39) _ = _
          simp only [Act.put, List.setIfInBounds_toArray, List.set_cons_zero, List.set_cons_succ, i64_w, i32_w]
          rfl
         exact norm_ (by first | (simp only [qk1, Act.put, List.setIfInBounds_toArray, List.set_cons_zero, List.set_cons_succ]; done) | (simp only [qk1, Act.put, List.setIfInBounds_toArray, List.set_cons_zero, List.set_cons_succ]; rfl)) (hJ8_16_19_22 (v184, gb189) _ ⟨hHeld, (by (with_reducible repeat (first | apply Kd.qk0 | apply Kd.qj0 | apply Kd.qm0)); exact HO185.out), (by (with_reducible repeat (first | apply Kd.qk0 | apply Kd.qj0 | apply Kd.qm0)); exact HO_3.out), (by (with_reducible repeat (first | apply Kd.qk0 | apply Kd.qj0 | apply Kd.qm0)); exact HO_4.out), (by (with_reducible repeat (first | refine qe0 ?_ _ | refine qg0 ?_ | refine qf0 ?_ _)); exact BK189.out), GW189.out, GE189.out, NB0_189.out, NB189_0.out, (by repeat (first | (with_reducible first | exact HI0.out | apply IsS186.alloc | apply IsS186.drewN | apply IsS186.drew | apply IsS186.set_1 | apply IsS186.set_2 | refine IsS186.far ?_ NB0_189.out _) | exact HI0.out)), (by repeat (first | (with_reducible first | exact HK.out | apply qn0.set_ | apply qq0 | apply qs0 | apply qr0 | refine qg1 ?_ GW189.out _) | exact HK.out)), (by repeat (first | (with_reducible first | exact HB.out | apply qc0 | apply qa0 | apply qd0 | refine qi0 ?_ (IsS186.ge HI0.out) | refine qi0 ?_ GE189.out) | exact HB.out))⟩)
       ·skip
        rintro v184 w28 ⟨hS_, h0_, h1_, h2_, h3_, h4_, h5_⟩
        have n0_ : Aside0 (Kd.R (Kd.int .i64) 3 w28 w.heap.size (fun _ => True) v184 y183) := ⟨h0_⟩
        have n1_ : Aside0 (Kd.R Kd.string 9 w28 w.heap.size (fun _ => True) (.slice (some ad175) y163.length co21) y163) := ⟨h1_⟩
        have n2_ : Aside0 (Kd.R k35 35 w28 w.heap.size (fun _ => True) u4 x4_1) := ⟨h2_⟩
        have n3_ : Aside0 (IsS186 w0 w28 g s0_0 t181 t182) := ⟨h3_⟩
        have n4_ : Aside0 (qn0 w w28 g none) := ⟨h4_⟩
        have n5_ : Aside0 (Below w0.heap.size w0 w28) := ⟨h5_⟩
        clear HO_3
        clear HO_4
        clear HI0
        clear HK
        clear HB
        clear h0_ h1_ h2_ h3_ h4_ h5_
        have HO185 := n0_
        have HO_3 := n1_
        have HO_4 := n2_
        have HI0 := n3_
        have HK := n4_
        have HB := n5_
        clear n0_ n1_ n2_ n3_ n4_ n5_
        have hHeld : w28.cell? (ad175.add (t172).toNat) = some (.string (rdOf ByteArray.empty y163 t172)) ∧ w28.cell? (ad175.add ((ji14)).toNat) = some (.string (rdOf ByteArray.empty y163 (ji14))) := hS_
        obtain ⟨Ao29, co29, eo29⟩ := Kd.qo1 HO185.out
        (first | subst eo29 | (injection eo29 with f1_ f2_ f3_; have f4_ := f1_.symm; have f5_ := f3_.symm; clear f1_ f2_ f3_; subst f4_; subst f5_))
        refine norm_ (a' := ?_) ?_ ?_
        rotate_left
        ·simp only [qk1, Act.put, List.setIfInBounds_toArray, List.set_cons_zero, List.set_cons_succ]
         rfl
        refine two_ (i := 20) (j := 22) (Ni := some 40) (Nj := some 7) (rb4 [21, 3]) (rb4 [20, 2, 1, 1]) rfl rfl rfl rfl (two_of HT_.out (by kernel_rfl)) (by decide) (by decide) (fun K hK => ?_) (fun K hK => ?_)
        ·skip
         refine goes_ Try.func64 (by kernel_rfl) rfl #[.pointer (some ⟨g, 0, none⟩), .slice Ao29 y183.length co29] (by rfl) rfl rfl (by (try simp only [List.map_toArray, List.map_cons, List.map_nil]); first | done | rfl | (simp only [List.length_drop, List.length_take]; rfl)) ?_
         with_reducible refine (spec_l1PickInt.calls g s0_0 t181 t182 _ _ y183 t186 t187 t188 w0 _ ?side1 ?side2 ?side3 ?side4 ?side5 A18.out).mono ?_
         (case side1 => repeat (first | (with_reducible first | exact HI0.out | apply IsS186.alloc | apply IsS186.drewN | apply IsS186.drew | apply IsS186.set_1 | apply IsS186.set_2) | exact HI0.out))
         (case side2 => repeat (first | (with_reducible first | exact HB.out | apply qc0 | apply qa0 | apply qd0 | refine qi0 ?_ (IsS186.ge HI0.out)) | exact HB.out))
         (case side3 => repeat (first | exact (Kd.R_reads' HO185.out).2.2 | (with_reducible refine Kd.qw1 ?_ _) | (with_reducible refine Kd.qv1 ?_ _) | (with_reducible refine Kd.qb2 ?_)))
         (case side4 => exact (Kd.R_reads' HO185.out).2.1)
         (case side5 => exact far_slice (IsS186.own_ne HI0.out HO185.out (by decide)))
         rintro e w30 ⟨rfl, hi, hb, hk⟩
         have HS0_ := qh1 hk (hHeld.1) (by first | (rw [add_block]; exact Kd.qt0 (IsS186.own_ne HI0.out HO_3.out (by decide))) | (show (Addr.add _ _).block ≠ _; rw [add_block]; exact Kd.qt0 (IsS186.own_ne HI0.out HO_3.out (by decide))) | exact Kd.qt0 (IsS186.own_ne HI0.out HO_3.out (by decide)) | (have b_ := Kd.qt0 (IsS186.own_ne HI0.out HO_3.out (by decide)); exact b_))
         have HS1_ := qh1 hk (hHeld.2) (by first | (rw [add_block]; exact Kd.qt0 (IsS186.own_ne HI0.out HO_3.out (by decide))) | (show (Addr.add _ _).block ≠ _; rw [add_block]; exact Kd.qt0 (IsS186.own_ne HI0.out HO_3.out (by decide))) | exact Kd.qt0 (IsS186.own_ne HI0.out HO_3.out (by decide)) | (have b_ := Kd.qt0 (IsS186.own_ne HI0.out HO_3.out (by decide)); exact b_))
         refine ⟨_, rfl, ?_⟩
         have n0_ := Aside0.mk (Kd.qz0 (Kd.ql1 (IsS186.apart (show IsS186 w0 _ g s0_0 t181 t182 from by repeat (first | (with_reducible first | exact HI0.out | apply IsS186.alloc | apply IsS186.drewN | apply IsS186.drew | apply IsS186.set_1 | apply IsS186.set_2) | exact HI0.out)) (by (with_reducible repeat (first | apply Kd.qk0 | apply Kd.qj0 | apply Kd.qm0)); exact HO_3.out) (by decide)) hk (fun _ h => h.2)) (fun _ h => h.1))
         have n1_ := Aside0.mk (Kd.qz0 (Kd.ql1 (IsS186.apart (show IsS186 w0 _ g s0_0 t181 t182 from by repeat (first | (with_reducible first | exact HI0.out | apply IsS186.alloc | apply IsS186.drewN | apply IsS186.drew | apply IsS186.set_1 | apply IsS186.set_2) | exact HI0.out)) (by (with_reducible repeat (first | apply Kd.qk0 | apply Kd.qj0 | apply Kd.qm0)); exact HO_4.out) (by decide)) hk (fun _ h => h.2)) (fun _ h => h.1))
         have n2_ := Aside0.mk (Kd.qz0 (Kd.ql1 (IsS186.apart (show IsS186 w0 _ g s0_0 t181 t182 from by repeat (first | (with_reducible first | exact HI0.out | apply IsS186.alloc | apply IsS186.drewN | apply IsS186.drew | apply IsS186.set_1 | apply IsS186.set_2) | exact HI0.out)) (by (with_reducible repeat (first | apply Kd.qk0 | apply Kd.qj0 | apply Kd.qm0)); exact HO185.out) (by decide)) hk (fun _ h => h.2)) (fun _ h => h.1))
         have n3_ := Aside0.mk (qn0.trans (by repeat (first | (with_reducible first | exact HK.out | apply qn0.set_ | apply qq0 | apply qs0 | apply qr0) | exact HK.out)) hk (.inl rfl))
         have n4_ := Aside0.mk (hb)
         have n5_ := Aside0.mk (hi)
         clear HO_3
         clear HO_4
         clear HO185
         clear HK
         clear HB
         clear HI0
         have HO_3 := n0_
         have HO_4 := n1_
         have HO185 := n2_
         have HK := n3_
         have HB := n4_
         have HI0 := n5_
         clear n0_ n1_ n2_ n3_ n4_ n5_
         (try clear hb)
         (try clear hb2)
         (try clear hk)
         (try clear hi)
         refine hK.out _ _ ⟨HS0_, HS1_⟩ (fun hHeld => ?_)
         clear hK K
         refine norm_ (a' := ?_) ?_ ?_
         rotate_left
         ·show Act.put _ (some 40) _ = _
          simp only [Act.put, List.setIfInBounds_toArray, List.set_cons_zero, List.set_cons_succ, i64_w, i32_w]
          rfl
         refine pure_ (i := 21) (N := some 41) (v := ?_) (a' := ?_) (rb4 [22, 2]) rfl rfl (qu1 HT_.out (by kernel_rfl)) (fun _ _ _ h => h) (Or.inl ⟨by rfl, ?_⟩) ?_ ?_
         rotate_left
         ·intro w'
          go_simp
          with_reducible rfl
         rotate_left
         ·simp only [Act.put, List.setIfInBounds_toArray, List.set_cons_zero, List.set_cons_succ, i64_w, i32_w]
          rfl
         exact norm_ (by first | (simp only [qk1, Act.put, List.setIfInBounds_toArray, List.set_cons_zero, List.set_cons_succ]; done) | (simp only [qk1, Act.put, List.setIfInBounds_toArray, List.set_cons_zero, List.set_cons_succ]; rfl)) (hJ8_16_19_20 (.slice Ao29 y183.length co29) _ ⟨hHeld, (by (with_reducible repeat (first | apply Kd.qk0 | apply Kd.qj0 | apply Kd.qm0)); exact HO185.out), (by (with_reducible repeat (first | apply Kd.qk0 | apply Kd.qj0 | apply Kd.qm0)); exact HO_3.out), (by (with_reducible repeat (first | apply Kd.qk0 | apply Kd.qj0 | apply Kd.qm0)); exact HO_4.out), (by repeat (first | (with_reducible first | exact HI0.out | apply IsS186.alloc | apply IsS186.drewN | apply IsS186.drew | apply IsS186.set_1 | apply IsS186.set_2) | exact HI0.out)), (by repeat (first | (with_reducible first | exact HK.out | apply qn0.set_ | apply qq0 | apply qs0 | apply qr0) | exact HK.out)), (by repeat (first | (with_reducible first | exact HB.out | apply qc0 | apply qa0 | apply qd0 | refine qi0 ?_ (IsS186.ge HI0.out)) | exact HB.out))⟩)
        ·skip
         refine box_step ?hg (N := 7) ?hd (cs := #[.string (⟨#[]⟩ : ByteArray), .string (⟨#[]⟩ : ByteArray), .int .i64 0, .int .i64 0]) (t := 35) ?hr ?_; (case hd => rfl); (case hg => rfl); (case hr => first | (go_simp; done) | (go_simp; rfl))
         intro gb189 hg w29 hbox hb
         have HS0_ := (hb.cell (World.block_lt_of_cell? _ _ (hHeld.1))).trans (hHeld.1)
         have HS1_ := (hb.cell (World.block_lt_of_cell? _ _ (hHeld.2))).trans (hHeld.2)
         have n0_ := Aside0.mk (Kd.qy0 (by (with_reducible repeat (first | apply Kd.qk0 | apply Kd.qj0 | apply Kd.qm0)); exact HO_3.out) hb)
         have n1_ := Aside0.mk (Kd.qy0 (Kd.R_elderB (by (with_reducible repeat (first | apply Kd.qk0 | apply Kd.qj0 | apply Kd.qm0)); exact HO_4.out) gb189 (Nat.le_of_eq hg.symm)) hb)
         have n2_ := Aside0.mk (Kd.qy0 (by (with_reducible repeat (first | apply Kd.qk0 | apply Kd.qj0 | apply Kd.qm0)); exact HO185.out) hb)
         have n3_ := Aside0.mk (IsS186.below (by repeat (first | (with_reducible first | exact HI0.out | apply IsS186.alloc | apply IsS186.drewN | apply IsS186.drew | apply IsS186.set_1 | apply IsS186.set_2) | exact HI0.out)) hb)
         have n4_ := Aside0.mk (qn0.trans (by repeat (first | (with_reducible first | exact HK.out | apply qn0.set_ | apply qq0 | apply qs0 | apply qr0) | exact HK.out)) (qn0.of_below hb g none) (.inl rfl))
         have n5_ := Aside0.mk (qo0 (by repeat (first | (with_reducible first | exact HB.out | apply qc0 | apply qa0 | apply qd0 | refine qi0 ?_ (IsS186.ge HI0.out)) | exact HB.out)) hb)
         have n6_ := Aside0.mk (hbox)
         have n7_ := Aside0.mk ((by rw [hg]; exact (qq1 (w := w) (g := g) (row := none) (by repeat (first | (with_reducible first | exact HK.out | apply qn0.set_ | apply qq0 | apply qs0 | apply qr0) | exact HK.out))) : w.heap.size ≤ gb189))
         have n8_ := Aside0.mk ((Nat.le_trans HW0.out (by rw [hg]; exact (qq1 (w := w) (g := g) (row := none) (by repeat (first | (with_reducible first | exact HK.out | apply qn0.set_ | apply qq0 | apply qs0 | apply qr0) | exact HK.out))) : w.heap.size ≤ gb189) : w0.heap.size ≤ gb189))
         have n9_ := Aside0.mk ((by rw [hg]; exact Nat.ne_of_lt (IsS186.lt (show IsS186 w0 _ g s0_0 t181 t182 from by repeat (first | (with_reducible first | exact HI0.out | apply IsS186.alloc | apply IsS186.drewN | apply IsS186.drew | apply IsS186.set_1 | apply IsS186.set_2) | exact HI0.out))) : g ≠ gb189))
         have n10_ := Aside0.mk ((by rw [hg]; exact Nat.ne_of_gt (IsS186.lt (show IsS186 w0 _ g s0_0 t181 t182 from by repeat (first | (with_reducible first | exact HI0.out | apply IsS186.alloc | apply IsS186.drewN | apply IsS186.drew | apply IsS186.set_1 | apply IsS186.set_2) | exact HI0.out))) : gb189 ≠ g))
         clear HO_3
         clear HO_4
         clear HO185
         clear HI0
         clear HK
         clear HB
         have HO_3 := n0_
         have HO_4 := n1_
         have HO185 := n2_
         have HI0 := n3_
         have HK := n4_
         have HB := n5_
         have BK189 := n6_
         have GW189 := n7_
         have GE189 := n8_
         have NB0_189 := n9_
         have NB189_0 := n10_
         clear n0_ n1_ n2_ n3_ n4_ n5_ n6_ n7_ n8_ n9_ n10_
         clear hb hbox hg
         refine hK.out _ _ ⟨HS0_, HS1_⟩ (fun hHeld => ?_)
         clear hK K
         refine norm_ (a' := ?_) ?_ ?_
         rotate_left
         ·show Act.put _ (some 7) _ = _
          simp only [Act.put, List.setIfInBounds_toArray, List.set_cons_zero, List.set_cons_succ, i64_w, i32_w]
          rfl
         exact norm_ (by first | (simp only [qk1, Act.put, List.setIfInBounds_toArray, List.set_cons_zero, List.set_cons_succ]; done) | (simp only [qk1, Act.put, List.setIfInBounds_toArray, List.set_cons_zero, List.set_cons_succ]; rfl)) (hJ8_16_19_22 ((.slice Ao29 y183.length co29), gb189) _ ⟨hHeld, (by (with_reducible repeat (first | apply Kd.qk0 | apply Kd.qj0 | apply Kd.qm0)); exact HO185.out), (by (with_reducible repeat (first | apply Kd.qk0 | apply Kd.qj0 | apply Kd.qm0)); exact HO_3.out), (by (with_reducible repeat (first | apply Kd.qk0 | apply Kd.qj0 | apply Kd.qm0)); exact Kd.qz0 HO_4.out (fun _ hk => hk.2)), (by (with_reducible repeat (first | refine qe0 ?_ _ | refine qg0 ?_ | refine qf0 ?_ _)); exact BK189.out), GW189.out, GE189.out, NB0_189.out, NB189_0.out, (by repeat (first | (with_reducible first | exact HI0.out | apply IsS186.alloc | apply IsS186.drewN | apply IsS186.drew | apply IsS186.set_1 | apply IsS186.set_2 | refine IsS186.far ?_ NB0_189.out _) | exact HI0.out)), (by repeat (first | (with_reducible first | exact HK.out | apply qn0.set_ | apply qq0 | apply qs0 | apply qr0 | refine qg1 ?_ GW189.out _) | exact HK.out)), (by repeat (first | (with_reducible first | exact HB.out | apply qc0 | apply qa0 | apply qd0 | refine qi0 ?_ (IsS186.ge HI0.out) | refine qi0 ?_ GE189.out) | exact HB.out))⟩)
      ·skip
       rintro ⟨v184, gb189⟩ w29 ⟨hS_, h0_, h1_, h2_, h3_, h4_, h5_, h6_, h7_, h8_, h9_, h10_⟩
       have n0_ : Aside0 (Kd.R (Kd.int .i64) 3 w29 w.heap.size (fun _ => True) v184 y183) := ⟨h0_⟩
       have n1_ : Aside0 (Kd.R Kd.string 9 w29 w.heap.size (fun _ => True) (.slice (some ad175) y163.length co21) y163) := ⟨h1_⟩
       have n2_ : Aside0 (Kd.R k35 35 w29 w.heap.size (fun k_ => k_ ≠ gb189) u4 x4_1) := ⟨h2_⟩
       have n3_ : Aside0 (w29.heap[gb189]? = some (.cells #[.string (⟨#[]⟩ : ByteArray), .string (⟨#[]⟩ : ByteArray), .int .i64 0, .int .i64 0] 35 (0, 0))) := ⟨h3_⟩
       have n4_ : Aside0 (w.heap.size ≤ gb189) := ⟨h4_⟩
       have n5_ : Aside0 (w0.heap.size ≤ gb189) := ⟨h5_⟩
       have n6_ : Aside0 (g ≠ gb189) := ⟨h6_⟩
       have n7_ : Aside0 (gb189 ≠ g) := ⟨h7_⟩
       have n8_ : Aside0 (IsS186 w0 w29 g s0_0 t181 t182) := ⟨h8_⟩
       have n9_ : Aside0 (qn0 w w29 g none) := ⟨h9_⟩
       have n10_ : Aside0 (Below w0.heap.size w0 w29) := ⟨h10_⟩
       clear HO_3
       clear HO_4
       clear HI0
       clear HK
       clear HB
       clear h0_ h1_ h2_ h3_ h4_ h5_ h6_ h7_ h8_ h9_ h10_
       have HO185 := n0_
       have HO_3 := n1_
       have HO_4 := n2_
       have BK189 := n3_
       have GW189 := n4_
       have GE189 := n5_
       have NB0_189 := n6_
       have NB189_0 := n7_
       have HI0 := n8_
       have HK := n9_
       have HB := n10_
       clear n0_ n1_ n2_ n3_ n4_ n5_ n6_ n7_ n8_ n9_ n10_
       have hHeld : w29.cell? (ad175.add (t172).toNat) = some (.string (rdOf ByteArray.empty y163 t172)) ∧ w29.cell? (ad175.add ((ji14)).toNat) = some (.string (rdOf ByteArray.empty y163 (ji14))) := hS_
       obtain ⟨Ao30, co30, eo30⟩ := Kd.qo1 HO185.out
       (first | subst eo30 | (injection eo30 with f1_ f2_ f3_; have f4_ := f1_.symm; have f5_ := f3_.symm; clear f1_ f2_ f3_; subst f4_; subst f5_))
       refine norm_ (a' := ?_) ?_ ?_
       rotate_left
       ·simp only [qk1, Act.put, List.setIfInBounds_toArray, List.set_cons_zero, List.set_cons_succ]
        rfl
       refine one_ (i := 20) (N := some 40) (rb4 [21, 1, 1, 1]) rfl rfl (one_of HT_.out (by kernel_rfl)) (by decide) (fun K hK => ?_)
       refine goes_ Try.func64 (by kernel_rfl) rfl #[.pointer (some ⟨g, 0, none⟩), .slice Ao30 y183.length co30] (by rfl) rfl rfl (by (try simp only [List.map_toArray, List.map_cons, List.map_nil]); first | done | rfl | (simp only [List.length_drop, List.length_take]; rfl)) ?_
       with_reducible refine (spec_l1PickInt.calls g s0_0 t181 t182 _ _ y183 t186 t187 t188 w0 _ ?side1 ?side2 ?side3 ?side4 ?side5 A18.out).mono ?_
       (case side1 => repeat (first | (with_reducible first | exact HI0.out | apply IsS186.alloc | apply IsS186.drewN | apply IsS186.drew | apply IsS186.set_1 | apply IsS186.set_2 | refine IsS186.far ?_ NB0_189.out _) | exact HI0.out))
       (case side2 => repeat (first | (with_reducible first | exact HB.out | apply qc0 | apply qa0 | apply qd0 | refine qi0 ?_ (IsS186.ge HI0.out) | refine qi0 ?_ GE189.out) | exact HB.out))
       (case side3 => repeat (first | exact (Kd.R_reads' HO185.out).2.2 | (with_reducible refine Kd.qw1 ?_ _) | (with_reducible refine Kd.qv1 ?_ _) | (with_reducible refine Kd.qb2 ?_)))
       (case side4 => exact (Kd.R_reads' HO185.out).2.1)
       (case side5 => exact far_slice (IsS186.own_ne HI0.out HO185.out (by decide)))
       rintro e w31 ⟨rfl, hi, hb, hk⟩
       have HS0_ := qh1 hk (hHeld.1) (by first | (rw [add_block]; exact Kd.qt0 (IsS186.own_ne HI0.out HO_3.out (by decide))) | (show (Addr.add _ _).block ≠ _; rw [add_block]; exact Kd.qt0 (IsS186.own_ne HI0.out HO_3.out (by decide))) | exact Kd.qt0 (IsS186.own_ne HI0.out HO_3.out (by decide)) | (have b_ := Kd.qt0 (IsS186.own_ne HI0.out HO_3.out (by decide)); exact b_))
       have HS1_ := qh1 hk (hHeld.2) (by first | (rw [add_block]; exact Kd.qt0 (IsS186.own_ne HI0.out HO_3.out (by decide))) | (show (Addr.add _ _).block ≠ _; rw [add_block]; exact Kd.qt0 (IsS186.own_ne HI0.out HO_3.out (by decide))) | exact Kd.qt0 (IsS186.own_ne HI0.out HO_3.out (by decide)) | (have b_ := Kd.qt0 (IsS186.own_ne HI0.out HO_3.out (by decide)); exact b_))
       refine ⟨_, rfl, ?_⟩
       have n0_ := Aside0.mk (Kd.qz0 (Kd.ql1 (IsS186.apart (show IsS186 w0 _ g s0_0 t181 t182 from by repeat (first | (with_reducible first | exact HI0.out | apply IsS186.alloc | apply IsS186.drewN | apply IsS186.drew | apply IsS186.set_1 | apply IsS186.set_2 | refine IsS186.far ?_ NB0_189.out _) | exact HI0.out)) (by (with_reducible repeat (first | apply Kd.qk0 | apply Kd.qj0 | apply Kd.qm0)); exact HO_3.out) (by decide)) hk (fun _ h => h.2)) (fun _ h => h.1))
       have n1_ := Aside0.mk (Kd.qz0 (Kd.ql1 (IsS186.apart (show IsS186 w0 _ g s0_0 t181 t182 from by repeat (first | (with_reducible first | exact HI0.out | apply IsS186.alloc | apply IsS186.drewN | apply IsS186.drew | apply IsS186.set_1 | apply IsS186.set_2 | refine IsS186.far ?_ NB0_189.out _) | exact HI0.out)) (by (with_reducible repeat (first | apply Kd.qk0 | apply Kd.qj0 | apply Kd.qm0)); exact HO_4.out) (by decide)) hk (fun _ h => h.2)) (fun _ h => h.1))
       have n2_ := Aside0.mk (Kd.qz0 (Kd.ql1 (IsS186.apart (show IsS186 w0 _ g s0_0 t181 t182 from by repeat (first | (with_reducible first | exact HI0.out | apply IsS186.alloc | apply IsS186.drewN | apply IsS186.drew | apply IsS186.set_1 | apply IsS186.set_2 | refine IsS186.far ?_ NB0_189.out _) | exact HI0.out)) (by (with_reducible repeat (first | apply Kd.qk0 | apply Kd.qj0 | apply Kd.qm0)); exact HO185.out) (by decide)) hk (fun _ h => h.2)) (fun _ h => h.1))
       have n3_ := Aside0.mk (qn0.blk hk (g' := gb189) (o := .cells #[.string (⟨#[]⟩ : ByteArray), .string (⟨#[]⟩ : ByteArray), .int .i64 0, .int .i64 0] 35 (0, 0)) (by (with_reducible repeat (first | refine qe0 ?_ _ | refine qg0 ?_ | refine qf0 ?_ _)); exact BK189.out) NB189_0.out (by simp))
       have n4_ := Aside0.mk (qn0.trans (by repeat (first | (with_reducible first | exact HK.out | apply qn0.set_ | apply qq0 | apply qs0 | apply qr0 | refine qg1 ?_ GW189.out _) | exact HK.out)) hk (.inl rfl))
       have n5_ := Aside0.mk (hb)
       have n6_ := Aside0.mk (hi)
       clear HO_3
       clear HO_4
       clear HO185
       clear BK189
       clear HK
       clear HB
       clear HI0
       have HO_3 := n0_
       have HO_4 := n1_
       have HO185 := n2_
       have BK189 := n3_
       have HK := n4_
       have HB := n5_
       have HI0 := n6_
       clear n0_ n1_ n2_ n3_ n4_ n5_ n6_
       (try clear hb)
       (try clear hb2)
       (try clear hk)
       (try clear hi)
       refine hK.out _ _ ⟨HS0_, HS1_⟩ (fun hHeld => ?_)
       clear hK K
       refine norm_ (a' := ?_) ?_ ?_
       rotate_left
       ·show Act.put _ (some 40) _ = _
        simp only [Act.put, List.setIfInBounds_toArray, List.set_cons_zero, List.set_cons_succ, i64_w, i32_w]
        rfl
       refine pure_ (i := 21) (N := some 41) (v := ?_) (a' := ?_) (rb4 [23, 1]) rfl rfl (qu1 HT_.out (by kernel_rfl)) (fun _ _ _ h => h) (Or.inl ⟨by rfl, ?_⟩) ?_ ?_
       rotate_left
       ·intro w'
        go_simp
        with_reducible rfl
       rotate_left
       ·simp only [Act.put, List.setIfInBounds_toArray, List.set_cons_zero, List.set_cons_succ, i64_w, i32_w]
        rfl
       exact norm_ (by first | (simp only [qk1, Act.put, List.setIfInBounds_toArray, List.set_cons_zero, List.set_cons_succ]; done) | (simp only [qk1, Act.put, List.setIfInBounds_toArray, List.set_cons_zero, List.set_cons_succ]; rfl)) (hJ8_16_19_20_22 (.slice Ao30 y183.length co30, gb189) _ ⟨hHeld, (by (with_reducible repeat (first | apply Kd.qk0 | apply Kd.qj0 | apply Kd.qm0)); exact HO185.out), (by (with_reducible repeat (first | apply Kd.qk0 | apply Kd.qj0 | apply Kd.qm0)); exact HO_3.out), (by (with_reducible repeat (first | apply Kd.qk0 | apply Kd.qj0 | apply Kd.qm0)); exact HO_4.out), (by (with_reducible repeat (first | refine qe0 ?_ _ | refine qg0 ?_ | refine qf0 ?_ _)); exact BK189.out), GW189.out, GE189.out, NB0_189.out, NB189_0.out, (by repeat (first | (with_reducible first | exact HI0.out | apply IsS186.alloc | apply IsS186.drewN | apply IsS186.drew | apply IsS186.set_1 | apply IsS186.set_2 | refine IsS186.far ?_ NB0_189.out _) | exact HI0.out)), (by repeat (first | (with_reducible first | exact HK.out | apply qn0.set_ | apply qq0 | apply qs0 | apply qr0 | refine qg1 ?_ GW189.out _) | exact HK.out)), (by repeat (first | (with_reducible first | exact HB.out | apply qc0 | apply qa0 | apply qd0 | refine qi0 ?_ (IsS186.ge HI0.out) | refine qi0 ?_ GE189.out) | exact HB.out))⟩)
     ·skip
      rintro v184 w30 ⟨hS_, h0_, h1_, h2_, h3_, h4_, h5_⟩
      have n0_ : Aside0 (Kd.R (Kd.int .i64) 3 w30 w.heap.size (fun _ => True) v184 y183) := ⟨h0_⟩
      have n1_ : Aside0 (Kd.R Kd.string 9 w30 w.heap.size (fun _ => True) (.slice (some ad175) y163.length co21) y163) := ⟨h1_⟩
      have n2_ : Aside0 (Kd.R k35 35 w30 w.heap.size (fun _ => True) u4 x4_1) := ⟨h2_⟩
      have n3_ : Aside0 (IsS186 w0 w30 g s0_0 t187 t188) := ⟨h3_⟩
      have n4_ : Aside0 (qn0 w w30 g none) := ⟨h4_⟩
      have n5_ : Aside0 (Below w0.heap.size w0 w30) := ⟨h5_⟩
      clear HO_3
      clear HO_4
      clear HI0
      clear HK
      clear HB
      clear h0_ h1_ h2_ h3_ h4_ h5_
      have HO185 := n0_
      have HO_3 := n1_
      have HO_4 := n2_
      have HI0 := n3_
      have HK := n4_
      have HB := n5_
      clear n0_ n1_ n2_ n3_ n4_ n5_
      have hHeld : w30.cell? (ad175.add (t172).toNat) = some (.string (rdOf ByteArray.empty y163 t172)) ∧ w30.cell? (ad175.add ((ji14)).toNat) = some (.string (rdOf ByteArray.empty y163 (ji14))) := hS_
      refine norm_ (a' := ?_) ?_ ?_
      rotate_left
      ·simp only [qk1, Act.put, List.setIfInBounds_toArray, List.set_cons_zero, List.set_cons_succ]
       rfl
      refine one_ (i := 22) (N := some 7) (rb4 [23, 1]) rfl rfl (one_of HT_.out (by kernel_rfl)) (by decide) (fun K hK => ?_)
      refine box_step ?hg (N := 7) ?hd (cs := #[.string (⟨#[]⟩ : ByteArray), .string (⟨#[]⟩ : ByteArray), .int .i64 0, .int .i64 0]) (t := 35) ?hr ?_; (case hd => rfl); (case hg => rfl); (case hr => first | (go_simp; done) | (go_simp; rfl))
      intro gb189 hg w31 hbox hb
      have HS0_ := (hb.cell (World.block_lt_of_cell? _ _ (hHeld.1))).trans (hHeld.1)
      have HS1_ := (hb.cell (World.block_lt_of_cell? _ _ (hHeld.2))).trans (hHeld.2)
      have n0_ := Aside0.mk (Kd.qy0 (by (with_reducible repeat (first | apply Kd.qk0 | apply Kd.qj0 | apply Kd.qm0)); exact HO_3.out) hb)
      have n1_ := Aside0.mk (Kd.qy0 (Kd.R_elderB (by (with_reducible repeat (first | apply Kd.qk0 | apply Kd.qj0 | apply Kd.qm0)); exact HO_4.out) gb189 (Nat.le_of_eq hg.symm)) hb)
      have n2_ := Aside0.mk (Kd.qy0 (by (with_reducible repeat (first | apply Kd.qk0 | apply Kd.qj0 | apply Kd.qm0)); exact HO185.out) hb)
      have n3_ := Aside0.mk (IsS186.below (by repeat (first | (with_reducible first | exact HI0.out | apply IsS186.alloc | apply IsS186.drewN | apply IsS186.drew | apply IsS186.set_1 | apply IsS186.set_2) | exact HI0.out)) hb)
      have n4_ := Aside0.mk (qn0.trans (by repeat (first | (with_reducible first | exact HK.out | apply qn0.set_ | apply qq0 | apply qs0 | apply qr0) | exact HK.out)) (qn0.of_below hb g none) (.inl rfl))
      have n5_ := Aside0.mk (qo0 (by repeat (first | (with_reducible first | exact HB.out | apply qc0 | apply qa0 | apply qd0 | refine qi0 ?_ (IsS186.ge HI0.out)) | exact HB.out)) hb)
      have n6_ := Aside0.mk (hbox)
      have n7_ := Aside0.mk ((by rw [hg]; exact (qq1 (w := w) (g := g) (row := none) (by repeat (first | (with_reducible first | exact HK.out | apply qn0.set_ | apply qq0 | apply qs0 | apply qr0) | exact HK.out))) : w.heap.size ≤ gb189))
      have n8_ := Aside0.mk ((Nat.le_trans HW0.out (by rw [hg]; exact (qq1 (w := w) (g := g) (row := none) (by repeat (first | (with_reducible first | exact HK.out | apply qn0.set_ | apply qq0 | apply qs0 | apply qr0) | exact HK.out))) : w.heap.size ≤ gb189) : w0.heap.size ≤ gb189))
      have n9_ := Aside0.mk ((by rw [hg]; exact Nat.ne_of_lt (IsS186.lt (show IsS186 w0 _ g s0_0 t187 t188 from by repeat (first | (with_reducible first | exact HI0.out | apply IsS186.alloc | apply IsS186.drewN | apply IsS186.drew | apply IsS186.set_1 | apply IsS186.set_2) | exact HI0.out))) : g ≠ gb189))
      have n10_ := Aside0.mk ((by rw [hg]; exact Nat.ne_of_gt (IsS186.lt (show IsS186 w0 _ g s0_0 t187 t188 from by repeat (first | (with_reducible first | exact HI0.out | apply IsS186.alloc | apply IsS186.drewN | apply IsS186.drew | apply IsS186.set_1 | apply IsS186.set_2) | exact HI0.out))) : gb189 ≠ g))
      clear HO_3
      clear HO_4
      clear HO185
      clear HI0
      clear HK
      clear HB
      have HO_3 := n0_
      have HO_4 := n1_
      have HO185 := n2_
      have HI0 := n3_
      have HK := n4_
      have HB := n5_
      have BK189 := n6_
      have GW189 := n7_
      have GE189 := n8_
      have NB0_189 := n9_
      have NB189_0 := n10_
      clear n0_ n1_ n2_ n3_ n4_ n5_ n6_ n7_ n8_ n9_ n10_
      clear hb hbox hg
      refine hK.out _ _ ⟨HS0_, HS1_⟩ (fun hHeld => ?_)
      clear hK K
      refine norm_ (a' := ?_) ?_ ?_
      rotate_left
      ·show Act.put _ (some 7) _ = _
       simp only [Act.put, List.setIfInBounds_toArray, List.set_cons_zero, List.set_cons_succ, i64_w, i32_w]
       rfl
      exact norm_ (by first | (simp only [qk1, Act.put, List.setIfInBounds_toArray, List.set_cons_zero, List.set_cons_succ]; done) | (simp only [qk1, Act.put, List.setIfInBounds_toArray, List.set_cons_zero, List.set_cons_succ]; rfl)) (hJ8_16_19_20_22 (v184, gb189) _ ⟨hHeld, (by (with_reducible repeat (first | apply Kd.qk0 | apply Kd.qj0 | apply Kd.qm0)); exact HO185.out), (by (with_reducible repeat (first | apply Kd.qk0 | apply Kd.qj0 | apply Kd.qm0)); exact HO_3.out), (by (with_reducible repeat (first | apply Kd.qk0 | apply Kd.qj0 | apply Kd.qm0)); exact Kd.qz0 HO_4.out (fun _ hk => hk.2)), (by (with_reducible repeat (first | refine qe0 ?_ _ | refine qg0 ?_ | refine qf0 ?_ _)); exact BK189.out), GW189.out, GE189.out, NB0_189.out, NB189_0.out, (by repeat (first | (with_reducible first | exact HI0.out | apply IsS186.alloc | apply IsS186.drewN | apply IsS186.drew | apply IsS186.set_1 | apply IsS186.set_2 | refine IsS186.far ?_ NB0_189.out _) | exact HI0.out)), (by repeat (first | (with_reducible first | exact HK.out | apply qn0.set_ | apply qq0 | apply qs0 | apply qr0 | refine qg1 ?_ GW189.out _) | exact HK.out)), (by repeat (first | (with_reducible first | exact HB.out | apply qc0 | apply qa0 | apply qd0 | refine qi0 ?_ (IsS186.ge HI0.out) | refine qi0 ?_ GE189.out) | exact HB.out))⟩)
    rintro ⟨v184, gb189⟩ w31 ⟨hS_, h0_, h1_, h2_, h3_, h4_, h5_, h6_, h7_, h8_, h9_, h10_⟩
    have n0_ : Aside0 (Kd.R (Kd.int .i64) 3 w31 w.heap.size (fun _ => True) v184 y183) := ⟨h0_⟩
    have n1_ : Aside0 (Kd.R Kd.string 9 w31 w.heap.size (fun _ => True) (.slice (some ad175) y163.length co21) y163) := ⟨h1_⟩
    have n2_ : Aside0 (Kd.R k35 35 w31 w.heap.size (fun k_ => k_ ≠ gb189) u4 x4_1) := ⟨h2_⟩
    have n3_ : Aside0 (w31.heap[gb189]? = some (.cells #[.string (⟨#[]⟩ : ByteArray), .string (⟨#[]⟩ : ByteArray), .int .i64 0, .int .i64 0] 35 (0, 0))) := ⟨h3_⟩
    have n4_ : Aside0 (w.heap.size ≤ gb189) := ⟨h4_⟩
    have n5_ : Aside0 (w0.heap.size ≤ gb189) := ⟨h5_⟩
    have n6_ : Aside0 (g ≠ gb189) := ⟨h6_⟩
    have n7_ : Aside0 (gb189 ≠ g) := ⟨h7_⟩
    have n8_ : Aside0 (IsS186 w0 w31 g s0_0 t187 t188) := ⟨h8_⟩
    have n9_ : Aside0 (qn0 w w31 g none) := ⟨h9_⟩
    have n10_ : Aside0 (Below w0.heap.size w0 w31) := ⟨h10_⟩
    clear HO_3
    clear HO_4
    clear HI0
    clear HK
    clear HB
    clear h0_ h1_ h2_ h3_ h4_ h5_ h6_ h7_ h8_ h9_ h10_
    have HO185 := n0_
    have HO_3 := n1_
    have HO_4 := n2_
    have BK189 := n3_
    have GW189 := n4_
    have GE189 := n5_
    have NB0_189 := n6_
    have NB189_0 := n7_
    have HI0 := n8_
    have HK := n9_
    have HB := n10_
    clear n0_ n1_ n2_ n3_ n4_ n5_ n6_ n7_ n8_ n9_ n10_
    have hHeld : w31.cell? (ad175.add (t172).toNat) = some (.string (rdOf ByteArray.empty y163 t172)) ∧ w31.cell? (ad175.add ((ji14)).toNat) = some (.string (rdOf ByteArray.empty y163 (ji14))) := hS_
    refine norm_ (a' := ?_) ?_ ?_
    rotate_left
    ·simp only [qk1, Act.put, List.setIfInBounds_toArray, List.set_cons_zero, List.set_cons_succ]
     rfl
    refine one_ (i := 23) (N := none) (rb4 [24]) rfl rfl (one_of HT_.out (by kernel_rfl)) (by decide) (fun K hK => ?_)
    have hs32 : w31.cell? ⟨gb189, 0, none⟩ = some (.string (⟨#[]⟩ : ByteArray)) := (qh0 BK189.out 0).trans rfl
    have hfs32 := qb0 BK189.out 0
    have hs33 : w31.cell? ⟨gb189, 1, none⟩ = some (.string (⟨#[]⟩ : ByteArray)) := (qh0 BK189.out 1).trans rfl
    have hfs33 := qb0 BK189.out 1
    have hs34 : w31.cell? ⟨gb189, 2, none⟩ = some (.int .i64 0) := (qh0 BK189.out 2).trans rfl
    have hfs34 := qb0 BK189.out 2
    have hs35 : w31.cell? ⟨gb189, 3, none⟩ = some (.int .i64 0) := (qh0 BK189.out 3).trans rfl
    have hfs35 := qb0 BK189.out 3
    refine skip_ (w1 := ?_) (by rfl) rfl ?_ ?_
    rotate_left
    ·go_simp
     rfl
    refine hK.out _ _ ⟨((cell_far (p := ⟨gb189, _, none⟩) (by first | exact Kd.qt0 (Kd.R_ne HO_3.out BK189.out (by decide)) | (rw [add_block]; exact Kd.qt0 (Kd.R_ne HO_3.out BK189.out (by decide))) | (show (Addr.add _ _).block ≠ _; rw [add_block]; exact Kd.qt0 (Kd.R_ne HO_3.out BK189.out (by decide))) | (dsimp only; exact Kd.qt0 (Kd.R_ne HO_3.out BK189.out (by decide)))) _).trans (((cell_far (p := ⟨gb189, _, none⟩) (by first | exact Kd.qt0 (Kd.R_ne HO_3.out BK189.out (by decide)) | (rw [add_block]; exact Kd.qt0 (Kd.R_ne HO_3.out BK189.out (by decide))) | (show (Addr.add _ _).block ≠ _; rw [add_block]; exact Kd.qt0 (Kd.R_ne HO_3.out BK189.out (by decide))) | (dsimp only; exact Kd.qt0 (Kd.R_ne HO_3.out BK189.out (by decide)))) _).trans (((cell_far (p := ⟨gb189, _, none⟩) (by first | exact Kd.qt0 (Kd.R_ne HO_3.out BK189.out (by decide)) | (rw [add_block]; exact Kd.qt0 (Kd.R_ne HO_3.out BK189.out (by decide))) | (show (Addr.add _ _).block ≠ _; rw [add_block]; exact Kd.qt0 (Kd.R_ne HO_3.out BK189.out (by decide))) | (dsimp only; exact Kd.qt0 (Kd.R_ne HO_3.out BK189.out (by decide)))) _).trans (((cell_far (p := ⟨gb189, _, none⟩) (by first | exact Kd.qt0 (Kd.R_ne HO_3.out BK189.out (by decide)) | (rw [add_block]; exact Kd.qt0 (Kd.R_ne HO_3.out BK189.out (by decide))) | (show (Addr.add _ _).block ≠ _; rw [add_block]; exact Kd.qt0 (Kd.R_ne HO_3.out BK189.out (by decide))) | (dsimp only; exact Kd.qt0 (Kd.R_ne HO_3.out BK189.out (by decide)))) _).trans (hHeld.1)))))))), ((cell_far (p := ⟨gb189, _, none⟩) (by first | exact Kd.qt0 (Kd.R_ne HO_3.out BK189.out (by decide)) | (rw [add_block]; exact Kd.qt0 (Kd.R_ne HO_3.out BK189.out (by decide))) | (show (Addr.add _ _).block ≠ _; rw [add_block]; exact Kd.qt0 (Kd.R_ne HO_3.out BK189.out (by decide))) | (dsimp only; exact Kd.qt0 (Kd.R_ne HO_3.out BK189.out (by decide)))) _).trans (((cell_far (p := ⟨gb189, _, none⟩) (by first | exact Kd.qt0 (Kd.R_ne HO_3.out BK189.out (by decide)) | (rw [add_block]; exact Kd.qt0 (Kd.R_ne HO_3.out BK189.out (by decide))) | (show (Addr.add _ _).block ≠ _; rw [add_block]; exact Kd.qt0 (Kd.R_ne HO_3.out BK189.out (by decide))) | (dsimp only; exact Kd.qt0 (Kd.R_ne HO_3.out BK189.out (by decide)))) _).trans (((cell_far (p := ⟨gb189, _, none⟩) (by first | exact Kd.qt0 (Kd.R_ne HO_3.out BK189.out (by decide)) | (rw [add_block]; exact Kd.qt0 (Kd.R_ne HO_3.out BK189.out (by decide))) | (show (Addr.add _ _).block ≠ _; rw [add_block]; exact Kd.qt0 (Kd.R_ne HO_3.out BK189.out (by decide))) | (dsimp only; exact Kd.qt0 (Kd.R_ne HO_3.out BK189.out (by decide)))) _).trans (((cell_far (p := ⟨gb189, _, none⟩) (by first | exact Kd.qt0 (Kd.R_ne HO_3.out BK189.out (by decide)) | (rw [add_block]; exact Kd.qt0 (Kd.R_ne HO_3.out BK189.out (by decide))) | (show (Addr.add _ _).block ≠ _; rw [add_block]; exact Kd.qt0 (Kd.R_ne HO_3.out BK189.out (by decide))) | (dsimp only; exact Kd.qt0 (Kd.R_ne HO_3.out BK189.out (by decide)))) _).trans (hHeld.2))))))))⟩ (fun hHeld => ?_)
    clear hK K
    refine done_ (done_of HT_.out (by kernel_rfl)) ?_
    go_upto_if 43 with (first | ((with_reducible refine qw0 (f := 63) rfl ?_); refine qn1 (some 43) rfl rfl Try.func63 (by kernel_rfl) rfl #[.pointer (some ⟨g, 0, none⟩), .int .i64 30] rfl (by (try simp only [List.map_toArray, List.map_cons, List.map_nil]); first | done | rfl | (simp only [List.length_drop, List.length_take]; rfl)) ?_; (with_reducible refine (spec_l1Once.calls g s0_0 t187 t188 30 t190 t191 t192 w0 _ ?side1 ?side2 A19.out).mono ?_); (case side1 => repeat (first | (with_reducible first | exact HI0.out | apply IsS186.alloc | apply IsS186.drewN | apply IsS186.drew | apply IsS186.set_1 | apply IsS186.set_2 | refine IsS186.far ?_ NB0_189.out _) | exact HI0.out)); (case side2 => repeat (first | (with_reducible first | exact HB.out | apply qc0 | apply qa0 | apply qd0 | refine qi0 ?_ (IsS186.ge HI0.out) | refine qi0 ?_ GE189.out) | exact HB.out)); rintro e w36 ⟨rfl, hi, hb, hk⟩; refine ⟨_, rfl, ?_⟩; have n0_ := Aside0.mk (Kd.qz0 (Kd.ql1 (IsS186.apart (show IsS186 w0 _ g s0_0 t187 t188 from by repeat (first | (with_reducible first | exact HI0.out | apply IsS186.alloc | apply IsS186.drewN | apply IsS186.drew | apply IsS186.set_1 | apply IsS186.set_2 | refine IsS186.far ?_ NB0_189.out _) | exact HI0.out)) (by (with_reducible repeat (first | apply Kd.qk0 | apply Kd.qj0 | apply Kd.qm0)); exact (Kd.qz0 (Kd.R_far (p := ⟨gb189, 3, none⟩) (Kd.R_far (p := ⟨gb189, 2, none⟩) (Kd.R_far (p := ⟨gb189, 1, none⟩) (Kd.R_far (p := ⟨gb189, 0, none⟩) (Kd.R_types HO_3.out BK189.out (by decide)) (fun _ hk => hk.2) (.string (rdOf ByteArray.empty y163 t172))) (fun _ hk => hk.2) (.string (rdOf ByteArray.empty y163 (ji14)))) (fun _ hk => hk.2) (.int .i64 (wrap64 (1 + t180)))) (fun _ hk => hk.2) (.int .i64 t186)) (fun _ h_ => h_.1))) (by decide)) hk (fun _ h => h.2)) (fun _ h => h.1)); have n1_ := Aside0.mk (Kd.qz0 (Kd.ql1 (IsS186.apart (show IsS186 w0 _ g s0_0 t187 t188 from by repeat (first | (with_reducible first | exact HI0.out | apply IsS186.alloc | apply IsS186.drewN | apply IsS186.drew | apply IsS186.set_1 | apply IsS186.set_2 | refine IsS186.far ?_ NB0_189.out _) | exact HI0.out)) (by (with_reducible repeat (first | apply Kd.qk0 | apply Kd.qj0 | apply Kd.qm0)); exact (Kd.qz0 (Kd.R_far (p := ⟨gb189, 3, none⟩) (Kd.R_far (p := ⟨gb189, 2, none⟩) (Kd.R_far (p := ⟨gb189, 1, none⟩) (Kd.R_far (p := ⟨gb189, 0, none⟩) (Kd.qz0 HO_4.out (fun k_ hk => (⟨hk, hk⟩ : _ ∧ k_ ≠ gb189))) (fun _ hk => hk.2) (.string (rdOf ByteArray.empty y163 t172))) (fun _ hk => hk.2) (.string (rdOf ByteArray.empty y163 (ji14)))) (fun _ hk => hk.2) (.int .i64 (wrap64 (1 + t180)))) (fun _ hk => hk.2) (.int .i64 t186)) (fun _ h_ => h_.1))) (by decide)) hk (fun _ h => h.2)) (fun _ h => h.1)); have n2_ := Aside0.mk (Kd.qz0 (Kd.ql1 (IsS186.apart (show IsS186 w0 _ g s0_0 t187 t188 from by repeat (first | (with_reducible first | exact HI0.out | apply IsS186.alloc | apply IsS186.drewN | apply IsS186.drew | apply IsS186.set_1 | apply IsS186.set_2 | refine IsS186.far ?_ NB0_189.out _) | exact HI0.out)) (by (with_reducible repeat (first | apply Kd.qk0 | apply Kd.qj0 | apply Kd.qm0)); exact (Kd.qz0 (Kd.R_far (p := ⟨gb189, 3, none⟩) (Kd.R_far (p := ⟨gb189, 2, none⟩) (Kd.R_far (p := ⟨gb189, 1, none⟩) (Kd.R_far (p := ⟨gb189, 0, none⟩) (Kd.R_types HO185.out BK189.out (by decide)) (fun _ hk => hk.2) (.string (rdOf ByteArray.empty y163 t172))) (fun _ hk => hk.2) (.string (rdOf ByteArray.empty y163 (ji14)))) (fun _ hk => hk.2) (.int .i64 (wrap64 (1 + t180)))) (fun _ hk => hk.2) (.int .i64 t186)) (fun _ h_ => h_.1))) (by decide)) hk (fun _ h => h.2)) (fun _ h => h.1)); have n3_ := Aside0.mk (qn0.blk hk (g' := gb189) (o := .cells #[.string (rdOf ByteArray.empty y163 t172), .string (rdOf ByteArray.empty y163 (ji14)), .int .i64 (wrap64 (1 + t180)), .int .i64 t186] 35 (0, 0)) (by (with_reducible repeat (first | refine qe0 ?_ _ | refine qg0 ?_ | refine qf0 ?_ _)); refine qp0 (cs := #[.string (rdOf ByteArray.empty y163 t172), .string (rdOf ByteArray.empty y163 (ji14)), .int .i64 (wrap64 (1 + t180)), .int .i64 0]) ?_ 3 _ rfl; (with_reducible repeat (first | refine qe0 ?_ _ | refine qg0 ?_ | refine qf0 ?_ _)); refine qp0 (cs := #[.string (rdOf ByteArray.empty y163 t172), .string (rdOf ByteArray.empty y163 (ji14)), .int .i64 0, .int .i64 0]) ?_ 2 _ rfl; (with_reducible repeat (first | refine qe0 ?_ _ | refine qg0 ?_ | refine qf0 ?_ _)); refine qp0 (cs := #[.string (rdOf ByteArray.empty y163 t172), .string (⟨#[]⟩ : ByteArray), .int .i64 0, .int .i64 0]) ?_ 1 _ rfl; (with_reducible repeat (first | refine qe0 ?_ _ | refine qg0 ?_ | refine qf0 ?_ _)); refine qp0 (cs := #[.string (⟨#[]⟩ : ByteArray), .string (⟨#[]⟩ : ByteArray), .int .i64 0, .int .i64 0]) ?_ 0 _ rfl; (with_reducible repeat (first | refine qe0 ?_ _ | refine qg0 ?_ | refine qf0 ?_ _)); exact BK189.out) NB189_0.out (by simp)); have n4_ := Aside0.mk (qn0.trans (by repeat (first | (with_reducible first | exact HK.out | apply qn0.set_ | apply qq0 | apply qs0 | apply qr0 | refine qg1 ?_ GW189.out _) | exact HK.out)) hk (.inl rfl)); have n5_ := Aside0.mk (hb); have n6_ := Aside0.mk (hi); clear HO_3; clear HO_4; clear HO185; clear BK189; clear HK; clear HB; clear HI0; have HO_3 := n0_; have HO_4 := n1_; have HO185 := n2_; have BK189 := n3_; have HK := n4_; have HB := n5_; have HI0 := n6_; clear n0_ n1_ n2_ n3_ n4_ n5_ n6_; (try clear hb); (try clear hb2); (try clear hk); (try clear hi)))
    (try simp only [Act.put, List.setIfInBounds_toArray, List.set_cons_zero, List.set_cons_succ])
    go_cut [] (fun wc => ∃ (kq : Nat) (x1001_19 : Int) (x1002_19 : Int) (x190002_19 : Int), Aside0 (spec_l15DrawConvs.j1 kq y163 x4_1 x5_1 s0_0 x1001_19 x1002_19 (rdOf ByteArray.empty y163 t172) (rdOf ByteArray.empty y163 (ji14)) x190002_19 t186 = some (r1, r2, r3)) ∧ Aside0 (kq ≤ k1) ∧ Aside0 (Kd.R Kd.string 9 wc w.heap.size (fun _ => True) (.slice (some ad175) y163.length co21) y163) ∧ Aside0 (Kd.R k35 35 wc w.heap.size (fun k_ => k_ ≠ gb189) u4 x4_1) ∧ Aside0 (wc.heap[gb189]? = some (.cells #[.string (rdOf ByteArray.empty y163 t172), .string (rdOf ByteArray.empty y163 (ji14)), .int .i64 x190002_19, .int .i64 t186] 35 (0, 0))) ∧ Aside0 (IsS186 w0 wc g s0_0 x1001_19 x1002_19) ∧ Aside0 (qn0 w wc g none) ∧ Aside0 (Below w0.heap.size w0 wc))
    case first =>
     have H := HC20.out
     clear HC20
     by_cases c37 : t190 = true
     ·subst c37
      have H1 : ((spec_l1PickInt.f s0_0 t191 t192 (([0, 10000, 10001] : List Int))).bind fun bt196 => (spec_l15DrawConvs.j1 k1 y163 x4_1 x5_1 s0_0 bt196.2.1 bt196.2.2 (rdOf ByteArray.empty y163 t172) (rdOf ByteArray.empty y163 (ji14)) bt196.1 t186)) = some (r1, r2, r3) := by rw [if_pos rfl] at H; exact H
      clear H
      have H := H1
      clear H1
      obtain ⟨y193, hy193⟩ : ∃ y_ : List Int, y_ = (([0, 10000, 10001] : List Int)) := ⟨_, rfl⟩
      replace H : ((spec_l1PickInt.f s0_0 t191 t192 y193).bind fun bt196 => (spec_l15DrawConvs.j1 k1 y163 x4_1 x5_1 s0_0 bt196.2.1 bt196.2.2 (rdOf ByteArray.empty y163 t172) (rdOf ByteArray.empty y163 (ji14)) bt196.1 t186)) = some (r1, r2, r3) := by first | (rw [hy193]; with_reducible exact H) | (have H2_ := (Option.bind_some _ _).symm.trans H; rw [hy193]; with_reducible exact H2_) | (have H2_ := (Option.bind_some _ _).symm.trans H; with_reducible exact H2_) | with_reducible exact H | (rw [hy193]; exact H) | exact H
      have Ny193 := Aside0.mk hy193
      clear hy193
      replace H := Option.bind_eq_some_iff.mp H
      obtain ⟨⟨t196, t197, t198⟩, A380, H⟩ := H
      replace H : (spec_l15DrawConvs.j1 k1 y163 x4_1 x5_1 s0_0 t197 t198 (rdOf ByteArray.empty y163 t172) (rdOf ByteArray.empty y163 (ji14)) t196 t186) = some (r1, r2, r3) := H
      have A38 := Aside0.mk A380
      clear A380
      have H' := Aside0.mk H
      clear H
      go_wp2_with (first | ((with_reducible refine qv0 (N := 45) rfl ?_); refine Kd.R_lit (Kd.int .i64) _ 3 ?hg (N := 45) ?hd (xs := ([0, 10000, 10001] : List Int)) (inner := [.int .i64 0, .int .i64 10000, .int .i64 10001]) (ok := fun _ => True) (okp := fun _ => True) ?hr ?hp (fun _ hk => hk) trivial (Below.refl _ _) (Nat.le_refl _) (by simp) ?_; (case hd => rfl); (case hg => rfl); (case hr => first | (go_simp; done) | (go_simp; rfl)); (case hp => exact (Reps.one (show Kd.M (Kd.int .i64) _ _ _ 0 [.int .i64 0] from rfl) (Reps.one (show Kd.M (Kd.int .i64) _ _ _ 10000 [.int .i64 10000] from rfl) (Reps.one (show Kd.M (Kd.int .i64) _ _ _ 10001 [.int .i64 10001] from rfl) (Reps.none _ _))))); intro v194 w39 ho40 hb hg_ hnew_; clear hg_ hnew_; (first | rw [← Ny193.out] at ho40 | (simp only [Int.reduceToNat] at ho40; rw [← Ny193.out] at ho40)); have n0_ := Aside0.mk (Kd.qy0 (by (with_reducible repeat (first | apply Kd.qk0 | apply Kd.qj0 | apply Kd.qm0)); exact HO_3.out) hb); have n1_ := Aside0.mk (Kd.qy0 (by (with_reducible repeat (first | apply Kd.qk0 | apply Kd.qj0 | apply Kd.qm0)); exact HO_4.out) hb); have n2_ := Aside0.mk (Kd.qm1 (by (with_reducible repeat (first | apply Kd.qk0 | apply Kd.qj0 | apply Kd.qm0)); exact HO185.out) (Kd.qz1 ho40) hb); have n3_ := Aside0.mk (Kd.qp1 (Kd.qy1 ho40 (Kd.R_lt (by (with_reducible repeat (first | apply Kd.qk0 | apply Kd.qj0 | apply Kd.qm0)); exact HO185.out))) (qq1 (w := w) (g := g) (row := none) (by repeat (first | (with_reducible first | exact HK.out | apply qn0.set_ | apply qq0 | apply qs0 | apply qr0 | refine qg1 ?_ GW189.out _) | exact HK.out)))); have n4_ := Aside0.mk (IsS186.below (by repeat (first | (with_reducible first | exact HI0.out | apply IsS186.alloc | apply IsS186.drewN | apply IsS186.drew | apply IsS186.set_1 | apply IsS186.set_2 | refine IsS186.far ?_ NB0_189.out _) | exact HI0.out)) hb); have n5_ := Aside0.mk (qa1 (g := gb189) (o := .cells #[.string (rdOf ByteArray.empty y163 t172), .string (rdOf ByteArray.empty y163 (ji14)), .int .i64 (wrap64 (1 + t180)), .int .i64 t186] 35 (0, 0)) (by (with_reducible repeat (first | refine qe0 ?_ _ | refine qg0 ?_ | refine qf0 ?_ _)); exact BK189.out) hb); have n6_ := Aside0.mk (qn0.trans (by repeat (first | (with_reducible first | exact HK.out | apply qn0.set_ | apply qq0 | apply qs0 | apply qr0 | refine qg1 ?_ GW189.out _) | exact HK.out)) (qn0.of_below hb g none) (.inl rfl)); have n7_ := Aside0.mk (qo0 (by repeat (first | (with_reducible first | exact HB.out | apply qc0 | apply qa0 | apply qd0 | refine qi0 ?_ (IsS186.ge HI0.out) | refine qi0 ?_ GE189.out) | exact HB.out)) hb); clear HO_3; clear HO_4; clear HO185; clear HI0; clear BK189; clear HK; clear HB; have HO_3 := n0_; have HO_4 := n1_; have HO185 := n2_; have HO195 := n3_; have HI0 := n4_; have BK189 := n5_; have HK := n6_; have HB := n7_; clear n0_ n1_ n2_ n3_ n4_ n5_ n6_ n7_; clear hb ho40; obtain ⟨Ao41, co41, eo41⟩ := Kd.qo1 HO195.out; subst eo41) | ((with_reducible refine qw0 (f := 64) rfl ?_); refine qn1 (some 46) rfl rfl Try.func64 (by kernel_rfl) rfl #[.pointer (some ⟨g, 0, none⟩), .slice Ao41 y193.length co41] rfl (by (try simp only [List.map_toArray, List.map_cons, List.map_nil]); first | done | rfl | (simp only [List.length_drop, List.length_take]; rfl)) ?_; (with_reducible refine (spec_l1PickInt.calls g s0_0 t191 t192 _ _ y193 t196 t197 t198 w0 _ ?side1 ?side2 ?side3 ?side4 ?side5 A38.out).mono ?_); (case side1 => repeat (first | (with_reducible first | exact HI0.out | apply IsS186.alloc | apply IsS186.drewN | apply IsS186.drew | apply IsS186.set_1 | apply IsS186.set_2 | refine IsS186.far ?_ NB0_189.out _) | exact HI0.out)); (case side2 => repeat (first | (with_reducible first | exact HB.out | apply qc0 | apply qa0 | apply qd0 | refine qi0 ?_ (IsS186.ge HI0.out) | refine qi0 ?_ GE189.out) | exact HB.out)); (case side3 => repeat (first | exact (Kd.R_reads' HO195.out).2.2 | (with_reducible refine Kd.qw1 ?_ _) | (with_reducible refine Kd.qv1 ?_ _) | (with_reducible refine Kd.qb2 ?_))); (case side4 => exact (Kd.R_reads' HO195.out).2.1); (case side5 => exact far_slice (IsS186.own_ne HI0.out HO195.out (by decide))); rintro e w42 ⟨rfl, hi, hb, hk⟩; refine ⟨_, rfl, ?_⟩; have n0_ := Aside0.mk (Kd.qz0 (Kd.ql1 (IsS186.apart (show IsS186 w0 _ g s0_0 t191 t192 from by repeat (first | (with_reducible first | exact HI0.out | apply IsS186.alloc | apply IsS186.drewN | apply IsS186.drew | apply IsS186.set_1 | apply IsS186.set_2 | refine IsS186.far ?_ NB0_189.out _) | exact HI0.out)) (by (with_reducible repeat (first | apply Kd.qk0 | apply Kd.qj0 | apply Kd.qm0)); exact HO_3.out) (by decide)) hk (fun _ h => h.2)) (fun _ h => h.1)); have n1_ := Aside0.mk (Kd.qz0 (Kd.ql1 (IsS186.apart (show IsS186 w0 _ g s0_0 t191 t192 from by repeat (first | (with_reducible first | exact HI0.out | apply IsS186.alloc | apply IsS186.drewN | apply IsS186.drew | apply IsS186.set_1 | apply IsS186.set_2 | refine IsS186.far ?_ NB0_189.out _) | exact HI0.out)) (by (with_reducible repeat (first | apply Kd.qk0 | apply Kd.qj0 | apply Kd.qm0)); exact HO_4.out) (by decide)) hk (fun _ h => h.2)) (fun _ h => h.1)); have n2_ := Aside0.mk (Kd.qz0 (Kd.ql1 (IsS186.apart (show IsS186 w0 _ g s0_0 t191 t192 from by repeat (first | (with_reducible first | exact HI0.out | apply IsS186.alloc | apply IsS186.drewN | apply IsS186.drew | apply IsS186.set_1 | apply IsS186.set_2 | refine IsS186.far ?_ NB0_189.out _) | exact HI0.out)) (by (with_reducible repeat (first | apply Kd.qk0 | apply Kd.qj0 | apply Kd.qm0)); exact HO185.out) (by decide)) hk (fun _ h => h.2)) (fun _ h => h.1)); have n3_ := Aside0.mk (qn0.blk hk (g' := gb189) (o := .cells #[.string (rdOf ByteArray.empty y163 t172), .string (rdOf ByteArray.empty y163 (ji14)), .int .i64 (wrap64 (1 + t180)), .int .i64 t186] 35 (0, 0)) (by (with_reducible repeat (first | refine qe0 ?_ _ | refine qg0 ?_ | refine qf0 ?_ _)); exact BK189.out) NB189_0.out (by simp)); have n4_ := Aside0.mk (Kd.qz0 (Kd.ql1 (IsS186.apart (show IsS186 w0 _ g s0_0 t191 t192 from by repeat (first | (with_reducible first | exact HI0.out | apply IsS186.alloc | apply IsS186.drewN | apply IsS186.drew | apply IsS186.set_1 | apply IsS186.set_2 | refine IsS186.far ?_ NB0_189.out _) | exact HI0.out)) (by (with_reducible repeat (first | apply Kd.qk0 | apply Kd.qj0 | apply Kd.qm0)); exact HO195.out) (by decide)) hk (fun _ h => h.2)) (fun _ h => h.1)); have n5_ := Aside0.mk (qn0.trans (by repeat (first | (with_reducible first | exact HK.out | apply qn0.set_ | apply qq0 | apply qs0 | apply qr0 | refine qg1 ?_ GW189.out _) | exact HK.out)) hk (.inl rfl)); have n6_ := Aside0.mk (hb); have n7_ := Aside0.mk (hi); clear HO_3; clear HO_4; clear HO185; clear BK189; clear HO195; clear HK; clear HB; clear HI0; have HO_3 := n0_; have HO_4 := n1_; have HO185 := n2_; have BK189 := n3_; have HO195 := n4_; have HK := n5_; have HB := n6_; have HI0 := n7_; clear n0_ n1_ n2_ n3_ n4_ n5_ n6_ n7_; (try clear hb); (try clear hb2); (try clear hk); (try clear hi); have hnb43 := NB189_0.out; have hnc43 := NB0_189.out; have hcz44_0 : w42.cell? ⟨gb189, 0, none⟩ = some (.string (rdOf ByteArray.empty y163 t172)) := (qh0 BK189.out 0).trans rfl; have hcz44_1 : w42.cell? ⟨gb189, 1, none⟩ = some (.string (rdOf ByteArray.empty y163 (ji14))) := (qh0 BK189.out 1).trans rfl; have hcz44_2 : w42.cell? ⟨gb189, 2, none⟩ = some (.int .i64 (wrap64 (1 + t180))) := (qh0 BK189.out 2).trans rfl; have hcz44_3 : w42.cell? ⟨gb189, 3, none⟩ = some (.int .i64 t186) := (qh0 BK189.out 3).trans rfl; have hfz44_0 := qb0 BK189.out 0; have hfz44_1 := qb0 BK189.out 1; have hfz44_2 := qb0 BK189.out 2; have hfz44_3 := qb0 BK189.out 3))
      go_meet
      case rel => exact ⟨_, (t197), (t198), (t196), H', ⟨by have := HK1.out; first | omega | exact Nat.le_refl _⟩, ⟨by (with_reducible repeat (first | apply Kd.qk0 | apply Kd.qj0 | apply Kd.qm0)); exact Kd.qz0 (Kd.R_far (p := ⟨gb189, 2, none⟩) (Kd.R_types HO_3.out BK189.out (by decide)) (fun _ hk => hk.2) (.int .i64 t196)) (fun _ hk => trivial)⟩, ⟨by (with_reducible repeat (first | apply Kd.qk0 | apply Kd.qj0 | apply Kd.qm0)); exact Kd.qz0 (Kd.R_far (p := ⟨gb189, 2, none⟩) (Kd.qz0 HO_4.out (fun k_ hk => (⟨hk, hk⟩ : _ ∧ k_ ≠ gb189))) (fun _ hk => hk.2) (.int .i64 t196)) (fun _ hk => hk.1)⟩, ⟨by (with_reducible repeat (first | refine qe0 ?_ _ | refine qg0 ?_ | refine qf0 ?_ _)); refine qp0 (cs := #[.string (rdOf ByteArray.empty y163 t172), .string (rdOf ByteArray.empty y163 (ji14)), .int .i64 (wrap64 (1 + t180)), .int .i64 t186]) ?_ 2 _ rfl; (with_reducible repeat (first | refine qe0 ?_ _ | refine qg0 ?_ | refine qf0 ?_ _)); exact BK189.out⟩, ⟨by repeat (first | (with_reducible first | exact HI0.out | apply IsS186.alloc | apply IsS186.drewN | apply IsS186.drew | apply IsS186.set_1 | apply IsS186.set_2 | refine IsS186.far ?_ NB0_189.out _) | exact HI0.out)⟩, ⟨by repeat (first | (with_reducible first | exact HK.out | apply qn0.set_ | apply qq0 | apply qs0 | apply qr0 | refine qg1 ?_ GW189.out _) | exact HK.out)⟩, ⟨by repeat (first | (with_reducible first | exact HB.out | apply qc0 | apply qa0 | apply qd0 | refine qi0 ?_ (IsS186.ge HI0.out) | refine qi0 ?_ GE189.out) | exact HB.out)⟩⟩
     replace c37 := Bool.eq_false_iff.mpr c37
     subst c37
     have H1 : (spec_l15DrawConvs.j1 k1 y163 x4_1 x5_1 s0_0 t191 t192 (rdOf ByteArray.empty y163 t172) (rdOf ByteArray.empty y163 (ji14)) (wrap64 (1 + t180)) t186) = some (r1, r2, r3) := by rw [if_neg (show ¬ (false = true) by decide)] at H; exact H
     clear H
     have H := H1
     clear H1
     have H' := Aside0.mk H
     clear H
     go_wp2
     go_meet
     case rel => exact ⟨_, (t191), (t192), (wrap64 (1 + t180)), H', ⟨by have := HK1.out; first | omega | exact Nat.le_refl _⟩, ⟨by (with_reducible repeat (first | apply Kd.qk0 | apply Kd.qj0 | apply Kd.qm0)); exact HO_3.out⟩, ⟨by (with_reducible repeat (first | apply Kd.qk0 | apply Kd.qj0 | apply Kd.qm0)); exact HO_4.out⟩, ⟨by (with_reducible repeat (first | refine qe0 ?_ _ | refine qg0 ?_ | refine qf0 ?_ _)); exact BK189.out⟩, ⟨by repeat (first | (with_reducible first | exact HI0.out | apply IsS186.alloc | apply IsS186.drewN | apply IsS186.drew | apply IsS186.set_1 | apply IsS186.set_2 | refine IsS186.far ?_ NB0_189.out _) | exact HI0.out)⟩, ⟨by repeat (first | (with_reducible first | exact HK.out | apply qn0.set_ | apply qq0 | apply qs0 | apply qr0 | refine qg1 ?_ GW189.out _) | exact HK.out)⟩, ⟨by repeat (first | (with_reducible first | exact HB.out | apply qc0 | apply qa0 | apply qd0 | refine qi0 ?_ (IsS186.ge HI0.out) | refine qi0 ?_ GE189.out) | exact HB.out)⟩⟩
    case rest =>
     clear HC20
     try clear p2
     try clear c3
     try clear c4
     try clear c6
     try clear p6
     try clear c37
     try clear c43
     try clear hcz44_0
     try clear hcz44_1
     try clear hcz44_2
     try clear hcz44_3
     try clear hfz44_0
     try clear hfz44_1
     try clear hfz44_2
     try clear hfz44_3
     obtain ⟨kq, x1001_19, x1002_19, x190002_19, HA, HJ19, HO_3, HO_4, BK189, HI0, HK, HB⟩ := hcut
     cases kq with
     | zero => exact absurd HA.out (by simp [spec_l15DrawConvs.j1])
     | succ kj19 =>
      have H := HA.out
      clear HA
      simp only [spec_l15DrawConvs.j1] at H
      replace H := Option.bind_eq_some_iff.mp H
      obtain ⟨⟨t199, t200, t201⟩, A450, H⟩ := H
      replace H : (if t199 = true then (if x4_1.length < 2932031007402 then (spec_l15DrawConvs.l0 kj19 y163 (x4_1 ++ [(⟨(rdOf ByteArray.empty y163 t172), (rdOf ByteArray.empty y163 t172), x190002_19, t186⟩ : S35)]) (wrap64 (x5_1 - 1)) s0_0 t200 t201) else (none)) else (if x4_1.length < 2932031007402 then (spec_l15DrawConvs.l0 kj19 y163 (x4_1 ++ [(⟨(rdOf ByteArray.empty y163 t172), (rdOf ByteArray.empty y163 (ji14)), x190002_19, t186⟩ : S35)]) (wrap64 (x5_1 - 1)) s0_0 t200 t201) else (none))) = some (r1, r2, r3) := H
      have A45 := Aside0.mk A450
      clear A450
      by_cases c46 : t199 = true
      ·subst c46
       have H1 : (if x4_1.length < 2932031007402 then (spec_l15DrawConvs.l0 kj19 y163 (x4_1 ++ [(⟨(rdOf ByteArray.empty y163 t172), (rdOf ByteArray.empty y163 t172), x190002_19, t186⟩ : S35)]) (wrap64 (x5_1 - 1)) s0_0 t200 t201) else (none)) = some (r1, r2, r3) := by rw [if_pos rfl] at H; exact H
       clear H
       have H := H1
       clear H1
       by_cases c47 : x4_1.length < 2932031007402
       case neg => rw [if_neg c47] at H; exact absurd H (by simp)
       rw [if_pos c47] at H
       have LMc47 := Aside0.mk c47
       clear c47
       obtain ⟨y202, hy202⟩ : ∃ y_ : List (S35), y_ = (x4_1 ++ [(⟨(rdOf ByteArray.empty y163 t172), (rdOf ByteArray.empty y163 t172), x190002_19, t186⟩ : S35)]) := ⟨_, rfl⟩
       replace H : (spec_l15DrawConvs.l0 kj19 y163 y202 (wrap64 (x5_1 - 1)) s0_0 t200 t201) = some (r1, r2, r3) := by first | (rw [hy202]; with_reducible exact H) | (have H2_ := (Option.bind_some _ _).symm.trans H; rw [hy202]; with_reducible exact H2_) | (have H2_ := (Option.bind_some _ _).symm.trans H; with_reducible exact H2_) | with_reducible exact H | (rw [hy202]; exact H) | exact H
       have Ny202 := Aside0.mk hy202
       clear hy202
       have H' := Aside0.mk H
       clear H
       go_wp2_with (first | ((with_reducible refine qw0 (f := 63) rfl ?_); refine qn1 (some 49) rfl rfl Try.func63 (by kernel_rfl) rfl #[.pointer (some ⟨g, 0, none⟩), .int .i64 40] rfl (by (try simp only [List.map_toArray, List.map_cons, List.map_nil]); first | done | rfl | (simp only [List.length_drop, List.length_take]; rfl)) ?_; (with_reducible refine (spec_l1Once.calls g s0_0 x1001_19 x1002_19 40 true t200 t201 w0 _ ?side1 ?side2 A45.out).mono ?_); (case side1 => repeat (first | (with_reducible first | exact HI0.out | apply IsS186.alloc | apply IsS186.drewN | apply IsS186.drew | apply IsS186.set_1 | apply IsS186.set_2 | refine IsS186.far ?_ NB0_189.out _) | exact HI0.out)); (case side2 => repeat (first | (with_reducible first | exact HB.out | apply qc0 | apply qa0 | apply qd0 | refine qi0 ?_ (IsS186.ge HI0.out) | refine qi0 ?_ GE189.out) | exact HB.out)); rintro e w48 ⟨rfl, hi, hb, hk⟩; refine ⟨_, rfl, ?_⟩; have n0_ := Aside0.mk (Kd.qz0 (Kd.ql1 (IsS186.apart (show IsS186 w0 _ g s0_0 x1001_19 x1002_19 from by repeat (first | (with_reducible first | exact HI0.out | apply IsS186.alloc | apply IsS186.drewN | apply IsS186.drew | apply IsS186.set_1 | apply IsS186.set_2 | refine IsS186.far ?_ NB0_189.out _) | exact HI0.out)) (by (with_reducible repeat (first | apply Kd.qk0 | apply Kd.qj0 | apply Kd.qm0)); exact HO_3.out) (by decide)) hk (fun _ h => h.2)) (fun _ h => h.1)); have n1_ := Aside0.mk (Kd.qz0 (Kd.ql1 (IsS186.apart (show IsS186 w0 _ g s0_0 x1001_19 x1002_19 from by repeat (first | (with_reducible first | exact HI0.out | apply IsS186.alloc | apply IsS186.drewN | apply IsS186.drew | apply IsS186.set_1 | apply IsS186.set_2 | refine IsS186.far ?_ NB0_189.out _) | exact HI0.out)) (by (with_reducible repeat (first | apply Kd.qk0 | apply Kd.qj0 | apply Kd.qm0)); exact HO_4.out) (by decide)) hk (fun _ h => h.2)) (fun _ h => h.1)); have n2_ := Aside0.mk (qn0.blk hk (g' := gb189) (o := .cells #[.string (rdOf ByteArray.empty y163 t172), .string (rdOf ByteArray.empty y163 (ji14)), .int .i64 x190002_19, .int .i64 t186] 35 (0, 0)) (by (with_reducible repeat (first | refine qe0 ?_ _ | refine qg0 ?_ | refine qf0 ?_ _)); exact BK189.out) NB189_0.out (by simp)); have n3_ := Aside0.mk (qn0.trans (by repeat (first | (with_reducible first | exact HK.out | apply qn0.set_ | apply qq0 | apply qs0 | apply qr0 | refine qg1 ?_ GW189.out _) | exact HK.out)) hk (.inl rfl)); have n4_ := Aside0.mk (hb); have n5_ := Aside0.mk (hi); clear HO_3; clear HO_4; clear BK189; clear HK; clear HB; clear HI0; have HO_3 := n0_; have HO_4 := n1_; have BK189 := n2_; have HK := n3_; have HB := n4_; have HI0 := n5_; clear n0_ n1_ n2_ n3_ n4_ n5_; (try clear hb); (try clear hb2); (try clear hk); (try clear hi); have hnb49 := NB189_0.out; have hnc49 := NB0_189.out; have hcz50_0 : w48.cell? ⟨gb189, 0, none⟩ = some (.string (rdOf ByteArray.empty y163 t172)) := (qh0 BK189.out 0).trans rfl; have hcz50_1 : w48.cell? ⟨gb189, 1, none⟩ = some (.string (rdOf ByteArray.empty y163 (ji14))) := (qh0 BK189.out 1).trans rfl; have hcz50_2 : w48.cell? ⟨gb189, 2, none⟩ = some (.int .i64 x190002_19) := (qh0 BK189.out 2).trans rfl; have hcz50_3 : w48.cell? ⟨gb189, 3, none⟩ = some (.int .i64 t186) := (qh0 BK189.out 3).trans rfl; have hfz50_0 := qb0 BK189.out 0; have hfz50_1 := qb0 BK189.out 1; have hfz50_2 := qb0 BK189.out 2; have hfz50_3 := qb0 BK189.out 3) | ((with_reducible refine qe1 (b := .append) (xs := #[.tmp 53, .tmp 55]) rfl ?_); at_builtin; refine Kd.R_append k35 w.heap.size rfl (.tmp 53) (.tmp 55) 36 35 (.agg #[(.string ⟨#[]⟩), (.string ⟨#[]⟩), (.int .i64 0), (.int .i64 0)]) 48 rfl Try.underlying36 info35 rfl (by decide) (by omega) u4 x4_1 (⟨(rdOf ByteArray.empty y163 t172), (rdOf ByteArray.empty y163 t172), x190002_19, t186⟩ : S35) [.string (rdOf ByteArray.empty y163 t172), .string (rdOf ByteArray.empty y163 t172), .int .i64 x190002_19, .int .i64 t186] (fun k_ => k_ ≠ gb189) (fun _ => False) rfl (by first | (go_simp; done) | (go_simp; rfl)) ?aP (fun _ hk => hk.elim) ?aF ?aO (Below.refl _ _) ?aS ?aL ?_; (case aP => exact k35_mkM _ _ _ (⟨(rdOf ByteArray.empty y163 t172), (rdOf ByteArray.empty y163 t172), x190002_19, t186⟩ : S35)); (case aF => exact (fun k_ hk => Kd.freshB (g := gb189) (o := .cells #[.string (rdOf ByteArray.empty y163 t172), .string (rdOf ByteArray.empty y163 t172), .int .i64 x190002_19, .int .i64 t186] 35 (0, 0)) (by (with_reducible repeat (first | refine qe0 ?_ _ | refine qg0 ?_ | refine qf0 ?_ _)); refine qp0 (cs := #[.string (rdOf ByteArray.empty y163 t172), .string (rdOf ByteArray.empty y163 (ji14)), .int .i64 x190002_19, .int .i64 t186]) ?_ 1 _ rfl; (with_reducible repeat (first | refine qe0 ?_ _ | refine qg0 ?_ | refine qf0 ?_ _)); exact BK189.out) k_ hk)); (case aO => exact (by (with_reducible repeat (first | apply Kd.qk0 | apply Kd.qj0 | apply Kd.qm0)); exact Kd.qz0 (Kd.R_far (p := ⟨gb189, 1, none⟩) (Kd.qz0 HO_4.out (fun k_ hk => (⟨hk, hk⟩ : _ ∧ k_ ≠ gb189))) (fun _ hk => hk.2) (.string (rdOf ByteArray.empty y163 t172))) (fun _ hk => hk.1))); (case aS => exact (qq1 (w := w) (g := g) (row := none) (by repeat (first | (with_reducible first | exact HK.out | apply qn0.set_ | apply qq0 | apply qs0 | apply qr0 | refine qg1 ?_ GW189.out _) | exact HK.out)))); (case aL => have := LMc47.out; omega); intro v203 w51 ho hb hg hat; rw [← Ny202.out] at ho; have n0_ := Aside0.mk (Kd.R_over' (by (with_reducible repeat (first | apply Kd.qk0 | apply Kd.qj0 | apply Kd.qm0)); exact (Kd.qz0 (Kd.R_far (p := ⟨gb189, 1, none⟩) (Kd.R_types HO_3.out BK189.out (by decide)) (fun _ hk => hk.2) (.string (rdOf ByteArray.empty y163 t172))) (fun _ h_ => h_.1))) (Kd.R_typed (by (with_reducible repeat (first | apply Kd.qk0 | apply Kd.qj0 | apply Kd.qm0)); exact (Kd.qz0 (Kd.R_far (p := ⟨gb189, 1, none⟩) (Kd.qz0 HO_4.out (fun k_ hk => (⟨hk, hk⟩ : _ ∧ k_ ≠ gb189))) (fun _ hk => hk.2) (.string (rdOf ByteArray.empty y163 t172))) (fun _ h_ => h_.1)))) (by decide) hg); have n1_ := Aside0.mk (qx0 (g := gb189) (o := .cells #[.string (rdOf ByteArray.empty y163 t172), .string (rdOf ByteArray.empty y163 t172), .int .i64 x190002_19, .int .i64 t186] 35 (0, 0)) (by (with_reducible repeat (first | refine qe0 ?_ _ | refine qg0 ?_ | refine qf0 ?_ _)); refine qp0 (cs := #[.string (rdOf ByteArray.empty y163 t172), .string (rdOf ByteArray.empty y163 (ji14)), .int .i64 x190002_19, .int .i64 t186]) ?_ 1 _ rfl; (with_reducible repeat (first | refine qe0 ?_ _ | refine qg0 ?_ | refine qf0 ?_ _)); exact BK189.out) hg (Kd.R_away HO_4.out (fun _ hk => hk))); have n2_ := Aside0.mk (IsS186.grown (show IsS186 w0 _ g s0_0 t200 t201 from by repeat (first | (with_reducible first | exact HI0.out | apply IsS186.alloc | apply IsS186.drewN | apply IsS186.drew | apply IsS186.set_1 | apply IsS186.set_2 | refine IsS186.far ?_ NB0_189.out _) | exact HI0.out)) hg (IsS186.own_ne HI0.out HO_4.out (by decide))); have n3_ := Aside0.mk (below_weaken (by repeat (first | (with_reducible first | exact HB.out | apply qc0 | apply qa0 | apply qd0 | refine qi0 ?_ (IsS186.ge HI0.out) | refine qi0 ?_ GE189.out) | exact HB.out)) HL.out hb); have n4_ := Aside0.mk (qn0.trans (by repeat (first | (with_reducible first | exact HK.out | apply qn0.set_ | apply qq0 | apply qs0 | apply qr0 | refine qg1 ?_ GW189.out _) | exact HK.out)) (qn0.of_grown hg g) (Kd.R_base2 HO_4.out)); have n5_ := Aside0.mk (ho); clear HO_3; clear BK189; clear HI0; clear HB; clear HK; clear HO_4; have HO_3 := n0_; have BK189 := n1_; have HI0 := n2_; have HB := n3_; have HK := n4_; have HO204 := n5_; clear n0_ n1_ n2_ n3_ n4_ n5_; clear ho hb hg hat))
       go_roundg kj19
       case measure => have := HK1.out; have := HJ19.out; omega
       case rel => exact ⟨(y202), (wrap64 (x5_1 - 1)), (t200), (t201), (by first | rfl | (simp; done) | (simp [*]; done)), H', ⟨by have := HK1.out; have := HJ19.out; omega⟩, ⟨by (with_reducible repeat (first | apply Kd.qk0 | apply Kd.qj0 | apply Kd.qm0)); exact HO_3.out⟩, ⟨by (with_reducible repeat (first | apply Kd.qk0 | apply Kd.qj0 | apply Kd.qm0)); exact Kd.qz0 HO204.out (fun _ hk => trivial)⟩, ⟨by repeat (first | (with_reducible first | exact HI0.out | apply IsS186.alloc | apply IsS186.drewN | apply IsS186.drew | apply IsS186.set_1 | apply IsS186.set_2 | refine IsS186.far ?_ NB0_189.out _) | exact HI0.out)⟩, ⟨by repeat (first | (with_reducible first | exact HK.out | apply qn0.set_ | apply qq0 | apply qs0 | apply qr0 | refine qg1 ?_ GW189.out _) | exact HK.out)⟩, ⟨by repeat (first | (with_reducible first | exact HB.out | apply qc0 | apply qa0 | apply qd0 | refine qi0 ?_ (IsS186.ge HI0.out) | refine qi0 ?_ GE189.out) | exact HB.out)⟩⟩
      replace c46 := Bool.eq_false_iff.mpr c46
      subst c46
      have H1 : (if x4_1.length < 2932031007402 then (spec_l15DrawConvs.l0 kj19 y163 (x4_1 ++ [(⟨(rdOf ByteArray.empty y163 t172), (rdOf ByteArray.empty y163 (ji14)), x190002_19, t186⟩ : S35)]) (wrap64 (x5_1 - 1)) s0_0 t200 t201) else (none)) = some (r1, r2, r3) := by rw [if_neg (show ¬ (false = true) by decide)] at H; exact H
      clear H
      have H := H1
      clear H1
      by_cases c52 : x4_1.length < 2932031007402
      case neg => rw [if_neg c52] at H; exact absurd H (by simp)
      rw [if_pos c52] at H
      have LMc52 := Aside0.mk c52
      clear c52
      obtain ⟨y205, hy205⟩ : ∃ y_ : List (S35), y_ = (x4_1 ++ [(⟨(rdOf ByteArray.empty y163 t172), (rdOf ByteArray.empty y163 (ji14)), x190002_19, t186⟩ : S35)]) := ⟨_, rfl⟩
      replace H : (spec_l15DrawConvs.l0 kj19 y163 y205 (wrap64 (x5_1 - 1)) s0_0 t200 t201) = some (r1, r2, r3) := by first | (rw [hy205]; with_reducible exact H) | (have H2_ := (Option.bind_some _ _).symm.trans H; rw [hy205]; with_reducible exact H2_) | (have H2_ := (Option.bind_some _ _).symm.trans H; with_reducible exact H2_) | with_reducible exact H | (rw [hy205]; exact H) | exact H
      have Ny205 := Aside0.mk hy205
      clear hy205
      have H' := Aside0.mk H
      clear H
      go_wp2_with (first | ((with_reducible refine qw0 (f := 63) rfl ?_); refine qn1 (some 49) rfl rfl Try.func63 (by kernel_rfl) rfl #[.pointer (some ⟨g, 0, none⟩), .int .i64 40] rfl (by (try simp only [List.map_toArray, List.map_cons, List.map_nil]); first | done | rfl | (simp only [List.length_drop, List.length_take]; rfl)) ?_; (with_reducible refine (spec_l1Once.calls g s0_0 x1001_19 x1002_19 40 false t200 t201 w0 _ ?side1 ?side2 A45.out).mono ?_); (case side1 => repeat (first | (with_reducible first | exact HI0.out | apply IsS186.alloc | apply IsS186.drewN | apply IsS186.drew | apply IsS186.set_1 | apply IsS186.set_2 | refine IsS186.far ?_ NB0_189.out _) | exact HI0.out)); (case side2 => repeat (first | (with_reducible first | exact HB.out | apply qc0 | apply qa0 | apply qd0 | refine qi0 ?_ (IsS186.ge HI0.out) | refine qi0 ?_ GE189.out) | exact HB.out)); rintro e w53 ⟨rfl, hi, hb, hk⟩; refine ⟨_, rfl, ?_⟩; have n0_ := Aside0.mk (Kd.qz0 (Kd.ql1 (IsS186.apart (show IsS186 w0 _ g s0_0 x1001_19 x1002_19 from by repeat (first | (with_reducible first | exact HI0.out | apply IsS186.alloc | apply IsS186.drewN | apply IsS186.drew | apply IsS186.set_1 | apply IsS186.set_2 | refine IsS186.far ?_ NB0_189.out _) | exact HI0.out)) (by (with_reducible repeat (first | apply Kd.qk0 | apply Kd.qj0 | apply Kd.qm0)); exact HO_3.out) (by decide)) hk (fun _ h => h.2)) (fun _ h => h.1)); have n1_ := Aside0.mk (Kd.qz0 (Kd.ql1 (IsS186.apart (show IsS186 w0 _ g s0_0 x1001_19 x1002_19 from by repeat (first | (with_reducible first | exact HI0.out | apply IsS186.alloc | apply IsS186.drewN | apply IsS186.drew | apply IsS186.set_1 | apply IsS186.set_2 | refine IsS186.far ?_ NB0_189.out _) | exact HI0.out)) (by (with_reducible repeat (first | apply Kd.qk0 | apply Kd.qj0 | apply Kd.qm0)); exact HO_4.out) (by decide)) hk (fun _ h => h.2)) (fun _ h => h.1)); have n2_ := Aside0.mk (qn0.blk hk (g' := gb189) (o := .cells #[.string (rdOf ByteArray.empty y163 t172), .string (rdOf ByteArray.empty y163 (ji14)), .int .i64 x190002_19, .int .i64 t186] 35 (0, 0)) (by (with_reducible repeat (first | refine qe0 ?_ _ | refine qg0 ?_ | refine qf0 ?_ _)); exact BK189.out) NB189_0.out (by simp)); have n3_ := Aside0.mk (qn0.trans (by repeat (first | (with_reducible first | exact HK.out | apply qn0.set_ | apply qq0 | apply qs0 | apply qr0 | refine qg1 ?_ GW189.out _) | exact HK.out)) hk (.inl rfl)); have n4_ := Aside0.mk (hb); have n5_ := Aside0.mk (hi); clear HO_3; clear HO_4; clear BK189; clear HK; clear HB; clear HI0; have HO_3 := n0_; have HO_4 := n1_; have BK189 := n2_; have HK := n3_; have HB := n4_; have HI0 := n5_; clear n0_ n1_ n2_ n3_ n4_ n5_; (try clear hb); (try clear hb2); (try clear hk); (try clear hi); have hnb54 := NB189_0.out; have hnc54 := NB0_189.out; have hcz55_0 : w53.cell? ⟨gb189, 0, none⟩ = some (.string (rdOf ByteArray.empty y163 t172)) := (qh0 BK189.out 0).trans rfl; have hcz55_1 : w53.cell? ⟨gb189, 1, none⟩ = some (.string (rdOf ByteArray.empty y163 (ji14))) := (qh0 BK189.out 1).trans rfl; have hcz55_2 : w53.cell? ⟨gb189, 2, none⟩ = some (.int .i64 x190002_19) := (qh0 BK189.out 2).trans rfl; have hcz55_3 : w53.cell? ⟨gb189, 3, none⟩ = some (.int .i64 t186) := (qh0 BK189.out 3).trans rfl; have hfz55_0 := qb0 BK189.out 0; have hfz55_1 := qb0 BK189.out 1; have hfz55_2 := qb0 BK189.out 2; have hfz55_3 := qb0 BK189.out 3) | ((with_reducible refine qe1 (b := .append) (xs := #[.tmp 53, .tmp 55]) rfl ?_); at_builtin; refine Kd.R_append k35 w.heap.size rfl (.tmp 53) (.tmp 55) 36 35 (.agg #[(.string ⟨#[]⟩), (.string ⟨#[]⟩), (.int .i64 0), (.int .i64 0)]) 48 rfl Try.underlying36 info35 rfl (by decide) (by omega) u4 x4_1 (⟨(rdOf ByteArray.empty y163 t172), (rdOf ByteArray.empty y163 (ji14)), x190002_19, t186⟩ : S35) [.string (rdOf ByteArray.empty y163 t172), .string (rdOf ByteArray.empty y163 (ji14)), .int .i64 x190002_19, .int .i64 t186] (fun k_ => k_ ≠ gb189) (fun _ => False) rfl rfl ?aP (fun _ hk => hk.elim) ?aF ?aO (Below.refl _ _) ?aS ?aL ?_; (case aP => exact k35_mkM _ _ _ (⟨(rdOf ByteArray.empty y163 t172), (rdOf ByteArray.empty y163 (ji14)), x190002_19, t186⟩ : S35)); (case aF => exact (fun k_ hk => Kd.freshB (g := gb189) (o := .cells #[.string (rdOf ByteArray.empty y163 t172), .string (rdOf ByteArray.empty y163 (ji14)), .int .i64 x190002_19, .int .i64 t186] 35 (0, 0)) (by (with_reducible repeat (first | refine qe0 ?_ _ | refine qg0 ?_ | refine qf0 ?_ _)); exact BK189.out) k_ hk)); (case aO => exact (by (with_reducible repeat (first | apply Kd.qk0 | apply Kd.qj0 | apply Kd.qm0)); exact HO_4.out)); (case aS => exact (qq1 (w := w) (g := g) (row := none) (by repeat (first | (with_reducible first | exact HK.out | apply qn0.set_ | apply qq0 | apply qs0 | apply qr0 | refine qg1 ?_ GW189.out _) | exact HK.out)))); (case aL => have := LMc52.out; omega); intro v206 w56 ho hb hg hat; rw [← Ny205.out] at ho; have n0_ := Aside0.mk (Kd.R_over' (by (with_reducible repeat (first | apply Kd.qk0 | apply Kd.qj0 | apply Kd.qm0)); exact HO_3.out) (Kd.R_typed (by (with_reducible repeat (first | apply Kd.qk0 | apply Kd.qj0 | apply Kd.qm0)); exact HO_4.out)) (by decide) hg); have n1_ := Aside0.mk (qx0 (g := gb189) (o := .cells #[.string (rdOf ByteArray.empty y163 t172), .string (rdOf ByteArray.empty y163 (ji14)), .int .i64 x190002_19, .int .i64 t186] 35 (0, 0)) (by (with_reducible repeat (first | refine qe0 ?_ _ | refine qg0 ?_ | refine qf0 ?_ _)); exact BK189.out) hg (Kd.R_away HO_4.out (fun _ hk => hk))); have n2_ := Aside0.mk (IsS186.grown (show IsS186 w0 _ g s0_0 t200 t201 from by repeat (first | (with_reducible first | exact HI0.out | apply IsS186.alloc | apply IsS186.drewN | apply IsS186.drew | apply IsS186.set_1 | apply IsS186.set_2 | refine IsS186.far ?_ NB0_189.out _) | exact HI0.out)) hg (IsS186.own_ne HI0.out HO_4.out (by decide))); have n3_ := Aside0.mk (below_weaken (by repeat (first | (with_reducible first | exact HB.out | apply qc0 | apply qa0 | apply qd0 | refine qi0 ?_ (IsS186.ge HI0.out) | refine qi0 ?_ GE189.out) | exact HB.out)) HL.out hb); have n4_ := Aside0.mk (qn0.trans (by repeat (first | (with_reducible first | exact HK.out | apply qn0.set_ | apply qq0 | apply qs0 | apply qr0 | refine qg1 ?_ GW189.out _) | exact HK.out)) (qn0.of_grown hg g) (Kd.R_base2 HO_4.out)); have n5_ := Aside0.mk (ho); clear HO_3; clear BK189; clear HI0; clear HB; clear HK; clear HO_4; have HO_3 := n0_; have BK189 := n1_; have HI0 := n2_; have HB := n3_; have HK := n4_; have HO207 := n5_; clear n0_ n1_ n2_ n3_ n4_ n5_; clear ho hb hg hat))
      go_roundg kj19
      case measure => have := HK1.out; have := HJ19.out; omega
      case rel => exact ⟨(y205), (wrap64 (x5_1 - 1)), (t200), (t201), (by first | rfl | (simp; done) | (simp [*]; done)), H', ⟨by have := HK1.out; have := HJ19.out; omega⟩, ⟨by (with_reducible repeat (first | apply Kd.qk0 | apply Kd.qj0 | apply Kd.qm0)); exact HO_3.out⟩, ⟨by (with_reducible repeat (first | apply Kd.qk0 | apply Kd.qj0 | apply Kd.qm0)); exact Kd.qz0 HO207.out (fun _ hk => trivial)⟩, ⟨by repeat (first | (with_reducible first | exact HI0.out | apply IsS186.alloc | apply IsS186.drewN | apply IsS186.drew | apply IsS186.set_1 | apply IsS186.set_2 | refine IsS186.far ?_ NB0_189.out _) | exact HI0.out)⟩, ⟨by repeat (first | (with_reducible first | exact HK.out | apply qn0.set_ | apply qq0 | apply qs0 | apply qr0 | refine qg1 ?_ GW189.out _) | exact HK.out)⟩, ⟨by repeat (first | (with_reducible first | exact HB.out | apply qc0 | apply qa0 | apply qd0 | refine qi0 ?_ (IsS186.ge HI0.out) | refine qi0 ?_ GE189.out) | exact HB.out)⟩⟩
   rw [if_neg c8] at H
   have c8b0 : decide (0 < x5_1) = false := decide_eq_false c8
   clear c8
   simp only [Option.some.injEq, Prod.mk.injEq] at H
   obtain ⟨rfl, rfl, rfl⟩ := H
   go_wp2
   go_ret
   exact ⟨_, by first | rfl | (simp [errW_none, errW_some] <;> rfl) | (simp [*, errW_none, errW_some] <;> rfl), by (with_reducible repeat (first | apply Kd.qk0 | apply Kd.qj0 | apply Kd.qm0)); exact HO_4.out, by repeat (first | (with_reducible first | exact HI0.out | apply IsS186.alloc | apply IsS186.drewN | apply IsS186.drew | apply IsS186.set_1 | apply IsS186.set_2) | exact HI0.out), by repeat (first | (with_reducible first | exact HB.out | apply qc0 | apply qa0 | apply qd0 | refine qi0 ?_ (IsS186.ge HI0.out)) | exact HB.out), by repeat (first | (with_reducible first | exact HK.out | apply qn0.set_ | apply qq0 | apply qs0 | apply qr0) | exact HK.out)⟩

end Go.Proofs.Ytkkdmmefnicmaaa.PFnUnits
