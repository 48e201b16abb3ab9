/- Lines by a program (a changed copy of the kit's print: this repo's wip/tools): Go functions as Lean functions, and proofs that the calls answer so. -/
import Derived.Test.YtkkdmmefnicmaaaZPFnLevelledx0
import Derived.Test.YtkkdmmefnicmaaaZPFnLevelledx1
import Derived.Test.YtkkdmmefnicmaaaZPFnLevelledx2
import Derived.Test.YtkkdmmefnicmaaaZPFnLevelledx3
namespace Go.Proofs.Ytkkdmmefnicmaaa.PFnLevelled
open Go.RowKit Go.Proofs.YtkkdmmefnicmaaaW.PrintWords Go.Proofs.YtkkdmmefnicmaaaW.PrintLast Go.Proofs.YtkkdmmefnicmaaaW.PrintMore
attribute [local go_sem] max2_int min2_int max_two min_two max_three min_three max_four min_four   -- for this text's walks alone
set_option linter.unusedVariables false
set_option linter.unusedSimpArgs false

/-! ### spec_l17DrawItems: function 82 -/
mutual
def spec_l17DrawItems.l0 : Nat → Int → List (S52) → Int → List Int → Int → Int → Option ((List (S52)) × Int × Int)
 | 0, _, _, _, _, _, _ => none
 | k + 1, x5, x6, x7, x1000, x1001, x1002 => if x7 < x5 then ((spec_l1Text.f k x7).bind fun t168 => (if 1 + t168.size ≤ 9223372036854775807 then ((spec_l1PickInt.f x1000 x1001 x1002 (([1, 1, 1, 5, 12] : List Int))).bind fun bt172 => ((spec_l1Below.f x1000 bt172.2.1 bt172.2.2 4).bind fun bt176 => (spec_l17DrawItems.l1 k x5 x6 x7 bt176.1 x1000 bt176.2.1 bt176.2.2 ((⟨#[105]⟩ : ByteArray) ++ t168) bt172.1 false ([] : List (S54))))) else (none))) else (some (x6, x1001, x1002))
def spec_l17DrawItems.j2 : Nat → Int → List (S52) → Int → List Int → Int → Int → ByteArray → Int → Bool → List (S54) → Option ((List (S52)) × Int × Int)
 | 0, _, _, _, _, _, _, _, _, _, _ => none
 | k + 1, x5, x6, x7, x1000, x1001, x1002, x176000, x176001, x176002, x176003 => if (x176003.length : Int) > 0 then ((spec_l1Once.f x1000 x1001 x1002 4).bind fun bt190 => (spec_l17DrawItems.j3 k x5 x6 x7 bt190.1 x1000 bt190.2.1 bt190.2.2 x176000 x176001 x176002 x176003)) else (spec_l17DrawItems.j3 k x5 x6 x7 false x1000 x1001 x1002 x176000 x176001 x176002 x176003)
def spec_l17DrawItems.j3 : Nat → Int → List (S52) → Int → Bool → List Int → Int → Int → ByteArray → Int → Bool → List (S54) → Option ((List (S52)) × Int × Int)
 | 0, _, _, _, _, _, _, _, _, _, _, _ => none
 | k + 1, x5, x6, x7, x56, x1000, x1001, x1002, x176000, x176001, x176002, x176003 => if x56 = true then (if x6.length < 1759218604441 then (spec_l17DrawItems.l0 k x5 (x6 ++ [(⟨x176000, x176001, true, x176003, ([] : List (S54))⟩ : S52)]) (wrap64 (x7 + 1)) x1000 x1001 x1002) else (none)) else ((spec_l1Once.f x1000 x1001 x1002 6).bind fun bt196 => (if bt196.1 = true then (if x7 < (wrap64 (x5 - 1)) then ((spec_l17DrawPart.f k x1000 bt196.2.1 bt196.2.2 x7 x5).bind fun bt199 => (if ([] : List (S54)).length < 2932031007402 then (if x6.length < 1759218604441 then (spec_l17DrawItems.l0 k x5 (x6 ++ [(⟨x176000, x176001, x176002, x176003, (([] : List (S54)) ++ [(⟨bt199.1, bt199.2.1, 0, bt199.2.2.2.1, bt199.2.2.2.2.1, 0⟩ : S54)])⟩ : S52)]) (wrap64 (x7 + 1)) x1000 bt199.2.2.2.2.2.2.1 bt199.2.2.2.2.2.2.2) else (none)) else (none))) else (if x6.length < 1759218604441 then (spec_l17DrawItems.l0 k x5 (x6 ++ [(⟨x176000, x176001, x176002, x176003, ([] : List (S54))⟩ : S52)]) (wrap64 (x7 + 1)) x1000 bt196.2.1 bt196.2.2) else (none))) else (if x6.length < 1759218604441 then (spec_l17DrawItems.l0 k x5 (x6 ++ [(⟨x176000, x176001, x176002, x176003, ([] : List (S54))⟩ : S52)]) (wrap64 (x7 + 1)) x1000 bt196.2.1 bt196.2.2) else (none))))
def spec_l17DrawItems.l1 : Nat → Int → List (S52) → Int → Int → List Int → Int → Int → ByteArray → Int → Bool → List (S54) → Option ((List (S52)) × Int × Int)
 | 0, _, _, _, _, _, _, _, _, _, _, _ => none
 | k + 1, x5, x6, x7, x9, x1000, x1001, x1002, x176000, x176001, x176002, x176003 => if x9 > 0 then (if x7 < (wrap64 (x5 - 1)) then ((spec_l17DrawPart.f k x1000 x1001 x1002 x7 x5).bind fun bt179 => (if x176003.length < 2932031007402 then (spec_l17DrawItems.l1 k x5 x6 x7 (wrap64 (x9 - 1)) x1000 bt179.2.2.2.2.2.2.1 bt179.2.2.2.2.2.2.2 x176000 x176001 x176002 (x176003 ++ [(⟨bt179.1, bt179.2.1, bt179.2.2.1, bt179.2.2.2.1, bt179.2.2.2.2.1, bt179.2.2.2.2.2.1⟩ : S54)])) else (none))) else (spec_l17DrawItems.j2 k x5 x6 x7 x1000 x1001 x1002 x176000 x176001 x176002 x176003)) else (spec_l17DrawItems.j2 k x5 x6 x7 x1000 x1001 x1002 x176000 x176001 x176002 x176003)
end
def spec_l17DrawItems.f (k : Nat) (s0_0 : List Int) (s0_1 : Int) (s0_2 : Int) (a1 : Int) : Option ((List (S52)) × Int × Int) := (spec_l1Below.f s0_0 s0_1 s0_2 a1).bind fun bt162 => (spec_l17DrawItems.l0 k (wrap64 (2 + bt162.1)) (([] : List (S52))) 0 s0_0 bt162.2.1 bt162.2.2)
theorem spec_l17DrawItems.mono_l : ∀ k, (∀ y0 y1 y2 y3 y4 y5, LeO (spec_l17DrawItems.l0 k y0 y1 y2 y3 y4 y5) (spec_l17DrawItems.l0 (k + 1) y0 y1 y2 y3 y4 y5)) ∧ (∀ y0 y1 y2 y3 y4 y5 y6 y7 y8 y9, LeO (spec_l17DrawItems.j2 k y0 y1 y2 y3 y4 y5 y6 y7 y8 y9) (spec_l17DrawItems.j2 (k + 1) y0 y1 y2 y3 y4 y5 y6 y7 y8 y9)) ∧ (∀ y0 y1 y2 y3 y4 y5 y6 y7 y8 y9 y10, LeO (spec_l17DrawItems.j3 k y0 y1 y2 y3 y4 y5 y6 y7 y8 y9 y10) (spec_l17DrawItems.j3 (k + 1) y0 y1 y2 y3 y4 y5 y6 y7 y8 y9 y10)) ∧ (∀ y0 y1 y2 y3 y4 y5 y6 y7 y8 y9 y10, LeO (spec_l17DrawItems.l1 k y0 y1 y2 y3 y4 y5 y6 y7 y8 y9 y10) (spec_l17DrawItems.l1 (k + 1) y0 y1 y2 y3 y4 y5 y6 y7 y8 y9 y10))
 | 0 => ⟨fun _ _ _ _ _ _ r h => by simp [spec_l17DrawItems.l0] at h, fun _ _ _ _ _ _ _ _ _ _ r h => by simp [spec_l17DrawItems.j2] at h, fun _ _ _ _ _ _ _ _ _ _ _ r h => by simp [spec_l17DrawItems.j3] at h, fun _ _ _ _ _ _ _ _ _ _ _ r h => by simp [spec_l17DrawItems.l1] at h⟩
 | k + 1 => by
  obtain ⟨ih0, ih1, ih2, ih3⟩ := spec_l17DrawItems.mono_l k
  refine ⟨?_, ?_, ?_, ?_⟩
  ·intro y0 y1 y2 y3 y4 y5
   unfold spec_l17DrawItems.l0
   repeat' first
   | (with_reducible exact ih0 _ _ _ _ _ _)
   | (with_reducible exact ih1 _ _ _ _ _ _ _ _ _ _)
   | (with_reducible exact ih2 _ _ _ _ _ _ _ _ _ _ _)
   | (with_reducible exact ih3 _ _ _ _ _ _ _ _ _ _ _)
   | (with_reducible exact spec_l17DrawPart.mono _ _ _ _ _ _)
   | (with_reducible exact spec_l1Text.mono _ _)
   | (with_reducible exact LeO.refl _)
   | (with_reducible exact LeO.none _)
   | (with_reducible refine LeO.ite ?_ ?_)
   | (with_reducible refine LeO.bind ?_ (fun _ => ?_))
   | exact ih0 _ _ _ _ _ _
   | exact ih1 _ _ _ _ _ _ _ _ _ _
   | exact ih2 _ _ _ _ _ _ _ _ _ _ _
   | exact ih3 _ _ _ _ _ _ _ _ _ _ _
   | exact spec_l17DrawPart.mono _ _ _ _ _ _
   | exact spec_l1Text.mono _ _
   | exact LeO.none _
   | refine LeO.ite ?_ ?_
   | refine LeO.bind ?_ (fun _ => ?_)
  ·intro y0 y1 y2 y3 y4 y5 y6 y7 y8 y9
   unfold spec_l17DrawItems.j2
   repeat' first
   | (with_reducible exact ih0 _ _ _ _ _ _)
   | (with_reducible exact ih1 _ _ _ _ _ _ _ _ _ _)
   | (with_reducible exact ih2 _ _ _ _ _ _ _ _ _ _ _)
   | (with_reducible exact ih3 _ _ _ _ _ _ _ _ _ _ _)
   | (with_reducible exact spec_l17DrawPart.mono _ _ _ _ _ _)
   | (with_reducible exact spec_l1Text.mono _ _)
   | (with_reducible exact LeO.refl _)
   | (with_reducible exact LeO.none _)
   | (with_reducible refine LeO.ite ?_ ?_)
   | (with_reducible refine LeO.bind ?_ (fun _ => ?_))
   | exact ih0 _ _ _ _ _ _
   | exact ih1 _ _ _ _ _ _ _ _ _ _
   | exact ih2 _ _ _ _ _ _ _ _ _ _ _
   | exact ih3 _ _ _ _ _ _ _ _ _ _ _
   | exact spec_l17DrawPart.mono _ _ _ _ _ _
   | exact spec_l1Text.mono _ _
   | exact LeO.none _
   | refine LeO.ite ?_ ?_
   | refine LeO.bind ?_ (fun _ => ?_)
  ·intro y0 y1 y2 y3 y4 y5 y6 y7 y8 y9 y10
   unfold spec_l17DrawItems.j3
   repeat' first
   | (with_reducible exact ih0 _ _ _ _ _ _)
   | (with_reducible exact ih1 _ _ _ _ _ _ _ _ _ _)
   | (with_reducible exact ih2 _ _ _ _ _ _ _ _ _ _ _)
   | (with_reducible exact ih3 _ _ _ _ _ _ _ _ _ _ _)
   | (with_reducible exact spec_l17DrawPart.mono _ _ _ _ _ _)
   | (with_reducible exact spec_l1Text.mono _ _)
   | (with_reducible exact LeO.refl _)
   | (with_reducible exact LeO.none _)
   | (with_reducible refine LeO.ite ?_ ?_)
   | (with_reducible refine LeO.bind ?_ (fun _ => ?_))
   | exact ih0 _ _ _ _ _ _
   | exact ih1 _ _ _ _ _ _ _ _ _ _
   | exact ih2 _ _ _ _ _ _ _ _ _ _ _
   | exact ih3 _ _ _ _ _ _ _ _ _ _ _
   | exact spec_l17DrawPart.mono _ _ _ _ _ _
   | exact spec_l1Text.mono _ _
   | exact LeO.none _
   | refine LeO.ite ?_ ?_
   | refine LeO.bind ?_ (fun _ => ?_)
  ·intro y0 y1 y2 y3 y4 y5 y6 y7 y8 y9 y10
   unfold spec_l17DrawItems.l1
   repeat' first
   | (with_reducible exact ih0 _ _ _ _ _ _)
   | (with_reducible exact ih1 _ _ _ _ _ _ _ _ _ _)
   | (with_reducible exact ih2 _ _ _ _ _ _ _ _ _ _ _)
   | (with_reducible exact ih3 _ _ _ _ _ _ _ _ _ _ _)
   | (with_reducible exact spec_l17DrawPart.mono _ _ _ _ _ _)
   | (with_reducible exact spec_l1Text.mono _ _)
   | (with_reducible exact LeO.refl _)
   | (with_reducible exact LeO.none _)
   | (with_reducible refine LeO.ite ?_ ?_)
   | (with_reducible refine LeO.bind ?_ (fun _ => ?_))
   | exact ih0 _ _ _ _ _ _
   | exact ih1 _ _ _ _ _ _ _ _ _ _
   | exact ih2 _ _ _ _ _ _ _ _ _ _ _
   | exact ih3 _ _ _ _ _ _ _ _ _ _ _
   | exact spec_l17DrawPart.mono _ _ _ _ _ _
   | exact spec_l1Text.mono _ _
   | exact LeO.none _
   | refine LeO.ite ?_ ?_
   | refine LeO.bind ?_ (fun _ => ?_)
theorem spec_l17DrawItems.mono : ∀ a0 a1 a2 a3 k, LeO (spec_l17DrawItems.f k a0 a1 a2 a3) (spec_l17DrawItems.f (k + 1) a0 a1 a2 a3) := by
 intro a0 a1 a2 a3 k
 obtain ⟨ih0, ih1, ih2, ih3⟩ := spec_l17DrawItems.mono_l k
 unfold spec_l17DrawItems.f
 repeat' first
   | (with_reducible exact ih0 _ _ _ _ _ _)
   | (with_reducible exact ih1 _ _ _ _ _ _ _ _ _ _)
   | (with_reducible exact ih2 _ _ _ _ _ _ _ _ _ _ _)
   | (with_reducible exact ih3 _ _ _ _ _ _ _ _ _ _ _)
   | (with_reducible exact spec_l17DrawPart.mono _ _ _ _ _ _)
   | (with_reducible exact spec_l1Text.mono _ _)
   | (with_reducible exact LeO.refl _)
   | (with_reducible exact LeO.none _)
   | (with_reducible refine LeO.ite ?_ ?_)
   | (with_reducible refine LeO.bind ?_ (fun _ => ?_))
   | exact ih0 _ _ _ _ _ _
   | exact ih1 _ _ _ _ _ _ _ _ _ _
   | exact ih2 _ _ _ _ _ _ _ _ _ _ _
   | exact ih3 _ _ _ _ _ _ _ _ _ _ _
   | exact spec_l17DrawPart.mono _ _ _ _ _ _
   | exact spec_l1Text.mono _ _
   | exact LeO.none _
   | refine LeO.ite ?_ ?_
   | refine LeO.bind ?_ (fun _ => ?_)
def spec_l17DrawItems.T10 : Bool × List (List Nat × List Nat) := (true, [([], []), ([0], [0]), ([], []), ([], []), ([], []), ([2, 3, 4], [2, 3, 4]), ([5], [5]), ([1, 6, 5], [1, 6]), ([0, 1, 2, 3, 4, 5, 6, 7], []), ([8, 7, 7, 0, 1, 2, 3, 4, 5, 6, 7], [7, 8])])
def spec_l17DrawItems.B10 : List Nat := [0, 1, 0, 0, 0, 28, 60, 127, 255, 511]
theorem spec_l17DrawItems.tab10 : rtab .any (opsOf Try.f82 10) = spec_l17DrawItems.T10 := by kernel_rfl
theorem spec_l17DrawItems.bits10 : waitsOk spec_l17DrawItems.T10.2 spec_l17DrawItems.B10 = true := by kernel_rfl
set_option maxHeartbeats 8000000 in
set_option maxRecDepth 100000 in
theorem spec_l17DrawItems.calls (k : Nat) (g : Nat) (s0_0 : List Int) (s0_1 : Int) (s0_2 : Int) (a1 : Int) (r1 : List (S52)) (r2 : Int) (r3 : Int) (w0 w : World) (hI : IsS186 w0 w g s0_0 s0_1 s0_2) (hB : Below w0.heap.size w0 w) (h : spec_l17DrawItems.f k s0_0 s0_1 s0_2 a1 = some (r1, r2, r3)) :
  Calls Try.prog 82 #[.pointer (some ⟨g, 0, none⟩), .int .i64 a1] w fun e w' => ∃ v0_ : Value, e = .returned (v0_) ∧ Kd.S k52 52 w' w.heap.size (fun _ => True) v0_ r1 ∧ IsS186 w0 w' g s0_0 r2 r3 ∧ Below w0.heap.size w0 w' ∧ qj0 w w' g none := by
 have hu52 := Try.underlying52
 have hu54 := Try.underlying54
 have HI0 := Aside0.mk hI
 have HK := Aside0.mk (qj0.refl w g none)
 have HL := Aside0.mk hB.size
 clear hI
 have HW0 := Aside0.mk hB.size
 have HB := Aside0.mk hB
 clear hB
 have H : ((spec_l1Below.f s0_0 s0_1 s0_2 a1).bind fun bt162 => (spec_l17DrawItems.l0 k (wrap64 (2 + bt162.1)) (([] : List (S52))) 0 s0_0 bt162.2.1 bt162.2.2)) = some (r1, r2, r3) := h
 clear h
 replace H := Option.bind_eq_some_iff.mp H
 obtain ⟨⟨t162, t163, t164⟩, A30, H⟩ := H
 replace H : (spec_l17DrawItems.l0 k (wrap64 (2 + t162)) (([] : List (S52))) 0 s0_0 t163 t164) = some (r1, r2, r3) := H
 have A3 := Aside0.mk A30
 clear A30
 obtain ⟨y165, hy165⟩ : ∃ y_ : List (S52), y_ = (([] : List (S52))) := ⟨_, rfl⟩
 replace H : (spec_l17DrawItems.l0 k (wrap64 (2 + t162)) y165 0 s0_0 t163 t164) = some (r1, r2, r3) := by first | (rw [hy165]; with_reducible exact H) | (have H2_ := (Option.bind_some _ _).symm.trans H; rw [hy165]; with_reducible exact H2_) | (have H2_ := (Option.bind_some _ _).symm.trans H; with_reducible exact H2_) | with_reducible exact H | (rw [hy165]; exact H) | exact H
 have Ny165 := Aside0.mk hy165
 clear hy165
 have H' := Aside0.mk H
 clear H
 go_enter Try.func82, Try.ntmps82
 go_wp2_with (first | ((with_reducible refine qs0 (f := 61) rfl ?_); refine qk1 (some 13) rfl rfl Try.func61 (by kernel_rfl) rfl #[.pointer (some ⟨g, 0, none⟩), .int .i64 a1] rfl (by (try simp only [List.map_toArray, List.map_cons, List.map_nil]); first | done | rfl | (simp only [List.length_drop, List.length_take]; rfl)) ?_; (with_reducible refine (spec_l1Below.calls g s0_0 s0_1 s0_2 a1 t162 t163 t164 w0 _ ?side1 ?side2 A3.out).mono ?_); (case side1 => repeat (first | (with_reducible first | exact HI0.out | apply IsS186.alloc | apply IsS186.drewN | apply IsS186.drew | apply IsS186.set_1 | apply IsS186.set_2) | exact HI0.out)); (case side2 => repeat (first | (with_reducible first | exact HB.out | apply qc0 | apply qa0 | apply qd0 | refine qi0 ?_ (IsS186.ge HI0.out)) | exact HB.out)); rintro e w4 ⟨rfl, hi, hb, hk⟩; refine ⟨_, rfl, ?_⟩; have n0_ := Aside0.mk (qj0.trans (by repeat (first | (with_reducible first | exact HK.out | apply qj0.set_ | apply qp0 | apply qr0 | apply qq0) | exact HK.out)) hk (.inl rfl)); have n1_ := Aside0.mk (hb); have n2_ := Aside0.mk (hi); clear HK; clear HB; clear HI0; have HK := n0_; have HB := n1_; have HI0 := n2_; clear n0_ n1_ n2_; (try clear hb); (try clear hb2); (try clear hk); (try clear hi)) | ((with_reducible refine qz0 (N := 15) rfl ?_); refine Kd.S_lit k52 _ 52 ?hg (N := 15) ?hd (xs := ([] : List (S52))) (inner := []) (ok := fun _ => True) (okp := fun _ => True) ?hr ?hp (fun _ hk => hk) trivial (Below.refl _ _) (Nat.le_refl _) (by simp) ?_; (case hd => rfl); (case hg => rfl); (case hr => first | (go_simp; done) | (go_simp; rfl)); (case hp => exact (Reps.none _ _)); intro v166 w5 ho6 hb hg_ hnew_; clear hg_ hnew_; (first | rw [← Ny165.out] at ho6 | (simp only [Int.reduceToNat] at ho6; rw [← Ny165.out] at ho6)); have n0_ := Aside0.mk (Kd.S_lower ho6 (keep_size (w := w) (g := g) (row := none) (by repeat (first | (with_reducible first | exact HK.out | apply qj0.set_ | apply qp0 | apply qr0 | apply qq0) | exact HK.out)))); have n1_ := Aside0.mk (IsS186.below (by repeat (first | (with_reducible first | exact HI0.out | apply IsS186.alloc | apply IsS186.drewN | apply IsS186.drew | apply IsS186.set_1 | apply IsS186.set_2) | exact HI0.out)) hb); have n2_ := Aside0.mk (qj0.trans (by repeat (first | (with_reducible first | exact HK.out | apply qj0.set_ | apply qp0 | apply qr0 | apply qq0) | exact HK.out)) (qj0.of_below hb g none) (.inl rfl)); have n3_ := Aside0.mk (qk0 (by repeat (first | (with_reducible first | exact HB.out | apply qc0 | apply qa0 | apply qd0 | refine qi0 ?_ (IsS186.ge HI0.out)) | exact HB.out)) hb); clear HI0; clear HK; clear HB; have HO167 := n0_; have HI0 := n1_; have HK := n2_; have HB := n3_; clear n0_ n1_ n2_ n3_; clear hb ho6))
 go_loopg [6, 7] k (fun kq v6 v7 w' => ∃ (x6_1 : List (S52)) (x7_1 : Int) (x1001_1 : Int) (x1002_1 : Int), v7 = .int .i64 x7_1 ∧ Aside0 (spec_l17DrawItems.l0 kq (wrap64 (2 + t162)) x6_1 x7_1 s0_0 x1001_1 x1002_1 = some (r1, r2, r3)) ∧ Aside0 (kq ≤ k) ∧ Aside0 (Kd.S k52 52 w' w.heap.size (fun _ => True) v6 x6_1) ∧ Aside0 (IsS186 w0 w' g s0_0 x1001_1 x1002_1) ∧ Aside0 (qj0 w w' g none) ∧ Aside0 (Below w0.heap.size w0 w'))
 case atStart => exact ⟨(y165), (0), (t163), (t164), (by first | rfl | (simp; done) | (simp [*]; done)), H', ⟨Nat.le_refl _⟩, ⟨by (with_reducible repeat (first | apply Kd.qx0 | apply Kd.qw0 | apply Kd.qd1)); exact HO167.out⟩, ⟨by repeat (first | (with_reducible first | exact HI0.out | apply IsS186.alloc | apply IsS186.drewN | apply IsS186.drew | apply IsS186.set_1 | apply IsS186.set_2) | exact HI0.out)⟩, ⟨by repeat (first | (with_reducible first | exact HK.out | apply qj0.set_ | apply qp0 | apply qr0 | apply qq0) | exact HK.out)⟩, ⟨by repeat (first | (with_reducible first | exact HB.out | apply qc0 | apply qa0 | apply qd0 | refine qi0 ?_ (IsS186.ge HI0.out)) | exact HB.out)⟩⟩
 case round =>
  clear H'
  try clear p2
  try clear c6
  try clear p6
  obtain ⟨x6_1, x7_1, x1001_1, x1002_1, rfl, HA, HK1, HO_6, HI0, HK, HB⟩ := hrel
  cases gk with
  | zero => exact absurd HA.out (by simp [spec_l17DrawItems.l0])
  | succ k1 =>
   have H := HA.out
   clear HA
   simp only [spec_l17DrawItems.l0] at H
   by_cases c7 : x7_1 < (wrap64 (2 + t162))
   ·rw [if_pos c7] at H
    have c7b0 : decide (x7_1 < (wrap64 (2 + t162))) = true := decide_eq_true c7
    clear c7
    replace H := Option.bind_eq_some_iff.mp H
    obtain ⟨t168, A80, H⟩ := H
    replace H : (if 1 + t168.size ≤ 9223372036854775807 then ((spec_l1PickInt.f s0_0 x1001_1 x1002_1 (([1, 1, 1, 5, 12] : List Int))).bind fun bt172 => ((spec_l1Below.f s0_0 bt172.2.1 bt172.2.2 4).bind fun bt176 => (spec_l17DrawItems.l1 k1 (wrap64 (2 + t162)) x6_1 x7_1 bt176.1 s0_0 bt176.2.1 bt176.2.2 ((⟨#[105]⟩ : ByteArray) ++ t168) bt172.1 false ([] : List (S54))))) else (none)) = some (r1, r2, r3) := H
    have A8 := Aside0.mk A80
    clear A80
    by_cases c9 : 1 + t168.size ≤ 9223372036854775807
    case neg => rw [if_neg c9] at H; exact absurd H (by simp)
    rw [if_pos c9] at H
    have c9b0 := eq_true c9
    have c9b1 : decide (1 + t168.size ≤ 9223372036854775807) = true := decide_eq_true c9
    try have c9b2 : (9223372036854775807 < 1 + t168.size) = False := eq_false (Nat.not_lt.2 c9)
    obtain ⟨y169, hy169⟩ : ∃ y_ : List Int, y_ = (([1, 1, 1, 5, 12] : List Int)) := ⟨_, rfl⟩
    replace H : ((spec_l1PickInt.f s0_0 x1001_1 x1002_1 y169).bind fun bt172 => ((spec_l1Below.f s0_0 bt172.2.1 bt172.2.2 4).bind fun bt176 => (spec_l17DrawItems.l1 k1 (wrap64 (2 + t162)) x6_1 x7_1 bt176.1 s0_0 bt176.2.1 bt176.2.2 ((⟨#[105]⟩ : ByteArray) ++ t168) bt172.1 false ([] : List (S54))))) = some (r1, r2, r3) := by first | (rw [hy169]; with_reducible exact H) | (have H2_ := (Option.bind_some _ _).symm.trans H; rw [hy169]; with_reducible exact H2_) | (have H2_ := (Option.bind_some _ _).symm.trans H; with_reducible exact H2_) | with_reducible exact H | (rw [hy169]; exact H) | exact H
    have Ny169 := Aside0.mk hy169
    clear hy169
    replace H := Option.bind_eq_some_iff.mp H
    obtain ⟨⟨t172, t173, t174⟩, A100, H⟩ := H
    replace H : ((spec_l1Below.f s0_0 t173 t174 4).bind fun bt176 => (spec_l17DrawItems.l1 k1 (wrap64 (2 + t162)) x6_1 x7_1 bt176.1 s0_0 bt176.2.1 bt176.2.2 ((⟨#[105]⟩ : ByteArray) ++ t168) t172 false ([] : List (S54)))) = some (r1, r2, r3) := H
    have A10 := Aside0.mk A100
    clear A100
    replace H := Option.bind_eq_some_iff.mp H
    obtain ⟨⟨t176, t177, t178⟩, A110, H⟩ := H
    replace H : (spec_l17DrawItems.l1 k1 (wrap64 (2 + t162)) x6_1 x7_1 t176 s0_0 t177 t178 ((⟨#[105]⟩ : ByteArray) ++ t168) t172 false ([] : List (S54))) = some (r1, r2, r3) := H
    have A11 := Aside0.mk A110
    clear A110
    have HC12 := Aside0.mk H
    clear H
    go_upto_block 2 with (first | ((with_reducible refine qs0 (f := 94) rfl ?_); refine qk1 (some 22) rfl rfl Try.func94 (by kernel_rfl) rfl #[.int .i64 x7_1] rfl (by (try simp only [List.map_toArray, List.map_cons, List.map_nil]); first | done | rfl | (simp only [List.length_drop, List.length_take]; rfl)) ?_; (with_reducible refine (spec_l1Text.calls k1 x7_1 t168 _ A8.out).mono ?_); rintro e w13 ⟨rfl, hb⟩; refine ⟨_, rfl, ?_⟩; have n0_ := Aside0.mk (Kd.qr1 (by (with_reducible repeat (first | apply Kd.qx0 | apply Kd.qw0 | apply Kd.qd1)); exact HO_6.out) hb); have n1_ := Aside0.mk (IsS186.below (by repeat (first | (with_reducible first | exact HI0.out | apply IsS186.alloc | apply IsS186.drewN | apply IsS186.drew | apply IsS186.set_1 | apply IsS186.set_2) | exact HI0.out)) hb); have n2_ := Aside0.mk (qj0.trans (by repeat (first | (with_reducible first | exact HK.out | apply qj0.set_ | apply qp0 | apply qr0 | apply qq0) | exact HK.out)) (qj0.of_below hb g none) (.inl rfl)); have n3_ := Aside0.mk (qk0 (by repeat (first | (with_reducible first | exact HB.out | apply qc0 | apply qa0 | apply qd0 | refine qi0 ?_ (IsS186.ge HI0.out)) | exact HB.out)) hb); clear HO_6; clear HI0; clear HK; clear HB; have HO_6 := n0_; have HI0 := n1_; have HK := n2_; have HB := n3_; clear n0_ n1_ n2_ n3_; (try clear hb); (try clear hb2); (try clear hk); (try clear hi)) | ((with_reducible refine qz0 (N := 25) rfl ?_); refine Kd.R_lit (Kd.int .i64) _ 3 ?hg (N := 25) ?hd (xs := ([1, 1, 1, 5, 12] : List Int)) (inner := [.int .i64 1, .int .i64 1, .int .i64 1, .int .i64 5, .int .i64 12]) (ok := fun _ => True) (okp := fun _ => True) ?hr ?hp (fun _ hk => hk) trivial (Below.refl _ _) (Nat.le_refl _) (by simp) ?_; (case hd => rfl); (case hg => rfl); (case hr => first | (go_simp; done) | (go_simp; rfl)); (case hp => exact (Reps.one (show Kd.M (Kd.int .i64) _ _ _ 1 [.int .i64 1] from rfl) (Reps.one (show Kd.M (Kd.int .i64) _ _ _ 1 [.int .i64 1] from rfl) (Reps.one (show Kd.M (Kd.int .i64) _ _ _ 1 [.int .i64 1] from rfl) (Reps.one (show Kd.M (Kd.int .i64) _ _ _ 5 [.int .i64 5] from rfl) (Reps.one (show Kd.M (Kd.int .i64) _ _ _ 12 [.int .i64 12] from rfl) (Reps.none _ _))))))); intro v170 w14 ho15 hb hg_ hnew_; clear hg_ hnew_; (first | rw [← Ny169.out] at ho15 | (simp only [Int.reduceToNat] at ho15; rw [← Ny169.out] at ho15)); have n0_ := Aside0.mk (Kd.qr1 (by (with_reducible repeat (first | apply Kd.qx0 | apply Kd.qw0 | apply Kd.qd1)); exact HO_6.out) hb); have n1_ := Aside0.mk (Kd.qw1 ho15 (keep_size (w := w) (g := g) (row := none) (by repeat (first | (with_reducible first | exact HK.out | apply qj0.set_ | apply qp0 | apply qr0 | apply qq0) | exact HK.out)))); have n2_ := Aside0.mk (IsS186.below (by repeat (first | (with_reducible first | exact HI0.out | apply IsS186.alloc | apply IsS186.drewN | apply IsS186.drew | apply IsS186.set_1 | apply IsS186.set_2) | exact HI0.out)) hb); have n3_ := Aside0.mk (qj0.trans (by repeat (first | (with_reducible first | exact HK.out | apply qj0.set_ | apply qp0 | apply qr0 | apply qq0) | exact HK.out)) (qj0.of_below hb g none) (.inl rfl)); have n4_ := Aside0.mk (qk0 (by repeat (first | (with_reducible first | exact HB.out | apply qc0 | apply qa0 | apply qd0 | refine qi0 ?_ (IsS186.ge HI0.out)) | exact HB.out)) hb); clear HO_6; clear HI0; clear HK; clear HB; have HO_6 := n0_; have HO171 := n1_; have HI0 := n2_; have HK := n3_; have HB := n4_; clear n0_ n1_ n2_ n3_ n4_; clear hb ho15; obtain ⟨Ao16, co16, eo16⟩ := Kd.qm1 HO171.out; subst eo16) | ((with_reducible refine qs0 (f := 64) rfl ?_); refine qk1 (some 26) rfl rfl Try.func64 (by kernel_rfl) rfl #[.pointer (some ⟨g, 0, none⟩), .slice Ao16 y169.length co16] rfl (by (try simp only [List.map_toArray, List.map_cons, List.map_nil]); first | done | rfl | (simp only [List.length_drop, List.length_take]; rfl)) ?_; (with_reducible refine (spec_l1PickInt.calls g s0_0 x1001_1 x1002_1 _ _ y169 t172 t173 t174 w0 _ ?side1 ?side2 ?side3 ?side4 ?side5 A10.out).mono ?_); (case side1 => repeat (first | (with_reducible first | exact HI0.out | apply IsS186.alloc | apply IsS186.drewN | apply IsS186.drew | apply IsS186.set_1 | apply IsS186.set_2) | exact HI0.out)); (case side2 => repeat (first | (with_reducible first | exact HB.out | apply qc0 | apply qa0 | apply qd0 | refine qi0 ?_ (IsS186.ge HI0.out)) | exact HB.out)); (case side3 => repeat (first | exact (Kd.qv0 HO171.out).2.2 | (with_reducible refine Kd.qj1 ?_ _) | (with_reducible refine Kd.qi1 ?_ _) | (with_reducible refine Kd.qn1 ?_))); (case side4 => exact (Kd.qv0 HO171.out).2.1); (case side5 => exact far_slice (IsS186.own_ne HI0.out HO171.out (by decide))); rintro e w17 ⟨rfl, hi, hb, hk⟩; refine ⟨_, rfl, ?_⟩; have n0_ := Aside0.mk (Kd.qt1 (Kd.S_keep (IsS186.apartS (show IsS186 w0 _ g s0_0 x1001_1 x1002_1 from by repeat (first | (with_reducible first | exact HI0.out | apply IsS186.alloc | apply IsS186.drewN | apply IsS186.drew | apply IsS186.set_1 | apply IsS186.set_2) | exact HI0.out)) (by (with_reducible repeat (first | apply Kd.qx0 | apply Kd.qw0 | apply Kd.qd1)); exact HO_6.out) (by decide)) hk (fun _ h => h.2)) (fun _ h => h.1)); have n1_ := Aside0.mk (Kd.R_mono (Kd.R_keep (IsS186.apart (show IsS186 w0 _ g s0_0 x1001_1 x1002_1 from by repeat (first | (with_reducible first | exact HI0.out | apply IsS186.alloc | apply IsS186.drewN | apply IsS186.drew | apply IsS186.set_1 | apply IsS186.set_2) | exact HI0.out)) (by (with_reducible repeat (first | apply Kd.qo0 | apply Kd.qn0 | apply Kd.qt0)); exact HO171.out) (by decide)) hk (fun _ h => h.2)) (fun _ h => h.1)); have n2_ := Aside0.mk (qj0.trans (by repeat (first | (with_reducible first | exact HK.out | apply qj0.set_ | apply qp0 | apply qr0 | apply qq0) | exact HK.out)) hk (.inl rfl)); have n3_ := Aside0.mk (hb); have n4_ := Aside0.mk (hi); clear HO_6; clear HO171; clear HK; clear HB; clear HI0; have HO_6 := n0_; have HO171 := n1_; have HK := n2_; have HB := n3_; have HI0 := n4_; clear n0_ n1_ n2_ n3_ n4_; (try clear hb); (try clear hb2); (try clear hk); (try clear hi)) | ((with_reducible refine qz0 (N := 8) rfl ?_); refine qg1 ?hg (N := 8) ?hd (cs := #[.string (⟨#[]⟩ : ByteArray), .int .i64 0, .bool false, .slice none 0 0, .slice none 0 0]) (t := 52) ?hr ?_; (case hd => rfl); (case hg => rfl); (case hr => first | (go_simp; done) | (go_simp; rfl)); intro gb175 hg w18 hbox hb; have n0_ := Aside0.mk (Kd.qr1 (Kd.S_elderB (by (with_reducible repeat (first | apply Kd.qx0 | apply Kd.qw0 | apply Kd.qd1)); exact HO_6.out) gb175 (Nat.le_of_eq hg.symm)) hb); have n1_ := Aside0.mk (Kd.qs1 (by (with_reducible repeat (first | apply Kd.qo0 | apply Kd.qn0 | apply Kd.qt0)); exact HO171.out) hb); have n2_ := Aside0.mk (IsS186.below (by repeat (first | (with_reducible first | exact HI0.out | apply IsS186.alloc | apply IsS186.drewN | apply IsS186.drew | apply IsS186.set_1 | apply IsS186.set_2) | exact HI0.out)) hb); have n3_ := Aside0.mk (qj0.trans (by repeat (first | (with_reducible first | exact HK.out | apply qj0.set_ | apply qp0 | apply qr0 | apply qq0) | exact HK.out)) (qj0.of_below hb g none) (.inl rfl)); have n4_ := Aside0.mk (qk0 (by repeat (first | (with_reducible first | exact HB.out | apply qc0 | apply qa0 | apply qd0 | refine qi0 ?_ (IsS186.ge HI0.out)) | exact HB.out)) hb); have n5_ := Aside0.mk (hbox); have n6_ := Aside0.mk ((by rw [hg]; exact (keep_size (w := w) (g := g) (row := none) (by repeat (first | (with_reducible first | exact HK.out | apply qj0.set_ | apply qp0 | apply qr0 | apply qq0) | exact HK.out))) : w.heap.size ≤ gb175)); have n7_ := Aside0.mk ((Nat.le_trans HW0.out (by rw [hg]; exact (keep_size (w := w) (g := g) (row := none) (by repeat (first | (with_reducible first | exact HK.out | apply qj0.set_ | apply qp0 | apply qr0 | apply qq0) | exact HK.out))) : w.heap.size ≤ gb175) : w0.heap.size ≤ gb175)); have n8_ := Aside0.mk ((by rw [hg]; exact Nat.ne_of_lt (IsS186.lt (show IsS186 w0 _ g s0_0 t173 t174 from by repeat (first | (with_reducible first | exact HI0.out | apply IsS186.alloc | apply IsS186.drewN | apply IsS186.drew | apply IsS186.set_1 | apply IsS186.set_2) | exact HI0.out))) : g ≠ gb175)); have n9_ := Aside0.mk ((by rw [hg]; exact Nat.ne_of_gt (IsS186.lt (show IsS186 w0 _ g s0_0 t173 t174 from by repeat (first | (with_reducible first | exact HI0.out | apply IsS186.alloc | apply IsS186.drewN | apply IsS186.drew | apply IsS186.set_1 | apply IsS186.set_2) | exact HI0.out))) : gb175 ≠ g)); clear HO_6; clear HO171; clear HI0; clear HK; clear HB; have HO_6 := n0_; have HO171 := n1_; have HI0 := n2_; have HK := n3_; have HB := n4_; have BK175 := n5_; have GW175 := n6_; have GE175 := n7_; have NB0_175 := n8_; have NB175_0 := n9_; clear n0_ n1_ n2_ n3_ n4_ n5_ n6_ n7_ n8_ n9_; clear hb hbox hg; have hnb19 := NB175_0.out; have hnc19 := NB0_175.out; have hcz20_0 : w18.cell? ⟨gb175, 0, none⟩ = some (.string (⟨#[]⟩ : ByteArray)) := (qe0 BK175.out 0).trans rfl; have hcz20_1 : w18.cell? ⟨gb175, 1, none⟩ = some (.int .i64 0) := (qe0 BK175.out 1).trans rfl; have hcz20_2 : w18.cell? ⟨gb175, 2, none⟩ = some (.bool false) := (qe0 BK175.out 2).trans rfl; have hcz20_3 : w18.cell? ⟨gb175, 3, none⟩ = some (.slice none 0 0) := (qe0 BK175.out 3).trans rfl; have hcz20_4 : w18.cell? ⟨gb175, 4, none⟩ = some (.slice none 0 0) := (qe0 BK175.out 4).trans rfl; have hfz20_0 := qb0 BK175.out 0; have hfz20_1 := qb0 BK175.out 1; have hfz20_2 := qb0 BK175.out 2; have hfz20_3 := qb0 BK175.out 3; have hfz20_4 := qb0 BK175.out 4) | ((with_reducible refine qs0 (f := 61) rfl ?_); refine qk1 (some 29) rfl rfl Try.func61 (by kernel_rfl) rfl #[.pointer (some ⟨g, 0, none⟩), .int .i64 4] rfl (by (try simp only [List.map_toArray, List.map_cons, List.map_nil]); first | done | rfl | (simp only [List.length_drop, List.length_take]; rfl)) ?_; (with_reducible refine (spec_l1Below.calls g s0_0 t173 t174 4 t176 t177 t178 w0 _ ?side1 ?side2 A11.out).mono ?_); (case side1 => repeat (first | (with_reducible first | exact HI0.out | apply IsS186.alloc | apply IsS186.drewN | apply IsS186.drew | apply IsS186.set_1 | apply IsS186.set_2 | refine IsS186.far ?_ NB0_175.out _) | exact HI0.out)); (case side2 => repeat (first | (with_reducible first | exact HB.out | apply qc0 | apply qa0 | apply qd0 | refine qi0 ?_ (IsS186.ge HI0.out) | refine qi0 ?_ GE175.out) | exact HB.out)); rintro e w21 ⟨rfl, hi, hb, hk⟩; refine ⟨_, rfl, ?_⟩; have n0_ := Aside0.mk (Kd.qt1 (Kd.S_keep (IsS186.apartS (show IsS186 w0 _ g s0_0 t173 t174 from by repeat (first | (with_reducible first | exact HI0.out | apply IsS186.alloc | apply IsS186.drewN | apply IsS186.drew | apply IsS186.set_1 | apply IsS186.set_2 | refine IsS186.far ?_ NB0_175.out _) | exact HI0.out)) (by (with_reducible repeat (first | apply Kd.qx0 | apply Kd.qw0 | apply Kd.qd1)); exact (Kd.qt1 (Kd.S_far (p := ⟨gb175, 4, none⟩) (Kd.S_far (p := ⟨gb175, 3, none⟩) (Kd.S_far (p := ⟨gb175, 2, none⟩) (Kd.S_far (p := ⟨gb175, 1, none⟩) (Kd.S_far (p := ⟨gb175, 0, none⟩) (Kd.qt1 HO_6.out (fun k_ hk => (⟨hk, hk.2⟩ : _ ∧ k_ ≠ gb175))) (fun _ hk => hk.2) (.string ((⟨#[105]⟩ : ByteArray) ++ t168))) (fun _ hk => hk.2) (.int .i64 t172)) (fun _ hk => hk.2) (.bool false)) (fun _ hk => hk.2) (.slice none 0 0)) (fun _ hk => hk.2) (.slice none 0 0)) (fun _ h_ => h_.1))) (by decide)) hk (fun _ h => h.2)) (fun _ h => h.1)); have n1_ := Aside0.mk (Kd.R_mono (Kd.R_keep (IsS186.apart (show IsS186 w0 _ g s0_0 t173 t174 from by repeat (first | (with_reducible first | exact HI0.out | apply IsS186.alloc | apply IsS186.drewN | apply IsS186.drew | apply IsS186.set_1 | apply IsS186.set_2 | refine IsS186.far ?_ NB0_175.out _) | exact HI0.out)) (by (with_reducible repeat (first | apply Kd.qo0 | apply Kd.qn0 | apply Kd.qt0)); exact (Kd.R_mono (Kd.R_far (p := ⟨gb175, 4, none⟩) (Kd.R_far (p := ⟨gb175, 3, none⟩) (Kd.R_far (p := ⟨gb175, 2, none⟩) (Kd.R_far (p := ⟨gb175, 1, none⟩) (Kd.R_far (p := ⟨gb175, 0, none⟩) (Kd.qx1 HO171.out BK175.out (by decide)) (fun _ hk => hk.2) (.string ((⟨#[105]⟩ : ByteArray) ++ t168))) (fun _ hk => hk.2) (.int .i64 t172)) (fun _ hk => hk.2) (.bool false)) (fun _ hk => hk.2) (.slice none 0 0)) (fun _ hk => hk.2) (.slice none 0 0)) (fun _ h_ => h_.1))) (by decide)) hk (fun _ h => h.2)) (fun _ h => h.1)); have n2_ := Aside0.mk (qj0.blk hk (g' := gb175) (o := .cells #[.string ((⟨#[105]⟩ : ByteArray) ++ t168), .int .i64 t172, .bool false, .slice none 0 0, .slice none 0 0] 52 (0, 0)) (by (with_reducible repeat (first | refine qg0 ?_ _ | refine qh0 ?_ | refine qf0 ?_ _)); refine ql0 (cs := #[.string ((⟨#[105]⟩ : ByteArray) ++ t168), .int .i64 t172, .bool false, .slice none 0 0, .slice none 0 0]) ?_ 4 _ rfl; (with_reducible repeat (first | refine qg0 ?_ _ | refine qh0 ?_ | refine qf0 ?_ _)); refine ql0 (cs := #[.string ((⟨#[105]⟩ : ByteArray) ++ t168), .int .i64 t172, .bool false, .slice none 0 0, .slice none 0 0]) ?_ 3 _ rfl; (with_reducible repeat (first | refine qg0 ?_ _ | refine qh0 ?_ | refine qf0 ?_ _)); refine ql0 (cs := #[.string ((⟨#[105]⟩ : ByteArray) ++ t168), .int .i64 t172, .bool false, .slice none 0 0, .slice none 0 0]) ?_ 2 _ rfl; (with_reducible repeat (first | refine qg0 ?_ _ | refine qh0 ?_ | refine qf0 ?_ _)); refine ql0 (cs := #[.string ((⟨#[105]⟩ : ByteArray) ++ t168), .int .i64 0, .bool false, .slice none 0 0, .slice none 0 0]) ?_ 1 _ rfl; (with_reducible repeat (first | refine qg0 ?_ _ | refine qh0 ?_ | refine qf0 ?_ _)); refine ql0 (cs := #[.string (⟨#[]⟩ : ByteArray), .int .i64 0, .bool false, .slice none 0 0, .slice none 0 0]) ?_ 0 _ rfl; (with_reducible repeat (first | refine qg0 ?_ _ | refine qh0 ?_ | refine qf0 ?_ _)); exact BK175.out) NB175_0.out (by simp)); have n3_ := Aside0.mk (qj0.trans (by repeat (first | (with_reducible first | exact HK.out | apply qj0.set_ | apply qp0 | apply qr0 | apply qq0 | refine qu0 ?_ GW175.out _) | exact HK.out)) hk (.inl rfl)); have n4_ := Aside0.mk (hb); have n5_ := Aside0.mk (hi); clear HO_6; clear HO171; clear BK175; clear HK; clear HB; clear HI0; have HO_6 := n0_; have HO171 := n1_; have BK175 := n2_; have HK := n3_; have HB := n4_; have HI0 := n5_; clear n0_ n1_ n2_ n3_ n4_ n5_; (try clear hb); (try clear hb2); (try clear hk); (try clear hi)))
    (try simp only [Act.put, List.setIfInBounds_toArray, List.set_cons_zero, List.set_cons_succ])
    go_cut [] (fun wc => ∃ (kq : Nat) (x1001_11 : Int) (x1002_11 : Int) (x176003_11 : List (S54)) (u176003 : Value), Aside0 (spec_l17DrawItems.j2 kq (wrap64 (2 + t162)) x6_1 x7_1 s0_0 x1001_11 x1002_11 ((⟨#[105]⟩ : ByteArray) ++ t168) t172 false x176003_11 = some (r1, r2, r3)) ∧ Aside0 (kq ≤ k1) ∧ Aside0 (Kd.S k52 52 wc w.heap.size (fun k_ => some k_ ≠ (u176003 : Value).ownBlock ∧ k_ ≠ gb175) u6 x6_1) ∧ Aside0 (Kd.R k54 54 wc w.heap.size (fun _ => True) u176003 x176003_11) ∧ Aside0 (wc.heap[gb175]? = some (.cells #[.string ((⟨#[105]⟩ : ByteArray) ++ t168), .int .i64 t172, .bool false, u176003, (.slice none 0 0)] 52 (0, 0))) ∧ Aside0 (IsS186 w0 wc g s0_0 x1001_11 x1002_11) ∧ Aside0 (qj0 w wc g none) ∧ Aside0 (Below w0.heap.size w0 wc))
    case first =>
     have H := HC12.out
     clear HC12
     have H' := Aside0.mk H
     clear H
     go_wp2
     go_loopg [9] k1 (fun kq v9 w' => ∃ (x9_2 : Int) (x1001_2 : Int) (x1002_2 : Int) (x176003_2 : List (S54)) (u176003 : Value), v9 = .int .i64 x9_2 ∧ Aside0 (spec_l17DrawItems.l1 kq (wrap64 (2 + t162)) x6_1 x7_1 x9_2 s0_0 x1001_2 x1002_2 ((⟨#[105]⟩ : ByteArray) ++ t168) t172 false x176003_2 = some (r1, r2, r3)) ∧ Aside0 (kq ≤ k1) ∧ Aside0 (Kd.S k52 52 w' w.heap.size (fun k_ => some k_ ≠ (u176003 : Value).ownBlock ∧ k_ ≠ gb175) u6 x6_1) ∧ Aside0 (Kd.R k54 54 w' w.heap.size (fun _ => True) u176003 x176003_2) ∧ Aside0 (w'.heap[gb175]? = some (.cells #[.string ((⟨#[105]⟩ : ByteArray) ++ t168), .int .i64 t172, .bool false, u176003, (.slice none 0 0)] 52 (0, 0))) ∧ Aside0 (IsS186 w0 w' g s0_0 x1001_2 x1002_2) ∧ Aside0 (qj0 w w' g none) ∧ Aside0 (Below w0.heap.size w0 w'))
     case atStart => exact ⟨(t176), (t177), (t178), (([] : List (S54))), (.slice none 0 0), (by first | rfl | (simp; done) | (simp [*]; done)), H', ⟨Nat.le_refl _⟩, ⟨by (with_reducible repeat (first | apply Kd.qx0 | apply Kd.qw0 | apply Kd.qd1)); exact Kd.qt1 HO_6.out (fun _ hk => ⟨(by simp [Value.ownBlock]), hk.2⟩)⟩, ⟨by first | exact Kd.R_nil _ _ _ _ _ | exact Kd.N_nil _ _ _ _ _ | exact Kd.V_nil _ _ _ _ _ | exact Kd.Q_nil _ _ _ _ _ | exact Kd.S_nil _ _ _ _ _⟩, ⟨by (with_reducible repeat (first | refine qg0 ?_ _ | refine qh0 ?_ | refine qf0 ?_ _)); exact BK175.out⟩, ⟨by repeat (first | (with_reducible first | exact HI0.out | apply IsS186.alloc | apply IsS186.drewN | apply IsS186.drew | apply IsS186.set_1 | apply IsS186.set_2 | refine IsS186.far ?_ NB0_175.out _) | exact HI0.out)⟩, ⟨by repeat (first | (with_reducible first | exact HK.out | apply qj0.set_ | apply qp0 | apply qr0 | apply qq0 | refine qu0 ?_ GW175.out _) | exact HK.out)⟩, ⟨by repeat (first | (with_reducible first | exact HB.out | apply qc0 | apply qa0 | apply qd0 | refine qi0 ?_ (IsS186.ge HI0.out) | refine qi0 ?_ GE175.out) | exact HB.out)⟩⟩
     case round =>
      clear H'
      try clear c1
      try clear p2
      try clear c6
      try clear p6
      try clear c7
      try clear c7b0
      try clear c8
      try clear c9
      try clear c9b0
      try clear c9b1
      try clear c9b2
      try clear c19
      try clear hcz20_0
      try clear hcz20_1
      try clear hcz20_2
      try clear hcz20_3
      try clear hcz20_4
      try clear hfz20_0
      try clear hfz20_1
      try clear hfz20_2
      try clear hfz20_3
      try clear hfz20_4
      try clear p2
      try clear p6
      obtain ⟨x9_2, x1001_2, x1002_2, x176003_2, u176003, rfl, HA, HK2, HO_6, HO_176003, BK175, HI0, HK, HB⟩ := hrel
      cases gk with
      | zero => exact absurd HA.out (by simp [spec_l17DrawItems.l1])
      | succ k2 =>
       have H := HA.out
       clear HA
       simp only [spec_l17DrawItems.l1] at H
       by_cases c22 : x9_2 > 0
       ·rw [if_pos c22] at H
        have c22b0 : decide (0 < x9_2) = true := decide_eq_true c22
        clear c22
        (first | rw [c22b0] | (simp only [i64_w, i32_w]; rw [c22b0]) | skip)
        by_cases c23 : x7_1 < (wrap64 ((wrap64 (2 + t162)) - 1))
        ·rw [if_pos c23] at H
         have c23b0 : decide (x7_1 < (wrap64 ((wrap64 (2 + t162)) - 1))) = true := decide_eq_true c23
         clear c23
         replace H := Option.bind_eq_some_iff.mp H
         obtain ⟨⟨t179, t180, t181, t182, t183, t184, t185, t186⟩, A240, H⟩ := H
         replace H : (if x176003_2.length < 2932031007402 then (spec_l17DrawItems.l1 k2 (wrap64 (2 + t162)) x6_1 x7_1 (wrap64 (x9_2 - 1)) s0_0 t185 t186 ((⟨#[105]⟩ : ByteArray) ++ t168) t172 false (x176003_2 ++ [(⟨t179, t180, t181, t182, t183, t184⟩ : S54)])) else (none)) = some (r1, r2, r3) := H
         have A24 := Aside0.mk A240
         clear A240
         by_cases c25 : x176003_2.length < 2932031007402
         case neg => rw [if_neg c25] at H; exact absurd H (by simp)
         rw [if_pos c25] at H
         have LMc25 := Aside0.mk c25
         clear c25
         obtain ⟨y187, hy187⟩ : ∃ y_ : List (S54), y_ = (x176003_2 ++ [(⟨t179, t180, t181, t182, t183, t184⟩ : S54)]) := ⟨_, rfl⟩
         replace H : (spec_l17DrawItems.l1 k2 (wrap64 (2 + t162)) x6_1 x7_1 (wrap64 (x9_2 - 1)) s0_0 t185 t186 ((⟨#[105]⟩ : ByteArray) ++ t168) t172 false y187) = some (r1, r2, r3) := by first | (rw [hy187]; with_reducible exact H) | (have H2_ := (Option.bind_some _ _).symm.trans H; rw [hy187]; with_reducible exact H2_) | (have H2_ := (Option.bind_some _ _).symm.trans H; with_reducible exact H2_) | with_reducible exact H | (rw [hy187]; exact H) | exact H
         have Ny187 := Aside0.mk hy187
         clear hy187
         have H' := Aside0.mk H
         clear H
         try go_wp2
         have n0_ := Aside0.mk (Kd.qd1 HO_6.out)
         have n1_ := Aside0.mk (Kd.qt0 HO_176003.out)
         have n2_ := Aside0.mk (qh0 BK175.out)
         have n3_ := Aside0.mk (IsS186.drew HI0.out)
         have n4_ := Aside0.mk (qr0 HK.out)
         have n5_ := Aside0.mk (qd0 HB.out)
         clear HO_6
         clear HO_176003
         clear BK175
         clear HI0
         clear HK
         clear HB
         have HO_6 := n0_
         have HO_176003 := n1_
         have BK175 := n2_
         have HI0 := n3_
         have HK := n4_
         have HB := n5_
         clear n0_ n1_ n2_ n3_ n4_ n5_
         refine start_ (n := 10) (S := fun w' => w'.cell? ⟨gb175, 0, none⟩ = some (.string ((⟨#[105]⟩ : ByteArray) ++ t168)) ∧ w'.cell? ⟨gb175, 1, none⟩ = some (.int .i64 t172) ∧ w'.cell? ⟨gb175, 2, none⟩ = some (.bool false) ∧ w'.cell? ⟨gb175, 3, none⟩ = some (u176003) ∧ w'.cell? ⟨gb175, 4, none⟩ = some (.slice none 0 0)) (ds := [9]) #[false, false, false, false, false, false, false, false, false, false] (by kernel_rfl) rfl rfl ⟨(qe0 BK175.out 0).trans rfl, (qe0 BK175.out 1).trans rfl, (qe0 BK175.out 2).trans rfl, (qe0 BK175.out 3).trans rfl, (qe0 BK175.out 4).trans rfl⟩ (fun hHeld => ?_); refine with_tabW spec_l17DrawItems.tab10 spec_l17DrawItems.bits10 (fun HT_ HW_ => ?_)
         generalize wr.drew = w26 at HO_6 HO_176003 BK175 HI0 HK HB hHeld ⊢
         refine pure_ (i := 0) (N := some 40) (v := ?_) (a' := ?_) #[true, false, false, false, false, false, false, false, false, false] rfl rfl (qf1 HT_.out (by kernel_rfl)) (fun _ _ _ h => h) (Or.inl ⟨by rfl, ?_⟩) ?_ ?_
         rotate_left
         ·intro w'
          go_simp
          with_reducible rfl
         rotate_left
         ·simp only [Act.put, List.setIfInBounds_toArray, List.set_cons_zero, List.set_cons_succ, i64_w, i32_w]
          rfl
         refine pure_ (i := 2) (N := some 42) (v := ?_) (a' := ?_) #[true, false, true, false, false, false, false, false, false, false] rfl rfl (qf1 HT_.out (by kernel_rfl)) (fun _ _ _ h => h) (Or.inl ⟨by rfl, ?_⟩) ?_ ?_
         rotate_left
         ·intro w'
          go_simp
          with_reducible rfl
         rotate_left
         ·simp only [Act.put, List.setIfInBounds_toArray, List.set_cons_zero, List.set_cons_succ, i64_w, i32_w]
          rfl
         refine pure_ (i := 3) (N := some 43) (v := ?_) (a' := ?_) #[true, false, true, true, false, false, false, false, false, false] rfl rfl (qf1 HT_.out (by kernel_rfl)) (fun _ _ _ h => h) (Or.inl ⟨by rfl, ?_⟩) ?_ ?_
         rotate_left
         ·intro w'
          go_simp
          with_reducible rfl
         rotate_left
         ·simp only [Act.put, List.setIfInBounds_toArray, List.set_cons_zero, List.set_cons_succ, i64_w, i32_w]
          rfl
         refine pure_ (i := 4) (N := some 44) (v := ?_) (a' := ?_) #[true, false, true, true, true, false, false, false, false, false] rfl rfl (qf1 HT_.out (by kernel_rfl)) (fun _ _ _ h => h) (Or.inl ⟨by rfl, ?_⟩) ?_ ?_
         rotate_left
         ·intro w'
          go_simp
          with_reducible rfl
         rotate_left
         ·simp only [Act.put, List.setIfInBounds_toArray, List.set_cons_zero, List.set_cons_succ, i64_w, i32_w]
          rfl
         refine take_ (i := 1) (N := some 41) (v := ?_) (a' := ?_) #[true, true, true, true, true, false, false, false, false, false] rfl rfl (take_ofW HT_.out HW_.out (by kernel_rfl)) (fun _ _ _ h => h) (Or.inl ⟨by rfl, ?_⟩) hHeld ?_ ?_
         rotate_left
         ·rintro w' ⟨s0, s1, s2, s3, s4⟩
          go_simp
          with_reducible rfl
         rotate_left
         ·simp only [Act.put, List.setIfInBounds_toArray, List.set_cons_zero, List.set_cons_succ, i64_w, i32_w]
          rfl
         refine one_ (i := 5) (N := some 45) #[true, true, true, true, true, true, false, false, false, false] rfl rfl (one_of HT_.out (by kernel_rfl)) (by decide) (fun K hK => ?_)
         refine goes_ Try.func137 (by kernel_rfl) rfl #[.pointer (some ⟨g, 0, none⟩), .int .i64 x7_1, .int .i64 (wrap64 (2 + t162))] (by rfl) rfl rfl (by (try simp only [List.map_toArray, List.map_cons, List.map_nil]); first | done | rfl | (simp only [List.length_drop, List.length_take]; rfl)) ?_
         with_reducible refine (spec_l17DrawPart.calls k2 g s0_0 x1001_2 x1002_2 x7_1 (wrap64 (2 + t162)) t179 t180 t181 t182 t183 t184 t185 t186 w0 _ ?side1 ?side2 A24.out).mono ?_
         (case side1 => repeat (first | (with_reducible first | exact HI0.out | apply IsS186.alloc | apply IsS186.drewN | apply IsS186.drew | apply IsS186.set_1 | apply IsS186.set_2 | refine IsS186.far ?_ NB0_175.out _) | exact HI0.out))
         (case side2 => repeat (first | (with_reducible first | exact HB.out | apply qc0 | apply qa0 | apply qd0 | refine qi0 ?_ (IsS186.ge HI0.out) | refine qi0 ?_ GE175.out) | exact HB.out))
         rintro e w27 ⟨rfl, hi, hb, hk⟩
         refine ⟨_, rfl, ?_⟩
         have n0_ := Aside0.mk (Kd.qt1 (Kd.S_keep (IsS186.apartS (show IsS186 w0 _ g s0_0 x1001_2 x1002_2 from by repeat (first | (with_reducible first | exact HI0.out | apply IsS186.alloc | apply IsS186.drewN | apply IsS186.drew | apply IsS186.set_1 | apply IsS186.set_2 | refine IsS186.far ?_ NB0_175.out _) | exact HI0.out)) (by (with_reducible repeat (first | apply Kd.qx0 | apply Kd.qw0 | apply Kd.qd1)); exact HO_6.out) (by decide)) hk (fun _ h => h.2)) (fun _ h => h.1))
         have n1_ := Aside0.mk (Kd.R_mono (Kd.R_keep (IsS186.apart (show IsS186 w0 _ g s0_0 x1001_2 x1002_2 from by repeat (first | (with_reducible first | exact HI0.out | apply IsS186.alloc | apply IsS186.drewN | apply IsS186.drew | apply IsS186.set_1 | apply IsS186.set_2 | refine IsS186.far ?_ NB0_175.out _) | exact HI0.out)) (by (with_reducible repeat (first | apply Kd.qo0 | apply Kd.qn0 | apply Kd.qt0)); exact HO_176003.out) (by decide)) hk (fun _ h => h.2)) (fun _ h => h.1))
         have n2_ := Aside0.mk (qj0.blk hk (g' := gb175) (o := .cells #[.string ((⟨#[105]⟩ : ByteArray) ++ t168), .int .i64 t172, .bool false, u176003, .slice none 0 0] 52 (0, 0)) (by (with_reducible repeat (first | refine qg0 ?_ _ | refine qh0 ?_ | refine qf0 ?_ _)); exact BK175.out) NB175_0.out (by simp))
         have n3_ := Aside0.mk (qj0.trans (by repeat (first | (with_reducible first | exact HK.out | apply qj0.set_ | apply qp0 | apply qr0 | apply qq0 | refine qu0 ?_ GW175.out _) | exact HK.out)) hk (.inl rfl))
         have n4_ := Aside0.mk (hb)
         have n5_ := Aside0.mk (hi)
         clear HO_6
         clear HO_176003
         clear BK175
         clear HK
         clear HB
         clear HI0
         have HO_6 := n0_
         have HO_176003 := n1_
         have BK175 := n2_
         have HK := n3_
         have HB := n4_
         have HI0 := n5_
         clear n0_ n1_ n2_ n3_ n4_ n5_
         (try clear hb)
         (try clear hb2)
         (try clear hk)
         (try clear hi)
         refine hK.out _ _ ⟨(qe0 BK175.out 0).trans rfl, (qe0 BK175.out 1).trans rfl, (qe0 BK175.out 2).trans rfl, (qe0 BK175.out 3).trans rfl, (qe0 BK175.out 4).trans rfl⟩ (fun hHeld => ?_)
         clear hK K
         refine norm_ (a' := ?_) ?_ ?_
         rotate_left
         ·show Act.put _ (some 45) _ = _
          simp only [Act.put, List.setIfInBounds_toArray, List.set_cons_zero, List.set_cons_succ, i64_w, i32_w]
          rfl
         refine one_ (i := 6) (N := some 46) #[true, true, true, true, true, true, true, false, false, false] rfl rfl (one_of HT_.out (by kernel_rfl)) (by decide) (fun K hK => ?_)
         refine value_ (w1 := ?_) (v := ?_) (by rfl) rfl ?_ ?_
         rotate_left 2
         ·go_simp
          constructor
          ·rfl
          ·rfl
         refine hK.out _ _ ⟨(qe0 (qf0 BK175.out _) 0).trans rfl, (qe0 (qf0 BK175.out _) 1).trans rfl, (qe0 (qf0 BK175.out _) 2).trans rfl, (qe0 (qf0 BK175.out _) 3).trans rfl, (qe0 (qf0 BK175.out _) 4).trans rfl⟩ (fun hHeld => ?_)
         clear hK K
         refine norm_ (a' := ?_) ?_ ?_
         rotate_left
         ·show Act.put _ (some 46) _ = _
          simp only [Act.put, List.setIfInBounds_toArray, List.set_cons_zero, List.set_cons_succ, i64_w, i32_w]
          rfl
         refine one_ (i := 7) (N := some 47) #[true, true, true, true, true, true, true, true, false, false] rfl rfl (one_of HT_.out (by kernel_rfl)) (by decide) (fun K hK => ?_)
         refine Kd.R_append_step k54 w.heap.size (by rfl) (.tmp 41) (.tmp 46) 50 54 (.agg #[(.int .i64 0), (.int .i64 0), (.int .i64 0), (.int .i64 0), (.int .i64 0), (.int .i64 0)]) 48 rfl Try.underlying50 info54 rfl (by decide) (by omega) u176003 x176003_2 (⟨t179, t180, t181, t182, t183, t184⟩ : S54) [.int .i64 t179, .int .i64 t180, .int .i64 t181, .int .i64 t182, .int .i64 t183, .int .i64 t184] (fun _ => True) (fun _ => False) rfl rfl ?aP (fun _ hk => hk.elim) ?aF ?aO (Below.refl _ _) ?aS ?aL ?_
         (case aP => exact k54_mkM _ _ _ (⟨t179, t180, t181, t182, t183, t184⟩ : S54))
         (case aF => exact (fun _ _ => trivial))
         (case aO => exact (by (with_reducible repeat (first | apply Kd.qo0 | apply Kd.qn0 | apply Kd.qt0)); exact HO_176003.out))
         (case aS => exact (keep_size (w := w) (g := g) (row := none) (by repeat (first | (with_reducible first | exact HK.out | apply qj0.set_ | apply qp0 | apply qr0 | apply qq0 | refine qu0 ?_ GW175.out _) | exact HK.out))))
         (case aL => have := LMc25.out; omega)
         intro v188 w28 ho hb hg hat
         rw [← Ny187.out] at ho
         have n0_ := Aside0.mk (Kd.S_after (ok := (fun k_ => k_ ≠ gb175)) (by (with_reducible repeat (first | apply Kd.qx0 | apply Kd.qw0 | apply Kd.qd1)); exact Kd.qt1 HO_6.out (fun _ hk => ⟨hk.2, hk.1⟩)) hg hat)
         have n1_ := Aside0.mk (blk_grown (g := gb175) (o := .cells #[.string ((⟨#[105]⟩ : ByteArray) ++ t168), .int .i64 t172, .bool false, u176003, .slice none 0 0] 52 (0, 0)) (by (with_reducible repeat (first | refine qg0 ?_ _ | refine qh0 ?_ | refine qf0 ?_ _)); exact BK175.out) hg (Kd.R_ne HO_176003.out BK175.out (by decide)))
         have n2_ := Aside0.mk (IsS186.grown (show IsS186 w0 _ g s0_0 t185 t186 from by repeat (first | (with_reducible first | exact HI0.out | apply IsS186.alloc | apply IsS186.drewN | apply IsS186.drew | apply IsS186.set_1 | apply IsS186.set_2 | refine IsS186.far ?_ NB0_175.out _) | exact HI0.out)) hg (IsS186.own_ne HI0.out HO_176003.out (by decide)))
         have n3_ := Aside0.mk (below_weaken (by repeat (first | (with_reducible first | exact HB.out | apply qc0 | apply qa0 | apply qd0 | refine qi0 ?_ (IsS186.ge HI0.out) | refine qi0 ?_ GE175.out) | exact HB.out)) HL.out hb)
         have n4_ := Aside0.mk (qj0.trans (by repeat (first | (with_reducible first | exact HK.out | apply qj0.set_ | apply qp0 | apply qr0 | apply qq0 | refine qu0 ?_ GW175.out _) | exact HK.out)) (qj0.of_grown hg g) (Kd.R_base2 HO_176003.out))
         have n5_ := Aside0.mk (ho)
         clear HO_6
         clear BK175
         clear HI0
         clear HB
         clear HK
         clear HO_176003
         have HO_6 := n0_
         have BK175 := n1_
         have HI0 := n2_
         have HB := n3_
         have HK := n4_
         have HO189 := n5_
         clear n0_ n1_ n2_ n3_ n4_ n5_
         clear ho hb hg hat
         obtain ⟨Ao29, co29, eo29⟩ := Kd.qm1 HO189.out
         (first | subst eo29 | (injection eo29 with f1_ f2_ f3_; have f4_ := f1_.symm; have f5_ := f3_.symm; clear f1_ f2_ f3_; subst f4_; subst f5_))
         refine hK.out _ _ ⟨(qe0 BK175.out 0).trans rfl, (qe0 BK175.out 1).trans rfl, (qe0 BK175.out 2).trans rfl, (qe0 BK175.out 3).trans rfl, (qe0 BK175.out 4).trans rfl⟩ (fun hHeld => ?_)
         clear hK K
         refine norm_ (a' := ?_) ?_ ?_
         rotate_left
         ·show Act.put _ (some 47) _ = _
          simp only [Act.put, List.setIfInBounds_toArray, List.set_cons_zero, List.set_cons_succ, i64_w, i32_w]
          rfl
         refine pure_ (i := 8) (N := some 48) (v := ?_) (a' := ?_) #[true, true, true, true, true, true, true, true, true, false] rfl rfl (qf1 HT_.out (by kernel_rfl)) (fun _ _ _ h => h) (Or.inl ⟨by rfl, ?_⟩) ?_ ?_
         rotate_left
         ·intro w'
          go_simp
          with_reducible rfl
         rotate_left
         ·simp only [Act.put, List.setIfInBounds_toArray, List.set_cons_zero, List.set_cons_succ, i64_w, i32_w]
          rfl
         refine last_ (i := 9) (N := none) #[true, true, true, true, true, true, true, true, true, true] rfl rfl (one_of HT_.out (by kernel_rfl)) (by decide) (fun K hK => ?_)
         have hs30 : w28.cell? ⟨gb175, 3, none⟩ = some (u176003) := (qe0 BK175.out 3).trans rfl
         have hfs30 := qb0 BK175.out 3
         refine skip_ (w1 := ?_) (by rfl) rfl ?_ ?_
         rotate_left
         ·go_simp
          rfl
         refine hK.out _ _ ?_
         clear hK K
         refine done_ (done_of HT_.out (by kernel_rfl)) ?_
         try go_wp2
         go_roundg k2
         case measure => have := HK1.out; have := HK2.out; omega
         case rel => exact ⟨(wrap64 (x9_2 - 1)), (t185), (t186), (y187), (.slice Ao29 y187.length co29), (by first | rfl | (simp; done) | (simp [*]; done)), H', ⟨by have := HK1.out; have := HK2.out; omega⟩, ⟨by (with_reducible repeat (first | apply Kd.qx0 | apply Kd.qw0 | apply Kd.qd1)); exact Kd.qt1 (Kd.S_far (p := ⟨gb175, 3, none⟩) (Kd.qt1 HO_6.out (fun k_ hk => (⟨hk, hk.1⟩ : _ ∧ k_ ≠ gb175))) (fun _ hk => hk.2) (.slice Ao29 y187.length co29)) (fun _ hk => ⟨hk.1.2, hk.1.1⟩)⟩, ⟨by (with_reducible repeat (first | apply Kd.qo0 | apply Kd.qn0 | apply Kd.qt0)); exact Kd.R_mono (Kd.R_far (p := ⟨gb175, 3, none⟩) (Kd.qx1 HO189.out BK175.out (by decide)) (fun _ hk => hk.2) (.slice Ao29 y187.length co29)) (fun _ hk => trivial)⟩, ⟨by (with_reducible repeat (first | refine qg0 ?_ _ | refine qh0 ?_ | refine qf0 ?_ _)); refine ql0 (cs := #[.string ((⟨#[105]⟩ : ByteArray) ++ t168), .int .i64 t172, .bool false, u176003, .slice none 0 0]) ?_ 3 _ rfl; (with_reducible repeat (first | refine qg0 ?_ _ | refine qh0 ?_ | refine qf0 ?_ _)); exact BK175.out⟩, ⟨by repeat (first | (with_reducible first | exact HI0.out | apply IsS186.alloc | apply IsS186.drewN | apply IsS186.drew | apply IsS186.set_1 | apply IsS186.set_2 | refine IsS186.far ?_ NB0_175.out _) | exact HI0.out)⟩, ⟨by repeat (first | (with_reducible first | exact HK.out | apply qj0.set_ | apply qp0 | apply qr0 | apply qq0 | refine qu0 ?_ GW175.out _) | exact HK.out)⟩, ⟨by repeat (first | (with_reducible first | exact HB.out | apply qc0 | apply qa0 | apply qd0 | refine qi0 ?_ (IsS186.ge HI0.out) | refine qi0 ?_ GE175.out) | exact HB.out)⟩⟩
        rw [if_neg c23] at H
        have c23b0 : decide (x7_1 < (wrap64 ((wrap64 (2 + t162)) - 1))) = false := decide_eq_false c23
        clear c23
        have H' := Aside0.mk H
        clear H
        go_wp2
        go_meet
        case rel => exact ⟨_, (x1001_2), (x1002_2), (x176003_2), (u176003), H', ⟨by have := HK1.out; have := HK2.out; first | omega | exact Nat.le_refl _⟩, ⟨by (with_reducible repeat (first | apply Kd.qx0 | apply Kd.qw0 | apply Kd.qd1)); exact HO_6.out⟩, ⟨by (with_reducible repeat (first | apply Kd.qo0 | apply Kd.qn0 | apply Kd.qt0)); exact HO_176003.out⟩, ⟨by (with_reducible repeat (first | refine qg0 ?_ _ | refine qh0 ?_ | refine qf0 ?_ _)); exact BK175.out⟩, ⟨by repeat (first | (with_reducible first | exact HI0.out | apply IsS186.alloc | apply IsS186.drewN | apply IsS186.drew | apply IsS186.set_1 | apply IsS186.set_2 | refine IsS186.far ?_ NB0_175.out _) | exact HI0.out)⟩, ⟨by repeat (first | (with_reducible first | exact HK.out | apply qj0.set_ | apply qp0 | apply qr0 | apply qq0 | refine qu0 ?_ GW175.out _) | exact HK.out)⟩, ⟨by repeat (first | (with_reducible first | exact HB.out | apply qc0 | apply qa0 | apply qd0 | refine qi0 ?_ (IsS186.ge HI0.out) | refine qi0 ?_ GE175.out) | exact HB.out)⟩⟩
       rw [if_neg c22] at H
       have c22b0 : decide (0 < x9_2) = false := decide_eq_false c22
       clear c22
       (first | rw [c22b0] | (simp only [i64_w, i32_w]; rw [c22b0]) | skip)
       have H' := Aside0.mk H
       clear H
       go_wp2
       go_meet
       case rel => exact ⟨_, (x1001_2), (x1002_2), (x176003_2), (u176003), H', ⟨by have := HK1.out; have := HK2.out; first | omega | exact Nat.le_refl _⟩, ⟨by (with_reducible repeat (first | apply Kd.qx0 | apply Kd.qw0 | apply Kd.qd1)); exact HO_6.out⟩, ⟨by (with_reducible repeat (first | apply Kd.qo0 | apply Kd.qn0 | apply Kd.qt0)); exact HO_176003.out⟩, ⟨by (with_reducible repeat (first | refine qg0 ?_ _ | refine qh0 ?_ | refine qf0 ?_ _)); exact BK175.out⟩, ⟨by repeat (first | (with_reducible first | exact HI0.out | apply IsS186.alloc | apply IsS186.drewN | apply IsS186.drew | apply IsS186.set_1 | apply IsS186.set_2 | refine IsS186.far ?_ NB0_175.out _) | exact HI0.out)⟩, ⟨by repeat (first | (with_reducible first | exact HK.out | apply qj0.set_ | apply qp0 | apply qr0 | apply qq0 | refine qu0 ?_ GW175.out _) | exact HK.out)⟩, ⟨by repeat (first | (with_reducible first | exact HB.out | apply qc0 | apply qa0 | apply qd0 | refine qi0 ?_ (IsS186.ge HI0.out) | refine qi0 ?_ GE175.out) | exact HB.out)⟩⟩
    case rest =>
     clear HC12
     try clear c1
     try clear c2
     try clear p2
     try clear c6
     try clear p6
     try clear c7
     try clear c7b0
     try clear c8
     try clear c9
     try clear c9b0
     try clear c9b1
     try clear c9b2
     try clear c13
     try clear c19
     try clear c22
     try clear c22b0
     try clear c23
     try clear c23b0
     try clear c25
     try clear hcz20_0
     try clear hcz20_1
     try clear hcz20_2
     try clear hcz20_3
     try clear hcz20_4
     try clear hfz20_0
     try clear hfz20_1
     try clear hfz20_2
     try clear hfz20_3
     try clear hfz20_4
     try clear p2
     try clear p6
     obtain ⟨kq, x1001_11, x1002_11, x176003_11, u176003, HA, HJ11, HO_6, HO_176003, BK175, HI0, HK, HB⟩ := hcut
     cases kq with
     | zero => exact absurd HA.out (by simp [spec_l17DrawItems.j2])
     | succ kj11 =>
      have H := HA.out
      clear HA
      simp only [spec_l17DrawItems.j2] at H
      have HC31 := Aside0.mk H
      clear H
      go_upto_region 11 with (fail)
      go_cut [56] (fun v56 wc => ∃ (kq : Nat) (x56_30 : Bool) (x1001_30 : Int) (x1002_30 : Int), v56 = .bool x56_30 ∧ Aside0 (spec_l17DrawItems.j3 kq (wrap64 (2 + t162)) x6_1 x7_1 x56_30 s0_0 x1001_30 x1002_30 ((⟨#[105]⟩ : ByteArray) ++ t168) t172 false x176003_11 = some (r1, r2, r3)) ∧ Aside0 (kq ≤ kj11) ∧ Aside0 (Kd.S k52 52 wc w.heap.size (fun k_ => some k_ ≠ (u176003 : Value).ownBlock ∧ k_ ≠ gb175) u6 x6_1) ∧ Aside0 (Kd.R k54 54 wc w.heap.size (fun _ => True) u176003 x176003_11) ∧ Aside0 (wc.heap[gb175]? = some (.cells #[.string ((⟨#[105]⟩ : ByteArray) ++ t168), .int .i64 t172, .bool false, u176003, (.slice none 0 0)] 52 (0, 0))) ∧ Aside0 (IsS186 w0 wc g s0_0 x1001_30 x1002_30) ∧ Aside0 (qj0 w wc g none) ∧ Aside0 (Below w0.heap.size w0 wc))
      case first =>
       have H := HC31.out
       clear HC31
       by_cases c32 : (x176003_11.length : Int) > 0
       ·rw [if_pos c32] at H
        have c32b0 : decide (0 < (x176003_11.length : Int)) = true := decide_eq_true c32
        have c32b1 : decide (0 < x176003_11.length) = true := decide_eq_true (by omega)
        clear c32
        (first | rw [c32b0] | (simp only [i64_w, i32_w]; rw [c32b0]) | skip)
        replace H := Option.bind_eq_some_iff.mp H
        obtain ⟨⟨t190, t191, t192⟩, A330, H⟩ := H
        replace H : (spec_l17DrawItems.j3 kj11 (wrap64 (2 + t162)) x6_1 x7_1 t190 s0_0 t191 t192 ((⟨#[105]⟩ : ByteArray) ++ t168) t172 false x176003_11) = some (r1, r2, r3) := H
        have A33 := Aside0.mk A330
        clear A330
        have H' := Aside0.mk H
        clear H
        have hnb34 := NB175_0.out
        have hnc34 := NB0_175.out
        have hcz35_0 : wc.cell? ⟨gb175, 0, none⟩ = some (.string ((⟨#[105]⟩ : ByteArray) ++ t168)) := (qe0 BK175.out 0).trans rfl
        have hcz35_1 : wc.cell? ⟨gb175, 1, none⟩ = some (.int .i64 t172) := (qe0 BK175.out 1).trans rfl
        have hcz35_2 : wc.cell? ⟨gb175, 2, none⟩ = some (.bool false) := (qe0 BK175.out 2).trans rfl
        have hcz35_3 : wc.cell? ⟨gb175, 3, none⟩ = some (u176003) := (qe0 BK175.out 3).trans rfl
        have hcz35_4 : wc.cell? ⟨gb175, 4, none⟩ = some (.slice none 0 0) := (qe0 BK175.out 4).trans rfl
        have hfz35_0 := qb0 BK175.out 0
        have hfz35_1 := qb0 BK175.out 1
        have hfz35_2 := qb0 BK175.out 2
        have hfz35_3 := qb0 BK175.out 3
        have hfz35_4 := qb0 BK175.out 4
        obtain ⟨Ao36, co36, eo36⟩ := Kd.qm1 HO_176003.out
        subst eo36
        go_wp2_with (first | (go_at_call 63; (with_reducible refine (spec_l1Once.calls g s0_0 x1001_11 x1002_11 4 t190 t191 t192 w0 _ ?side1 ?side2 A33.out).mono ?_); (case side1 => repeat (first | (with_reducible first | exact HI0.out | apply IsS186.alloc | apply IsS186.drewN | apply IsS186.drew | apply IsS186.set_1 | apply IsS186.set_2 | refine IsS186.far ?_ NB0_175.out _) | exact HI0.out)); (case side2 => repeat (first | (with_reducible first | exact HB.out | apply qc0 | apply qa0 | apply qd0 | refine qi0 ?_ (IsS186.ge HI0.out) | refine qi0 ?_ GE175.out) | exact HB.out)); rintro e w37 ⟨rfl, hi, hb, hk⟩; have n0_ := Aside0.mk (Kd.qt1 (Kd.S_keep (IsS186.apartS (show IsS186 w0 _ g s0_0 x1001_11 x1002_11 from by repeat (first | (with_reducible first | exact HI0.out | apply IsS186.alloc | apply IsS186.drewN | apply IsS186.drew | apply IsS186.set_1 | apply IsS186.set_2 | refine IsS186.far ?_ NB0_175.out _) | exact HI0.out)) (by (with_reducible repeat (first | apply Kd.qx0 | apply Kd.qw0 | apply Kd.qd1)); exact HO_6.out) (by decide)) hk (fun _ h => h.2)) (fun _ h => h.1)); have n1_ := Aside0.mk (Kd.R_mono (Kd.R_keep (IsS186.apart (show IsS186 w0 _ g s0_0 x1001_11 x1002_11 from by repeat (first | (with_reducible first | exact HI0.out | apply IsS186.alloc | apply IsS186.drewN | apply IsS186.drew | apply IsS186.set_1 | apply IsS186.set_2 | refine IsS186.far ?_ NB0_175.out _) | exact HI0.out)) (by (with_reducible repeat (first | apply Kd.qo0 | apply Kd.qn0 | apply Kd.qt0)); exact HO_176003.out) (by decide)) hk (fun _ h => h.2)) (fun _ h => h.1)); have n2_ := Aside0.mk (qj0.blk hk (g' := gb175) (o := .cells #[.string ((⟨#[105]⟩ : ByteArray) ++ t168), .int .i64 t172, .bool false, .slice Ao36 x176003_11.length co36, .slice none 0 0] 52 (0, 0)) (by (with_reducible repeat (first | refine qg0 ?_ _ | refine qh0 ?_ | refine qf0 ?_ _)); exact BK175.out) NB175_0.out (by simp)); have n3_ := Aside0.mk (qj0.trans (by repeat (first | (with_reducible first | exact HK.out | apply qj0.set_ | apply qp0 | apply qr0 | apply qq0 | refine qu0 ?_ GW175.out _) | exact HK.out)) hk (.inl rfl)); have n4_ := Aside0.mk (hb); have n5_ := Aside0.mk (hi); clear HO_6; clear HO_176003; clear BK175; clear HK; clear HB; clear HI0; have HO_6 := n0_; have HO_176003 := n1_; have BK175 := n2_; have HK := n3_; have HB := n4_; have HI0 := n5_; clear n0_ n1_ n2_ n3_ n4_ n5_; (try clear hb); (try clear hb2); (try clear hk); (try clear hi)))
        go_meet
        case rel => exact ⟨_, (t190), (t191), (t192), (by first | rfl | (simp; done) | (simp [*]; done)), H', ⟨by have := HK1.out; have := HJ11.out; first | omega | exact Nat.le_refl _⟩, ⟨by (with_reducible repeat (first | apply Kd.qx0 | apply Kd.qw0 | apply Kd.qd1)); exact HO_6.out⟩, ⟨by (with_reducible repeat (first | apply Kd.qo0 | apply Kd.qn0 | apply Kd.qt0)); exact HO_176003.out⟩, ⟨by (with_reducible repeat (first | refine qg0 ?_ _ | refine qh0 ?_ | refine qf0 ?_ _)); exact BK175.out⟩, ⟨by repeat (first | (with_reducible first | exact HI0.out | apply IsS186.alloc | apply IsS186.drewN | apply IsS186.drew | apply IsS186.set_1 | apply IsS186.set_2 | refine IsS186.far ?_ NB0_175.out _) | exact HI0.out)⟩, ⟨by repeat (first | (with_reducible first | exact HK.out | apply qj0.set_ | apply qp0 | apply qr0 | apply qq0 | refine qu0 ?_ GW175.out _) | exact HK.out)⟩, ⟨by repeat (first | (with_reducible first | exact HB.out | apply qc0 | apply qa0 | apply qd0 | refine qi0 ?_ (IsS186.ge HI0.out) | refine qi0 ?_ GE175.out) | exact HB.out)⟩⟩
       rw [if_neg c32] at H
       have c32b0 : decide (0 < (x176003_11.length : Int)) = false := decide_eq_false c32
       have c32b1 : decide (0 < x176003_11.length) = false := decide_eq_false (by omega)
       clear c32
       (first | rw [c32b0] | (simp only [i64_w, i32_w]; rw [c32b0]) | skip)
       have H' := Aside0.mk H
       clear H
       have hnb38 := NB175_0.out
       have hnc38 := NB0_175.out
       have hcz39_0 : wc.cell? ⟨gb175, 0, none⟩ = some (.string ((⟨#[105]⟩ : ByteArray) ++ t168)) := (qe0 BK175.out 0).trans rfl
       have hcz39_1 : wc.cell? ⟨gb175, 1, none⟩ = some (.int .i64 t172) := (qe0 BK175.out 1).trans rfl
       have hcz39_2 : wc.cell? ⟨gb175, 2, none⟩ = some (.bool false) := (qe0 BK175.out 2).trans rfl
       have hcz39_3 : wc.cell? ⟨gb175, 3, none⟩ = some (u176003) := (qe0 BK175.out 3).trans rfl
       have hcz39_4 : wc.cell? ⟨gb175, 4, none⟩ = some (.slice none 0 0) := (qe0 BK175.out 4).trans rfl
       have hfz39_0 := qb0 BK175.out 0
       have hfz39_1 := qb0 BK175.out 1
       have hfz39_2 := qb0 BK175.out 2
       have hfz39_3 := qb0 BK175.out 3
       have hfz39_4 := qb0 BK175.out 4
       obtain ⟨Ao40, co40, eo40⟩ := Kd.qm1 HO_176003.out
       subst eo40
       go_wp2
       go_meet
       case rel => exact ⟨_, (false), (x1001_11), (x1002_11), (by first | rfl | (simp; done) | (simp [*]; done)), H', ⟨by have := HK1.out; have := HJ11.out; first | omega | exact Nat.le_refl _⟩, ⟨by (with_reducible repeat (first | apply Kd.qx0 | apply Kd.qw0 | apply Kd.qd1)); exact HO_6.out⟩, ⟨by (with_reducible repeat (first | apply Kd.qo0 | apply Kd.qn0 | apply Kd.qt0)); exact HO_176003.out⟩, ⟨by (with_reducible repeat (first | refine qg0 ?_ _ | refine qh0 ?_ | refine qf0 ?_ _)); exact BK175.out⟩, ⟨by repeat (first | (with_reducible first | exact HI0.out | apply IsS186.alloc | apply IsS186.drewN | apply IsS186.drew | apply IsS186.set_1 | apply IsS186.set_2 | refine IsS186.far ?_ NB0_175.out _) | exact HI0.out)⟩, ⟨by repeat (first | (with_reducible first | exact HK.out | apply qj0.set_ | apply qp0 | apply qr0 | apply qq0 | refine qu0 ?_ GW175.out _) | exact HK.out)⟩, ⟨by repeat (first | (with_reducible first | exact HB.out | apply qc0 | apply qa0 | apply qd0 | refine qi0 ?_ (IsS186.ge HI0.out) | refine qi0 ?_ GE175.out) | exact HB.out)⟩⟩
      case rest =>
       clear HC31
       try clear c1
       try clear c2
       try clear p2
       try clear c3
       try clear c6
       try clear p6
       try clear c7
       try clear c7b0
       try clear c8
       try clear c9
       try clear c9b0
       try clear c9b1
       try clear c9b2
       try clear c13
       try clear c19
       try clear c22
       try clear c22b0
       try clear c23
       try clear c23b0
       try clear c25
       try clear c32
       try clear c32b0
       try clear c32b1
       try clear c34
       try clear c38
       try clear hcz20_0
       try clear hcz20_1
       try clear hcz20_2
       try clear hcz20_3
       try clear hcz20_4
       try clear hcz35_0
       try clear hcz35_1
       try clear hcz35_2
       try clear hcz35_3
       try clear hcz35_4
       try clear hcz39_0
       try clear hcz39_1
       try clear hcz39_2
       try clear hcz39_3
       try clear hcz39_4
       try clear hfz20_0
       try clear hfz20_1
       try clear hfz20_2
       try clear hfz20_3
       try clear hfz20_4
       try clear hfz35_0
       try clear hfz35_1
       try clear hfz35_2
       try clear hfz35_3
       try clear hfz35_4
       try clear hfz39_0
       try clear hfz39_1
       try clear hfz39_2
       try clear hfz39_3
       try clear hfz39_4
       try clear p2
       try clear p6
       obtain ⟨kq, x56_30, x1001_30, x1002_30, rfl, HA, HJ30, HO_6, HO_176003, BK175, HI0, HK, HB⟩ := hcut
       cases kq with
       | zero => exact absurd HA.out (by simp [spec_l17DrawItems.j3])
       | succ kj30 =>
        have H := HA.out
        clear HA
        simp only [spec_l17DrawItems.j3] at H
        by_cases c41 : x56_30 = true
        ·subst c41
         have H1 : (if x6_1.length < 1759218604441 then (spec_l17DrawItems.l0 kj30 (wrap64 (2 + t162)) (x6_1 ++ [(⟨((⟨#[105]⟩ : ByteArray) ++ t168), t172, true, x176003_11, ([] : List (S54))⟩ : S52)]) (wrap64 (x7_1 + 1)) s0_0 x1001_30 x1002_30) else (none)) = some (r1, r2, r3) := by rw [if_pos rfl] at H; exact H
         clear H
         have H := H1
         clear H1
         by_cases c42 : x6_1.length < 1759218604441
         case neg => rw [if_neg c42] at H; exact absurd H (by simp)
         rw [if_pos c42] at H
         have LMc42 := Aside0.mk c42
         clear c42
         obtain ⟨y193, hy193⟩ : ∃ y_ : List (S52), y_ = (x6_1 ++ [(⟨((⟨#[105]⟩ : ByteArray) ++ t168), t172, true, x176003_11, ([] : List (S54))⟩ : S52)]) := ⟨_, rfl⟩
         replace H : (spec_l17DrawItems.l0 kj30 (wrap64 (2 + t162)) y193 (wrap64 (x7_1 + 1)) s0_0 x1001_30 x1002_30) = some (r1, r2, r3) := by first | (rw [hy193]; with_reducible exact H) | (have H2_ := (Option.bind_some _ _).symm.trans H; rw [hy193]; with_reducible exact H2_) | (have H2_ := (Option.bind_some _ _).symm.trans H; with_reducible exact H2_) | with_reducible exact H | (rw [hy193]; exact H) | exact H
         have Ny193 := Aside0.mk hy193
         clear hy193
         have H' := Aside0.mk H
         clear H
         have hnb43 := NB175_0.out
         have hnc43 := NB0_175.out
         have hcz44_0 : wc.cell? ⟨gb175, 0, none⟩ = some (.string ((⟨#[105]⟩ : ByteArray) ++ t168)) := (qe0 BK175.out 0).trans rfl
         have hcz44_1 : wc.cell? ⟨gb175, 1, none⟩ = some (.int .i64 t172) := (qe0 BK175.out 1).trans rfl
         have hcz44_2 : wc.cell? ⟨gb175, 2, none⟩ = some (.bool false) := (qe0 BK175.out 2).trans rfl
         have hcz44_3 : wc.cell? ⟨gb175, 3, none⟩ = some (u176003) := (qe0 BK175.out 3).trans rfl
         have hcz44_4 : wc.cell? ⟨gb175, 4, none⟩ = some (.slice none 0 0) := (qe0 BK175.out 4).trans rfl
         have hfz44_0 := qb0 BK175.out 0
         have hfz44_1 := qb0 BK175.out 1
         have hfz44_2 := qb0 BK175.out 2
         have hfz44_3 := qb0 BK175.out 3
         have hfz44_4 := qb0 BK175.out 4
         go_wp2_with (first | ((with_reducible refine gate_store (t := 4) (p := 57) rfl ?_); refine store_event (t := 4) (p := 57) (v := ?vo_w45) (w1 := (wc.setCell ⟨gb175, 2, none⟩ (.bool true))) ?hg ?ho ?hn ?hr ?_; (case ho => rfl); (case hg => rfl); (case hn => rfl); (case hr => first | (go_simp; done) | (go_simp; rfl)); intro w45 hw; have n0_ : Aside0 (Kd.S k52 52 w45 w.heap.size (fun k_ => some k_ ≠ (u176003 : Value).ownBlock ∧ k_ ≠ gb175) u6 x6_1) := ⟨(by rw [hw]; exact (by (with_reducible repeat (first | apply Kd.qx0 | apply Kd.qw0 | apply Kd.qd1)); exact Kd.qt1 (Kd.S_far (p := ⟨gb175, 2, none⟩) (Kd.qt1 HO_6.out (fun k_ hk => (⟨hk, hk.2⟩ : _ ∧ k_ ≠ gb175))) (fun _ hk => hk.2) (.bool true)) (fun _ hk => ⟨hk.1.1, hk.1.2⟩)))⟩; have n1_ : Aside0 (Kd.R k54 54 w45 w.heap.size (fun _ => True) u176003 x176003_11) := ⟨(by rw [hw]; exact (by (with_reducible repeat (first | apply Kd.qo0 | apply Kd.qn0 | apply Kd.qt0)); exact Kd.R_mono (Kd.R_far (p := ⟨gb175, 2, none⟩) (Kd.qx1 HO_176003.out BK175.out (by decide)) (fun _ hk => hk.2) (.bool true)) (fun _ hk => trivial)))⟩; have n2_ : Aside0 (w45.heap[gb175]? = some (.cells #[.string ((⟨#[105]⟩ : ByteArray) ++ t168), .int .i64 t172, .bool true, u176003, .slice none 0 0] 52 (0, 0))) := ⟨(by rw [hw]; exact (by (with_reducible repeat (first | refine qg0 ?_ _ | refine qh0 ?_ | refine qf0 ?_ _)); refine ql0 (cs := #[.string ((⟨#[105]⟩ : ByteArray) ++ t168), .int .i64 t172, .bool false, u176003, .slice none 0 0]) ?_ 2 _ rfl; (with_reducible repeat (first | refine qg0 ?_ _ | refine qh0 ?_ | refine qf0 ?_ _)); exact BK175.out))⟩; have n3_ : Aside0 (IsS186 w0 w45 g s0_0 x1001_30 x1002_30) := ⟨(by rw [hw]; exact (by repeat (first | (with_reducible first | exact HI0.out | apply IsS186.alloc | apply IsS186.drewN | apply IsS186.drew | apply IsS186.set_1 | apply IsS186.set_2 | refine IsS186.far ?_ NB0_175.out _) | exact HI0.out)))⟩; have n4_ : Aside0 (qj0 w w45 g none) := ⟨(by rw [hw]; exact (by repeat (first | (with_reducible first | exact HK.out | apply qj0.set_ | apply qp0 | apply qr0 | apply qq0 | refine qu0 ?_ GW175.out _) | exact HK.out)))⟩; have n5_ : Aside0 (Below w0.heap.size w0 w45) := ⟨(by rw [hw]; exact (by repeat (first | (with_reducible first | exact HB.out | apply qc0 | apply qa0 | apply qd0 | refine qi0 ?_ (IsS186.ge HI0.out) | refine qi0 ?_ GE175.out) | exact HB.out)))⟩; clear hw; clear HO_6; clear HO_176003; clear BK175; clear HI0; clear HK; clear HB; have HO_6 := n0_; have HO_176003 := n1_; have BK175 := n2_; have HI0 := n3_; have HK := n4_; have HB := n5_; clear n0_ n1_ n2_ n3_ n4_ n5_; have hcz46_0 : w45.cell? ⟨gb175, 0, none⟩ = some (.string ((⟨#[105]⟩ : ByteArray) ++ t168)) := (qe0 BK175.out 0).trans rfl; have hcz46_1 : w45.cell? ⟨gb175, 1, none⟩ = some (.int .i64 t172) := (qe0 BK175.out 1).trans rfl; have hcz46_2 : w45.cell? ⟨gb175, 2, none⟩ = some (.bool true) := (qe0 BK175.out 2).trans rfl; have hcz46_3 : w45.cell? ⟨gb175, 3, none⟩ = some (u176003) := (qe0 BK175.out 3).trans rfl; have hcz46_4 : w45.cell? ⟨gb175, 4, none⟩ = some (.slice none 0 0) := (qe0 BK175.out 4).trans rfl; have hfz46_0 := qb0 BK175.out 0; have hfz46_1 := qb0 BK175.out 1; have hfz46_2 := qb0 BK175.out 2; have hfz46_3 := qb0 BK175.out 3; have hfz46_4 := qb0 BK175.out 4; obtain ⟨Ao48, co48, eo48⟩ := Kd.qm1 HO_176003.out; subst eo48) | ((with_reducible refine gate_builtin (b := .append) (xs := #[.tmp 78, .tmp 80]) rfl ?_); at_builtin; refine Kd.S_append k52 w.heap.size rfl (.tmp 78) (.tmp 80) 45 52 (.agg #[(.string ⟨#[]⟩), (.int .i64 0), (.bool false), (.slice none 0 0), (.slice none 0 0)]) 80 rfl Try.underlying45 info52 rfl (by decide) (by omega) u6 x6_1 (⟨((⟨#[105]⟩ : ByteArray) ++ t168), t172, true, x176003_11, ([] : List (S54))⟩ : S52) [.string ((⟨#[105]⟩ : ByteArray) ++ t168), .int .i64 t172, .bool true, .slice Ao48 x176003_11.length co48, .slice none 0 0] (fun k_ => k_ ≠ gb175) (fun k_ => some k_ = (.slice Ao48 x176003_11.length co48 : Value).ownBlock) rfl rfl ?aP (fun k_ hk_ => ((Kd.R_mono (ok' := fun k_ => ((fun k_ => k_ ≠ gb175)) k_ ∧ some k_ ≠ (u6 : Value).ownBlock) (Kd.qx1 (Kd.R_apart' (HO_176003.out) (Kd.S_typed HO_6.out) (by decide)) BK175.out (by decide)) (fun k_ hk => ⟨hk.2, hk.1.2⟩))).1 k_ hk_.symm) ?aF ?aO (Below.refl _ _) ?aS ?aL ?_; (case aP => exact k52_mkM _ _ _ (⟨((⟨#[105]⟩ : ByteArray) ++ t168), t172, true, x176003_11, ([] : List (S54))⟩ : S52) (Kd.R_mono (Kd.R_tight rfl (Kd.R_mono (ok' := fun k_ => ((fun k_ => k_ ≠ gb175)) k_ ∧ some k_ ≠ (u6 : Value).ownBlock) (Kd.qx1 (Kd.R_apart' (HO_176003.out) (Kd.S_typed HO_6.out) (by decide)) BK175.out (by decide)) (fun k_ hk => ⟨hk.2, hk.1.2⟩))) (fun _ h_ => h_)) (Kd.R_nil _ _ _ _ _) (by first | (intro k_ h3_ h4_; simp [Value.ownBlock] at h4_; done) | exact fun k_ h3_ h4_ => (HO_none.out.1 k_ h4_).1 h3_.symm)); (case aF => exact (fun k_ hk => Kd.freshB (g := gb175) (o := .cells #[.string ((⟨#[105]⟩ : ByteArray) ++ t168), .int .i64 t172, .bool true, .slice Ao48 x176003_11.length co48, .slice none 0 0] 52 (0, 0)) (by (with_reducible repeat (first | refine qg0 ?_ _ | refine qh0 ?_ | refine qf0 ?_ _)); exact BK175.out) k_ hk)); (case aO => exact (by (with_reducible repeat (first | apply Kd.qx0 | apply Kd.qw0 | apply Kd.qd1)); exact Kd.qt1 HO_6.out (fun k_ hk => ⟨hk.2, fun e_ => hk.1 e_⟩))); (case aS => exact (keep_size (w := w) (g := g) (row := none) (by repeat (first | (with_reducible first | exact HK.out | apply qj0.set_ | apply qp0 | apply qr0 | apply qq0 | refine qu0 ?_ GW175.out _) | exact HK.out)))); (case aL => have := LMc42.out; omega); intro v194 w47 ho hb hg hat; rw [← Ny193.out] at ho; have n0_ := Aside0.mk (blk_grown (g := gb175) (o := .cells #[.string ((⟨#[105]⟩ : ByteArray) ++ t168), .int .i64 t172, .bool true, .slice Ao48 x176003_11.length co48, .slice none 0 0] 52 (0, 0)) (by (with_reducible repeat (first | refine qg0 ?_ _ | refine qh0 ?_ | refine qf0 ?_ _)); exact BK175.out) hg (Kd.S_away HO_6.out (fun _ hk => hk.2))); have n1_ := Aside0.mk (IsS186.grown (show IsS186 w0 _ g s0_0 x1001_30 x1002_30 from by repeat (first | (with_reducible first | exact HI0.out | apply IsS186.alloc | apply IsS186.drewN | apply IsS186.drew | apply IsS186.set_1 | apply IsS186.set_2 | refine IsS186.far ?_ NB0_175.out _) | exact HI0.out)) hg (IsS186.own_neS HI0.out HO_6.out (by decide))); have n2_ := Aside0.mk (below_weaken (by repeat (first | (with_reducible first | exact HB.out | apply qc0 | apply qa0 | apply qd0 | refine qi0 ?_ (IsS186.ge HI0.out) | refine qi0 ?_ GE175.out) | exact HB.out)) HL.out hb); have n3_ := Aside0.mk (qj0.trans (by repeat (first | (with_reducible first | exact HK.out | apply qj0.set_ | apply qp0 | apply qr0 | apply qq0 | refine qu0 ?_ GW175.out _) | exact HK.out)) (qj0.of_grown hg g) (Kd.S_base2 HO_6.out)); have n4_ := Aside0.mk (ho); clear BK175; clear HI0; clear HB; clear HK; clear HO_6; clear HO_176003; have BK175 := n0_; have HI0 := n1_; have HB := n2_; have HK := n3_; have HO195 := n4_; clear n0_ n1_ n2_ n3_ n4_; clear ho hb hg hat))
         go_roundg kj30
         case measure => have := HK1.out; have := HJ11.out; have := HJ30.out; omega
         case rel => exact ⟨(y193), (wrap64 (x7_1 + 1)), (x1001_30), (x1002_30), (by first | rfl | (simp; done) | (simp [*]; done)), H', ⟨by have := HK1.out; have := HJ11.out; have := HJ30.out; omega⟩, ⟨by (with_reducible repeat (first | apply Kd.qx0 | apply Kd.qw0 | apply Kd.qd1)); exact Kd.qt1 HO195.out (fun _ hk => trivial)⟩, ⟨by repeat (first | (with_reducible first | exact HI0.out | apply IsS186.alloc | apply IsS186.drewN | apply IsS186.drew | apply IsS186.set_1 | apply IsS186.set_2 | refine IsS186.far ?_ NB0_175.out _) | exact HI0.out)⟩, ⟨by repeat (first | (with_reducible first | exact HK.out | apply qj0.set_ | apply qp0 | apply qr0 | apply qq0 | refine qu0 ?_ GW175.out _) | exact HK.out)⟩, ⟨by repeat (first | (with_reducible first | exact HB.out | apply qc0 | apply qa0 | apply qd0 | refine qi0 ?_ (IsS186.ge HI0.out) | refine qi0 ?_ GE175.out) | exact HB.out)⟩⟩
        replace c41 := Bool.eq_false_iff.mpr c41
        subst c41
        have H1 : ((spec_l1Once.f s0_0 x1001_30 x1002_30 6).bind fun bt196 => (if bt196.1 = true then (if x7_1 < (wrap64 ((wrap64 (2 + t162)) - 1)) then ((spec_l17DrawPart.f kj30 s0_0 bt196.2.1 bt196.2.2 x7_1 (wrap64 (2 + t162))).bind fun bt199 => (if ([] : List (S54)).length < 2932031007402 then (if x6_1.length < 1759218604441 then (spec_l17DrawItems.l0 kj30 (wrap64 (2 + t162)) (x6_1 ++ [(⟨((⟨#[105]⟩ : ByteArray) ++ t168), t172, false, x176003_11, (([] : List (S54)) ++ [(⟨bt199.1, bt199.2.1, 0, bt199.2.2.2.1, bt199.2.2.2.2.1, 0⟩ : S54)])⟩ : S52)]) (wrap64 (x7_1 + 1)) s0_0 bt199.2.2.2.2.2.2.1 bt199.2.2.2.2.2.2.2) else (none)) else (none))) else (if x6_1.length < 1759218604441 then (spec_l17DrawItems.l0 kj30 (wrap64 (2 + t162)) (x6_1 ++ [(⟨((⟨#[105]⟩ : ByteArray) ++ t168), t172, false, x176003_11, ([] : List (S54))⟩ : S52)]) (wrap64 (x7_1 + 1)) s0_0 bt196.2.1 bt196.2.2) else (none))) else (if x6_1.length < 1759218604441 then (spec_l17DrawItems.l0 kj30 (wrap64 (2 + t162)) (x6_1 ++ [(⟨((⟨#[105]⟩ : ByteArray) ++ t168), t172, false, x176003_11, ([] : List (S54))⟩ : S52)]) (wrap64 (x7_1 + 1)) s0_0 bt196.2.1 bt196.2.2) else (none)))) = some (r1, r2, r3) := by rw [if_neg (show ¬ (false = true) by decide)] at H; exact H
        clear H
        have H := H1
        clear H1
        replace H := Option.bind_eq_some_iff.mp H
        obtain ⟨⟨t196, t197, t198⟩, A490, H⟩ := H
        replace H : (if t196 = true then (if x7_1 < (wrap64 ((wrap64 (2 + t162)) - 1)) then ((spec_l17DrawPart.f kj30 s0_0 t197 t198 x7_1 (wrap64 (2 + t162))).bind fun bt199 => (if ([] : List (S54)).length < 2932031007402 then (if x6_1.length < 1759218604441 then (spec_l17DrawItems.l0 kj30 (wrap64 (2 + t162)) (x6_1 ++ [(⟨((⟨#[105]⟩ : ByteArray) ++ t168), t172, false, x176003_11, (([] : List (S54)) ++ [(⟨bt199.1, bt199.2.1, 0, bt199.2.2.2.1, bt199.2.2.2.2.1, 0⟩ : S54)])⟩ : S52)]) (wrap64 (x7_1 + 1)) s0_0 bt199.2.2.2.2.2.2.1 bt199.2.2.2.2.2.2.2) else (none)) else (none))) else (if x6_1.length < 1759218604441 then (spec_l17DrawItems.l0 kj30 (wrap64 (2 + t162)) (x6_1 ++ [(⟨((⟨#[105]⟩ : ByteArray) ++ t168), t172, false, x176003_11, ([] : List (S54))⟩ : S52)]) (wrap64 (x7_1 + 1)) s0_0 t197 t198) else (none))) else (if x6_1.length < 1759218604441 then (spec_l17DrawItems.l0 kj30 (wrap64 (2 + t162)) (x6_1 ++ [(⟨((⟨#[105]⟩ : ByteArray) ++ t168), t172, false, x176003_11, ([] : List (S54))⟩ : S52)]) (wrap64 (x7_1 + 1)) s0_0 t197 t198) else (none))) = some (r1, r2, r3) := H
        have A49 := Aside0.mk A490
        clear A490
        by_cases c50 : t196 = true
        ·subst c50
         have H1 : (if x7_1 < (wrap64 ((wrap64 (2 + t162)) - 1)) then ((spec_l17DrawPart.f kj30 s0_0 t197 t198 x7_1 (wrap64 (2 + t162))).bind fun bt199 => (if ([] : List (S54)).length < 2932031007402 then (if x6_1.length < 1759218604441 then (spec_l17DrawItems.l0 kj30 (wrap64 (2 + t162)) (x6_1 ++ [(⟨((⟨#[105]⟩ : ByteArray) ++ t168), t172, false, x176003_11, (([] : List (S54)) ++ [(⟨bt199.1, bt199.2.1, 0, bt199.2.2.2.1, bt199.2.2.2.2.1, 0⟩ : S54)])⟩ : S52)]) (wrap64 (x7_1 + 1)) s0_0 bt199.2.2.2.2.2.2.1 bt199.2.2.2.2.2.2.2) else (none)) else (none))) else (if x6_1.length < 1759218604441 then (spec_l17DrawItems.l0 kj30 (wrap64 (2 + t162)) (x6_1 ++ [(⟨((⟨#[105]⟩ : ByteArray) ++ t168), t172, false, x176003_11, ([] : List (S54))⟩ : S52)]) (wrap64 (x7_1 + 1)) s0_0 t197 t198) else (none))) = some (r1, r2, r3) := by rw [if_pos rfl] at H; exact H
         clear H
         have H := H1
         clear H1
         by_cases c51 : x7_1 < (wrap64 ((wrap64 (2 + t162)) - 1))
         ·rw [if_pos c51] at H
          have c51b0 : decide (x7_1 < (wrap64 ((wrap64 (2 + t162)) - 1))) = true := decide_eq_true c51
          clear c51
          replace H := Option.bind_eq_some_iff.mp H
          obtain ⟨⟨t199, t200, t201, t202, t203, t204, t205, t206⟩, A520, H⟩ := H
          replace H : (if ([] : List (S54)).length < 2932031007402 then (if x6_1.length < 1759218604441 then (spec_l17DrawItems.l0 kj30 (wrap64 (2 + t162)) (x6_1 ++ [(⟨((⟨#[105]⟩ : ByteArray) ++ t168), t172, false, x176003_11, (([] : List (S54)) ++ [(⟨t199, t200, 0, t202, t203, 0⟩ : S54)])⟩ : S52)]) (wrap64 (x7_1 + 1)) s0_0 t205 t206) else (none)) else (none)) = some (r1, r2, r3) := H
          have A52 := Aside0.mk A520
          clear A520
          by_cases c53 : ([] : List (S54)).length < 2932031007402
          case neg => rw [if_neg c53] at H; exact absurd H (by simp)
          rw [if_pos c53] at H
          have LMc53 := Aside0.mk c53
          clear c53
          obtain ⟨y208, hy208⟩ : ∃ y_ : List (S54), y_ = (([] : List (S54)) ++ [(⟨t199, t200, 0, t202, t203, 0⟩ : S54)]) := ⟨_, rfl⟩
          replace H : (if x6_1.length < 1759218604441 then (spec_l17DrawItems.l0 kj30 (wrap64 (2 + t162)) (x6_1 ++ [(⟨((⟨#[105]⟩ : ByteArray) ++ t168), t172, false, x176003_11, y208⟩ : S52)]) (wrap64 (x7_1 + 1)) s0_0 t205 t206) else (none)) = some (r1, r2, r3) := by first | (rw [hy208]; with_reducible exact H) | (have H2_ := (Option.bind_some _ _).symm.trans H; rw [hy208]; with_reducible exact H2_) | (have H2_ := (Option.bind_some _ _).symm.trans H; with_reducible exact H2_) | with_reducible exact H | (rw [hy208]; exact H) | exact H
          have Ny208 := Aside0.mk hy208
          clear hy208
          by_cases c54 : x6_1.length < 1759218604441
          case neg => rw [if_neg c54] at H; exact absurd H (by simp)
          rw [if_pos c54] at H
          have LMc54 := Aside0.mk c54
          clear c54
          obtain ⟨y211, hy211⟩ : ∃ y_ : List (S52), y_ = (x6_1 ++ [(⟨((⟨#[105]⟩ : ByteArray) ++ t168), t172, false, x176003_11, y208⟩ : S52)]) := ⟨_, rfl⟩
          replace H : (spec_l17DrawItems.l0 kj30 (wrap64 (2 + t162)) y211 (wrap64 (x7_1 + 1)) s0_0 t205 t206) = some (r1, r2, r3) := by first | (rw [hy211]; with_reducible exact H) | (have H2_ := (Option.bind_some _ _).symm.trans H; rw [hy211]; with_reducible exact H2_) | (have H2_ := (Option.bind_some _ _).symm.trans H; with_reducible exact H2_) | with_reducible exact H | (rw [hy211]; exact H) | exact H
          have Ny211 := Aside0.mk hy211
          clear hy211
          have H' := Aside0.mk H
          clear H
          go_wp2_with (first | ((with_reducible refine qz0 (N := 74) rfl ?_); have hl0_ := BK207.out; have hl1_ : (World.heap (World.setCell _ ⟨gb207, 0, none⟩ (.int .i64 t199)))[gb207]? = some (.cells #[.int .i64 t199, .int .i64 0, .int .i64 0, .int .i64 0, .int .i64 0, .int .i64 0] 54 (0, 0)) := ql0 hl0_ 0 (.int .i64 t199) rfl; have hl2_ : (World.heap (World.setCell _ ⟨gb207, 1, none⟩ (.int .i64 t200)))[gb207]? = some (.cells #[.int .i64 t199, .int .i64 t200, .int .i64 0, .int .i64 0, .int .i64 0, .int .i64 0] 54 (0, 0)) := ql0 hl1_ 1 (.int .i64 t200) rfl; have hl3_ : (World.heap (World.setCell _ ⟨gb207, 2, none⟩ (.int .i64 t201)))[gb207]? = some (.cells #[.int .i64 t199, .int .i64 t200, .int .i64 t201, .int .i64 0, .int .i64 0, .int .i64 0] 54 (0, 0)) := ql0 hl2_ 2 (.int .i64 t201) rfl; have hl4_ : (World.heap (World.setCell _ ⟨gb207, 3, none⟩ (.int .i64 t202)))[gb207]? = some (.cells #[.int .i64 t199, .int .i64 t200, .int .i64 t201, .int .i64 t202, .int .i64 0, .int .i64 0] 54 (0, 0)) := ql0 hl3_ 3 (.int .i64 t202) rfl; have hl5_ : (World.heap (World.setCell _ ⟨gb207, 4, none⟩ (.int .i64 t203)))[gb207]? = some (.cells #[.int .i64 t199, .int .i64 t200, .int .i64 t201, .int .i64 t202, .int .i64 t203, .int .i64 0] 54 (0, 0)) := ql0 hl4_ 4 (.int .i64 t203) rfl; have hl6_ : (World.heap (World.setCell _ ⟨gb207, 5, none⟩ (.int .i64 t204)))[gb207]? = some (.cells #[.int .i64 t199, .int .i64 t200, .int .i64 t201, .int .i64 t202, .int .i64 t203, .int .i64 t204] 54 (0, 0)) := ql0 hl5_ 5 (.int .i64 t204) rfl; have hl7_ : (World.heap (World.setCell _ ⟨gb207, 2, none⟩ (.int .i64 0)))[gb207]? = some (.cells #[.int .i64 t199, .int .i64 t200, .int .i64 0, .int .i64 t202, .int .i64 t203, .int .i64 t204] 54 (0, 0)) := ql0 hl6_ 2 (.int .i64 0) rfl; have hl8_ : (World.heap (World.setCell _ ⟨gb207, 5, none⟩ (.int .i64 0)))[gb207]? = some (.cells #[.int .i64 t199, .int .i64 t200, .int .i64 0, .int .i64 t202, .int .i64 t203, .int .i64 0] 54 (0, 0)) := ql0 hl7_ 5 (.int .i64 0) rfl; have hq0_ := (qe0 hl8_ 0).trans rfl; have hq1_ := (qe0 hl8_ 1).trans rfl; have hq2_ := (qe0 hl8_ 2).trans rfl; have hq3_ := (qe0 hl8_ 3).trans rfl; have hq4_ := (qe0 hl8_ 4).trans rfl; have hq5_ := (qe0 hl8_ 5).trans rfl; refine event_same rfl (v := .agg #[.int .i64 t199, .int .i64 t200, .int .i64 0, .int .i64 t202, .int .i64 t203, .int .i64 0]) ?hr ?_; (case hr => intro wx_ ex_; rw [← ex_] at hq0_ hq1_ hq2_ hq3_ hq4_ hq5_; clear ex_; first | (go_simp; done) | (go_simp; rfl)); clear hl0_ hl1_ hl2_ hl3_ hl4_ hl5_ hl6_ hl7_ hl8_ hq0_ hq1_ hq2_ hq3_ hq4_ hq5_) | ((with_reducible refine qs0 (f := 63) rfl ?_); refine qk1 (some 59) rfl rfl Try.func63 (by kernel_rfl) rfl #[.pointer (some ⟨g, 0, none⟩), .int .i64 6] rfl (by (try simp only [List.map_toArray, List.map_cons, List.map_nil]); first | done | rfl | (simp only [List.length_drop, List.length_take]; rfl)) ?_; (with_reducible refine (spec_l1Once.calls g s0_0 x1001_30 x1002_30 6 true t197 t198 w0 _ ?side1 ?side2 A49.out).mono ?_); (case side1 => repeat (first | (with_reducible first | exact HI0.out | apply IsS186.alloc | apply IsS186.drewN | apply IsS186.drew | apply IsS186.set_1 | apply IsS186.set_2 | refine IsS186.far ?_ NB0_175.out _) | exact HI0.out)); (case side2 => repeat (first | (with_reducible first | exact HB.out | apply qc0 | apply qa0 | apply qd0 | refine qi0 ?_ (IsS186.ge HI0.out) | refine qi0 ?_ GE175.out) | exact HB.out)); rintro e w55 ⟨rfl, hi, hb, hk⟩; refine ⟨_, rfl, ?_⟩; have n0_ := Aside0.mk (Kd.qt1 (Kd.S_keep (IsS186.apartS (show IsS186 w0 _ g s0_0 x1001_30 x1002_30 from by repeat (first | (with_reducible first | exact HI0.out | apply IsS186.alloc | apply IsS186.drewN | apply IsS186.drew | apply IsS186.set_1 | apply IsS186.set_2 | refine IsS186.far ?_ NB0_175.out _) | exact HI0.out)) (by (with_reducible repeat (first | apply Kd.qx0 | apply Kd.qw0 | apply Kd.qd1)); exact HO_6.out) (by decide)) hk (fun _ h => h.2)) (fun _ h => h.1)); have n1_ := Aside0.mk (Kd.R_mono (Kd.R_keep (IsS186.apart (show IsS186 w0 _ g s0_0 x1001_30 x1002_30 from by repeat (first | (with_reducible first | exact HI0.out | apply IsS186.alloc | apply IsS186.drewN | apply IsS186.drew | apply IsS186.set_1 | apply IsS186.set_2 | refine IsS186.far ?_ NB0_175.out _) | exact HI0.out)) (by (with_reducible repeat (first | apply Kd.qo0 | apply Kd.qn0 | apply Kd.qt0)); exact HO_176003.out) (by decide)) hk (fun _ h => h.2)) (fun _ h => h.1)); have n2_ := Aside0.mk (qj0.blk hk (g' := gb175) (o := .cells #[.string ((⟨#[105]⟩ : ByteArray) ++ t168), .int .i64 t172, .bool false, u176003, .slice none 0 0] 52 (0, 0)) (by (with_reducible repeat (first | refine qg0 ?_ _ | refine qh0 ?_ | refine qf0 ?_ _)); exact BK175.out) NB175_0.out (by simp)); have n3_ := Aside0.mk (qj0.trans (by repeat (first | (with_reducible first | exact HK.out | apply qj0.set_ | apply qp0 | apply qr0 | apply qq0 | refine qu0 ?_ GW175.out _) | exact HK.out)) hk (.inl rfl)); have n4_ := Aside0.mk (hb); have n5_ := Aside0.mk (hi); clear HO_6; clear HO_176003; clear BK175; clear HK; clear HB; clear HI0; have HO_6 := n0_; have HO_176003 := n1_; have BK175 := n2_; have HK := n3_; have HB := n4_; have HI0 := n5_; clear n0_ n1_ n2_ n3_ n4_ n5_; (try clear hb); (try clear hb2); (try clear hk); (try clear hi)) | ((with_reducible refine qs0 (f := 137) rfl ?_); refine qk1 (some 69) rfl rfl Try.func137 (by kernel_rfl) rfl #[.pointer (some ⟨g, 0, none⟩), .int .i64 x7_1, .int .i64 (wrap64 (2 + t162))] rfl (by (try simp only [List.map_toArray, List.map_cons, List.map_nil]); first | done | rfl | (simp only [List.length_drop, List.length_take]; rfl)) ?_; (with_reducible refine (spec_l17DrawPart.calls kj30 g s0_0 t197 t198 x7_1 (wrap64 (2 + t162)) t199 t200 t201 t202 t203 t204 t205 t206 w0 _ ?side1 ?side2 A52.out).mono ?_); (case side1 => repeat (first | (with_reducible first | exact HI0.out | apply IsS186.alloc | apply IsS186.drewN | apply IsS186.drew | apply IsS186.set_1 | apply IsS186.set_2 | refine IsS186.far ?_ NB0_175.out _) | exact HI0.out)); (case side2 => repeat (first | (with_reducible first | exact HB.out | apply qc0 | apply qa0 | apply qd0 | refine qi0 ?_ (IsS186.ge HI0.out) | refine qi0 ?_ GE175.out) | exact HB.out)); rintro e w56 ⟨rfl, hi, hb, hk⟩; refine ⟨_, rfl, ?_⟩; have n0_ := Aside0.mk (Kd.qt1 (Kd.S_keep (IsS186.apartS (show IsS186 w0 _ g s0_0 t197 t198 from by repeat (first | (with_reducible first | exact HI0.out | apply IsS186.alloc | apply IsS186.drewN | apply IsS186.drew | apply IsS186.set_1 | apply IsS186.set_2 | refine IsS186.far ?_ NB0_175.out _) | exact HI0.out)) (by (with_reducible repeat (first | apply Kd.qx0 | apply Kd.qw0 | apply Kd.qd1)); exact HO_6.out) (by decide)) hk (fun _ h => h.2)) (fun _ h => h.1)); have n1_ := Aside0.mk (Kd.R_mono (Kd.R_keep (IsS186.apart (show IsS186 w0 _ g s0_0 t197 t198 from by repeat (first | (with_reducible first | exact HI0.out | apply IsS186.alloc | apply IsS186.drewN | apply IsS186.drew | apply IsS186.set_1 | apply IsS186.set_2 | refine IsS186.far ?_ NB0_175.out _) | exact HI0.out)) (by (with_reducible repeat (first | apply Kd.qo0 | apply Kd.qn0 | apply Kd.qt0)); exact HO_176003.out) (by decide)) hk (fun _ h => h.2)) (fun _ h => h.1)); have n2_ := Aside0.mk (qj0.blk hk (g' := gb175) (o := .cells #[.string ((⟨#[105]⟩ : ByteArray) ++ t168), .int .i64 t172, .bool false, u176003, .slice none 0 0] 52 (0, 0)) (by (with_reducible repeat (first | refine qg0 ?_ _ | refine qh0 ?_ | refine qf0 ?_ _)); exact BK175.out) NB175_0.out (by simp)); have n3_ := Aside0.mk (qj0.trans (by repeat (first | (with_reducible first | exact HK.out | apply qj0.set_ | apply qp0 | apply qr0 | apply qq0 | refine qu0 ?_ GW175.out _) | exact HK.out)) hk (.inl rfl)); have n4_ := Aside0.mk (hb); have n5_ := Aside0.mk (hi); clear HO_6; clear HO_176003; clear BK175; clear HK; clear HB; clear HI0; have HO_6 := n0_; have HO_176003 := n1_; have BK175 := n2_; have HK := n3_; have HB := n4_; have HI0 := n5_; clear n0_ n1_ n2_ n3_ n4_ n5_; (try clear hb); (try clear hb2); (try clear hk); (try clear hi)) | ((with_reducible refine qz0 (N := 10) rfl ?_); refine qg1 ?hg (N := 10) ?hd (cs := #[.int .i64 0, .int .i64 0, .int .i64 0, .int .i64 0, .int .i64 0, .int .i64 0]) (t := 54) ?hr ?_; (case hd => rfl); (case hg => rfl); (case hr => first | (go_simp; done) | (go_simp; rfl)); intro gb207 hg w57 hbox hb; have n0_ := Aside0.mk (Kd.qr1 (Kd.S_elderB (by (with_reducible repeat (first | apply Kd.qx0 | apply Kd.qw0 | apply Kd.qd1)); exact HO_6.out) gb207 (Nat.le_of_eq hg.symm)) hb); have n1_ := Aside0.mk (Kd.qs1 (Kd.R_elderB (by (with_reducible repeat (first | apply Kd.qo0 | apply Kd.qn0 | apply Kd.qt0)); exact HO_176003.out) gb207 (Nat.le_of_eq hg.symm)) hb); have n2_ := Aside0.mk (qh1 (g := gb175) (o := .cells #[.string ((⟨#[105]⟩ : ByteArray) ++ t168), .int .i64 t172, .bool false, u176003, .slice none 0 0] 52 (0, 0)) (by (with_reducible repeat (first | refine qg0 ?_ _ | refine qh0 ?_ | refine qf0 ?_ _)); exact BK175.out) hb); have n3_ := Aside0.mk (IsS186.below (by repeat (first | (with_reducible first | exact HI0.out | apply IsS186.alloc | apply IsS186.drewN | apply IsS186.drew | apply IsS186.set_1 | apply IsS186.set_2 | refine IsS186.far ?_ NB0_175.out _) | exact HI0.out)) hb); have n4_ := Aside0.mk (qj0.trans (by repeat (first | (with_reducible first | exact HK.out | apply qj0.set_ | apply qp0 | apply qr0 | apply qq0 | refine qu0 ?_ GW175.out _) | exact HK.out)) (qj0.of_below hb g none) (.inl rfl)); have n5_ := Aside0.mk (qk0 (by repeat (first | (with_reducible first | exact HB.out | apply qc0 | apply qa0 | apply qd0 | refine qi0 ?_ (IsS186.ge HI0.out) | refine qi0 ?_ GE175.out) | exact HB.out)) hb); have n6_ := Aside0.mk (hbox); have n7_ := Aside0.mk ((by rw [hg]; exact (keep_size (w := w) (g := g) (row := none) (by repeat (first | (with_reducible first | exact HK.out | apply qj0.set_ | apply qp0 | apply qr0 | apply qq0 | refine qu0 ?_ GW175.out _) | exact HK.out))) : w.heap.size ≤ gb207)); have n8_ := Aside0.mk ((Nat.le_trans HW0.out (by rw [hg]; exact (keep_size (w := w) (g := g) (row := none) (by repeat (first | (with_reducible first | exact HK.out | apply qj0.set_ | apply qp0 | apply qr0 | apply qq0 | refine qu0 ?_ GW175.out _) | exact HK.out))) : w.heap.size ≤ gb207) : w0.heap.size ≤ gb207)); have n9_ := Aside0.mk ((by rw [hg]; exact Nat.ne_of_lt (qz1 (g := gb175) (o := .cells #[.string ((⟨#[105]⟩ : ByteArray) ++ t168), .int .i64 t172, .bool false, u176003, .slice none 0 0] 52 (0, 0)) (by (with_reducible repeat (first | refine qg0 ?_ _ | refine qh0 ?_ | refine qf0 ?_ _)); exact BK175.out)) : gb175 ≠ gb207)); have n10_ := Aside0.mk ((by rw [hg]; exact Nat.ne_of_gt (qz1 (g := gb175) (o := .cells #[.string ((⟨#[105]⟩ : ByteArray) ++ t168), .int .i64 t172, .bool false, u176003, .slice none 0 0] 52 (0, 0)) (by (with_reducible repeat (first | refine qg0 ?_ _ | refine qh0 ?_ | refine qf0 ?_ _)); exact BK175.out)) : gb207 ≠ gb175)); have n11_ := Aside0.mk ((by rw [hg]; exact Nat.ne_of_lt (IsS186.lt (show IsS186 w0 _ g s0_0 t205 t206 from by repeat (first | (with_reducible first | exact HI0.out | apply IsS186.alloc | apply IsS186.drewN | apply IsS186.drew | apply IsS186.set_1 | apply IsS186.set_2 | refine IsS186.far ?_ NB0_175.out _) | exact HI0.out))) : g ≠ gb207)); have n12_ := Aside0.mk ((by rw [hg]; exact Nat.ne_of_gt (IsS186.lt (show IsS186 w0 _ g s0_0 t205 t206 from by repeat (first | (with_reducible first | exact HI0.out | apply IsS186.alloc | apply IsS186.drewN | apply IsS186.drew | apply IsS186.set_1 | apply IsS186.set_2 | refine IsS186.far ?_ NB0_175.out _) | exact HI0.out))) : gb207 ≠ g)); clear HO_6; clear HO_176003; clear BK175; clear HI0; clear HK; clear HB; have HO_6 := n0_; have HO_176003 := n1_; have BK175 := n2_; have HI0 := n3_; have HK := n4_; have HB := n5_; have BK207 := n6_; have GW207 := n7_; have GE207 := n8_; have NB175_207 := n9_; have NB207_175 := n10_; have NB0_207 := n11_; have NB207_0 := n12_; clear n0_ n1_ n2_ n3_ n4_ n5_ n6_ n7_ n8_ n9_ n10_ n11_ n12_; clear hb hbox hg; have hnb58 := NB207_175.out; have hnc58 := NB175_207.out; have hnb59 := NB207_0.out; have hnc59 := NB0_207.out; have hcz60_0 : w57.cell? ⟨gb207, 0, none⟩ = some (.int .i64 0) := (qe0 BK207.out 0).trans rfl; have hcz60_1 : w57.cell? ⟨gb207, 1, none⟩ = some (.int .i64 0) := (qe0 BK207.out 1).trans rfl; have hcz60_2 : w57.cell? ⟨gb207, 2, none⟩ = some (.int .i64 0) := (qe0 BK207.out 2).trans rfl; have hcz60_3 : w57.cell? ⟨gb207, 3, none⟩ = some (.int .i64 0) := (qe0 BK207.out 3).trans rfl; have hcz60_4 : w57.cell? ⟨gb207, 4, none⟩ = some (.int .i64 0) := (qe0 BK207.out 4).trans rfl; have hcz60_5 : w57.cell? ⟨gb207, 5, none⟩ = some (.int .i64 0) := (qe0 BK207.out 5).trans rfl; have hfz60_0 := qb0 BK207.out 0; have hfz60_1 := qb0 BK207.out 1; have hfz60_2 := qb0 BK207.out 2; have hfz60_3 := qb0 BK207.out 3; have hfz60_4 := qb0 BK207.out 4; have hfz60_5 := qb0 BK207.out 5; have hnb61 := NB175_0.out; have hnc61 := NB0_175.out; have hcz62_0 : w57.cell? ⟨gb175, 0, none⟩ = some (.string ((⟨#[105]⟩ : ByteArray) ++ t168)) := (qe0 BK175.out 0).trans rfl; have hcz62_1 : w57.cell? ⟨gb175, 1, none⟩ = some (.int .i64 t172) := (qe0 BK175.out 1).trans rfl; have hcz62_2 : w57.cell? ⟨gb175, 2, none⟩ = some (.bool false) := (qe0 BK175.out 2).trans rfl; have hcz62_3 : w57.cell? ⟨gb175, 3, none⟩ = some (u176003) := (qe0 BK175.out 3).trans rfl; have hcz62_4 : w57.cell? ⟨gb175, 4, none⟩ = some (.slice none 0 0) := (qe0 BK175.out 4).trans rfl; have hfz62_0 := qb0 BK175.out 0; have hfz62_1 := qb0 BK175.out 1; have hfz62_2 := qb0 BK175.out 2; have hfz62_3 := qb0 BK175.out 3; have hfz62_4 := qb0 BK175.out 4) | ((with_reducible refine gate_builtin (b := .append) (xs := #[.tmp 73, .tmp 75]) rfl ?_); at_builtin; refine Kd.R_append k54 w.heap.size rfl (.tmp 73) (.tmp 75) 50 54 (.agg #[(.int .i64 0), (.int .i64 0), (.int .i64 0), (.int .i64 0), (.int .i64 0), (.int .i64 0)]) 48 rfl Try.underlying50 info54 rfl (by decide) (by omega) (.slice none 0 0) ([] : List (S54)) (⟨t199, t200, 0, t202, t203, 0⟩ : S54) [.int .i64 t199, .int .i64 t200, .int .i64 0, .int .i64 t202, .int .i64 t203, .int .i64 0] (fun k_ => some k_ ≠ (u176003 : Value).ownBlock ∧ k_ ≠ gb207) (fun _ => False) rfl (by first | (go_simp; done) | (go_simp; rfl)) ?aP (fun _ hk => hk.elim) ?aF ?aO (Below.refl _ _) ?aS ?aL ?_; (case aP => exact k54_mkM _ _ _ (⟨t199, t200, 0, t202, t203, 0⟩ : S54)); (case aF => exact (fun k_ hk => ⟨Kd.fresh' (Kd.R_lt (by (with_reducible repeat (first | apply Kd.qo0 | apply Kd.qn0 | apply Kd.qt0)); exact (Kd.R_mono (Kd.R_far (p := ⟨gb207, 5, none⟩) (Kd.R_far (p := ⟨gb207, 2, none⟩) (Kd.R_far (p := ⟨gb207, 5, none⟩) (Kd.R_far (p := ⟨gb207, 4, none⟩) (Kd.R_far (p := ⟨gb207, 3, none⟩) (Kd.R_far (p := ⟨gb207, 2, none⟩) (Kd.R_far (p := ⟨gb207, 1, none⟩) (Kd.R_far (p := ⟨gb207, 0, none⟩) (Kd.R_mono HO_176003.out (fun k_ hk => (⟨hk, hk.2⟩ : _ ∧ k_ ≠ gb207))) (fun _ hk => hk.2) (.int .i64 t199)) (fun _ hk => hk.2) (.int .i64 t200)) (fun _ hk => hk.2) (.int .i64 t201)) (fun _ hk => hk.2) (.int .i64 t202)) (fun _ hk => hk.2) (.int .i64 t203)) (fun _ hk => hk.2) (.int .i64 t204)) (fun _ hk => hk.2) (.int .i64 0)) (fun _ hk => hk.2) (.int .i64 0)) (fun _ h_ => h_.1)))) k_ hk, Kd.freshB (g := gb207) (o := .cells #[.int .i64 t199, .int .i64 t200, .int .i64 0, .int .i64 t202, .int .i64 t203, .int .i64 0] 54 (0, 0)) (by (with_reducible repeat (first | refine qg0 ?_ _ | refine qh0 ?_ | refine qf0 ?_ _)); refine ql0 (cs := #[.int .i64 t199, .int .i64 t200, .int .i64 0, .int .i64 t202, .int .i64 t203, .int .i64 t204]) ?_ 5 _ rfl; (with_reducible repeat (first | refine qg0 ?_ _ | refine qh0 ?_ | refine qf0 ?_ _)); refine ql0 (cs := #[.int .i64 t199, .int .i64 t200, .int .i64 t201, .int .i64 t202, .int .i64 t203, .int .i64 t204]) ?_ 2 _ rfl; (with_reducible repeat (first | refine qg0 ?_ _ | refine qh0 ?_ | refine qf0 ?_ _)); refine ql0 (cs := #[.int .i64 t199, .int .i64 t200, .int .i64 t201, .int .i64 t202, .int .i64 t203, .int .i64 0]) ?_ 5 _ rfl; (with_reducible repeat (first | refine qg0 ?_ _ | refine qh0 ?_ | refine qf0 ?_ _)); refine ql0 (cs := #[.int .i64 t199, .int .i64 t200, .int .i64 t201, .int .i64 t202, .int .i64 0, .int .i64 0]) ?_ 4 _ rfl; (with_reducible repeat (first | refine qg0 ?_ _ | refine qh0 ?_ | refine qf0 ?_ _)); refine ql0 (cs := #[.int .i64 t199, .int .i64 t200, .int .i64 t201, .int .i64 0, .int .i64 0, .int .i64 0]) ?_ 3 _ rfl; (with_reducible repeat (first | refine qg0 ?_ _ | refine qh0 ?_ | refine qf0 ?_ _)); refine ql0 (cs := #[.int .i64 t199, .int .i64 t200, .int .i64 0, .int .i64 0, .int .i64 0, .int .i64 0]) ?_ 2 _ rfl; (with_reducible repeat (first | refine qg0 ?_ _ | refine qh0 ?_ | refine qf0 ?_ _)); refine ql0 (cs := #[.int .i64 t199, .int .i64 0, .int .i64 0, .int .i64 0, .int .i64 0, .int .i64 0]) ?_ 1 _ rfl; (with_reducible repeat (first | refine qg0 ?_ _ | refine qh0 ?_ | refine qf0 ?_ _)); refine ql0 (cs := #[.int .i64 0, .int .i64 0, .int .i64 0, .int .i64 0, .int .i64 0, .int .i64 0]) ?_ 0 _ rfl; (with_reducible repeat (first | refine qg0 ?_ _ | refine qh0 ?_ | refine qf0 ?_ _)); exact BK207.out) k_ hk⟩)); (case aO => exact ((Kd.R_nil _ _ _ _ (fun k_ => some k_ ≠ (u176003 : Value).ownBlock ∧ k_ ≠ gb207)))); (case aS => exact (keep_size (w := w) (g := g) (row := none) (by repeat (first | (with_reducible first | exact HK.out | apply qj0.set_ | apply qp0 | apply qr0 | apply qq0 | refine qu0 ?_ GW175.out _ | refine qu0 ?_ GW207.out _) | exact HK.out)))); (case aL => have := LMc53.out; omega); intro v209 w63 ho hb hg hat; rw [← Ny208.out] at ho; have n0_ := Aside0.mk (Kd.S_after (Kd.S_apart_nil (by (with_reducible repeat (first | apply Kd.qx0 | apply Kd.qw0 | apply Kd.qd1)); exact (Kd.qt1 (Kd.S_far (p := ⟨gb207, 5, none⟩) (Kd.S_far (p := ⟨gb207, 2, none⟩) (Kd.S_far (p := ⟨gb207, 5, none⟩) (Kd.S_far (p := ⟨gb207, 4, none⟩) (Kd.S_far (p := ⟨gb207, 3, none⟩) (Kd.S_far (p := ⟨gb207, 2, none⟩) (Kd.S_far (p := ⟨gb207, 1, none⟩) (Kd.S_far (p := ⟨gb207, 0, none⟩) (Kd.qt1 HO_6.out (fun k_ hk => (⟨hk, hk.2⟩ : _ ∧ k_ ≠ gb207))) (fun _ hk => hk.2) (.int .i64 t199)) (fun _ hk => hk.2) (.int .i64 t200)) (fun _ hk => hk.2) (.int .i64 t201)) (fun _ hk => hk.2) (.int .i64 t202)) (fun _ hk => hk.2) (.int .i64 t203)) (fun _ hk => hk.2) (.int .i64 t204)) (fun _ hk => hk.2) (.int .i64 0)) (fun _ hk => hk.2) (.int .i64 0)) (fun _ h_ => h_.1)))) hg hat); have n1_ := Aside0.mk (Kd.R_after (Kd.R_apart_nil (by (with_reducible repeat (first | apply Kd.qo0 | apply Kd.qn0 | apply Kd.qt0)); exact (Kd.R_mono (Kd.R_far (p := ⟨gb207, 5, none⟩) (Kd.R_far (p := ⟨gb207, 2, none⟩) (Kd.R_far (p := ⟨gb207, 5, none⟩) (Kd.R_far (p := ⟨gb207, 4, none⟩) (Kd.R_far (p := ⟨gb207, 3, none⟩) (Kd.R_far (p := ⟨gb207, 2, none⟩) (Kd.R_far (p := ⟨gb207, 1, none⟩) (Kd.R_far (p := ⟨gb207, 0, none⟩) (Kd.R_mono HO_176003.out (fun k_ hk => (⟨hk, hk.2⟩ : _ ∧ k_ ≠ gb207))) (fun _ hk => hk.2) (.int .i64 t199)) (fun _ hk => hk.2) (.int .i64 t200)) (fun _ hk => hk.2) (.int .i64 t201)) (fun _ hk => hk.2) (.int .i64 t202)) (fun _ hk => hk.2) (.int .i64 t203)) (fun _ hk => hk.2) (.int .i64 t204)) (fun _ hk => hk.2) (.int .i64 0)) (fun _ hk => hk.2) (.int .i64 0)) (fun _ h_ => h_.1)))) hg hat); have n2_ := Aside0.mk (blk_grown (g := gb175) (o := .cells #[.string ((⟨#[105]⟩ : ByteArray) ++ t168), .int .i64 t172, .bool false, u176003, .slice none 0 0] 52 (0, 0)) (by (with_reducible repeat (first | refine qg0 ?_ _ | refine qh0 ?_ | refine qf0 ?_ _)); refine qe1 ?_ NB175_207.out _; (with_reducible repeat (first | refine qg0 ?_ _ | refine qh0 ?_ | refine qf0 ?_ _)); refine qe1 ?_ NB175_207.out _; (with_reducible repeat (first | refine qg0 ?_ _ | refine qh0 ?_ | refine qf0 ?_ _)); refine qe1 ?_ NB175_207.out _; (with_reducible repeat (first | refine qg0 ?_ _ | refine qh0 ?_ | refine qf0 ?_ _)); refine qe1 ?_ NB175_207.out _; (with_reducible repeat (first | refine qg0 ?_ _ | refine qh0 ?_ | refine qf0 ?_ _)); refine qe1 ?_ NB175_207.out _; (with_reducible repeat (first | refine qg0 ?_ _ | refine qh0 ?_ | refine qf0 ?_ _)); refine qe1 ?_ NB175_207.out _; (with_reducible repeat (first | refine qg0 ?_ _ | refine qh0 ?_ | refine qf0 ?_ _)); refine qe1 ?_ NB175_207.out _; (with_reducible repeat (first | refine qg0 ?_ _ | refine qh0 ?_ | refine qf0 ?_ _)); refine qe1 ?_ NB175_207.out _; (with_reducible repeat (first | refine qg0 ?_ _ | refine qh0 ?_ | refine qf0 ?_ _)); exact BK175.out) hg (by simp [Value.ownBlock])); have n3_ := Aside0.mk (IsS186.grown (show IsS186 w0 _ g s0_0 t205 t206 from by repeat (first | (with_reducible first | exact HI0.out | apply IsS186.alloc | apply IsS186.drewN | apply IsS186.drew | apply IsS186.set_1 | apply IsS186.set_2 | refine IsS186.far ?_ NB0_175.out _ | refine IsS186.far ?_ NB0_207.out _) | exact HI0.out)) hg (by simp [Value.ownBlock])); have n4_ := Aside0.mk (blk_grown (g := gb207) (o := .cells #[.int .i64 t199, .int .i64 t200, .int .i64 0, .int .i64 t202, .int .i64 t203, .int .i64 0] 54 (0, 0)) (by (with_reducible repeat (first | refine qg0 ?_ _ | refine qh0 ?_ | refine qf0 ?_ _)); refine ql0 (cs := #[.int .i64 t199, .int .i64 t200, .int .i64 0, .int .i64 t202, .int .i64 t203, .int .i64 t204]) ?_ 5 _ rfl; (with_reducible repeat (first | refine qg0 ?_ _ | refine qh0 ?_ | refine qf0 ?_ _)); refine ql0 (cs := #[.int .i64 t199, .int .i64 t200, .int .i64 t201, .int .i64 t202, .int .i64 t203, .int .i64 t204]) ?_ 2 _ rfl; (with_reducible repeat (first | refine qg0 ?_ _ | refine qh0 ?_ | refine qf0 ?_ _)); refine ql0 (cs := #[.int .i64 t199, .int .i64 t200, .int .i64 t201, .int .i64 t202, .int .i64 t203, .int .i64 0]) ?_ 5 _ rfl; (with_reducible repeat (first | refine qg0 ?_ _ | refine qh0 ?_ | refine qf0 ?_ _)); refine ql0 (cs := #[.int .i64 t199, .int .i64 t200, .int .i64 t201, .int .i64 t202, .int .i64 0, .int .i64 0]) ?_ 4 _ rfl; (with_reducible repeat (first | refine qg0 ?_ _ | refine qh0 ?_ | refine qf0 ?_ _)); refine ql0 (cs := #[.int .i64 t199, .int .i64 t200, .int .i64 t201, .int .i64 0, .int .i64 0, .int .i64 0]) ?_ 3 _ rfl; (with_reducible repeat (first | refine qg0 ?_ _ | refine qh0 ?_ | refine qf0 ?_ _)); refine ql0 (cs := #[.int .i64 t199, .int .i64 t200, .int .i64 0, .int .i64 0, .int .i64 0, .int .i64 0]) ?_ 2 _ rfl; (with_reducible repeat (first | refine qg0 ?_ _ | refine qh0 ?_ | refine qf0 ?_ _)); refine ql0 (cs := #[.int .i64 t199, .int .i64 0, .int .i64 0, .int .i64 0, .int .i64 0, .int .i64 0]) ?_ 1 _ rfl; (with_reducible repeat (first | refine qg0 ?_ _ | refine qh0 ?_ | refine qf0 ?_ _)); refine ql0 (cs := #[.int .i64 0, .int .i64 0, .int .i64 0, .int .i64 0, .int .i64 0, .int .i64 0]) ?_ 0 _ rfl; (with_reducible repeat (first | refine qg0 ?_ _ | refine qh0 ?_ | refine qf0 ?_ _)); exact BK207.out) hg (by simp [Value.ownBlock])); have n5_ := Aside0.mk (below_weaken (by repeat (first | (with_reducible first | exact HB.out | apply qc0 | apply qa0 | apply qd0 | refine qi0 ?_ (IsS186.ge HI0.out) | refine qi0 ?_ GE175.out | refine qi0 ?_ GE207.out) | exact HB.out)) HL.out hb); have n6_ := Aside0.mk (qj0.trans (qu0 (p := ⟨gb207, 5, none⟩) (qu0 (p := ⟨gb207, 2, none⟩) (qu0 (p := ⟨gb207, 5, none⟩) (qu0 (p := ⟨gb207, 4, none⟩) (qu0 (p := ⟨gb207, 3, none⟩) (qu0 (p := ⟨gb207, 2, none⟩) (qu0 (p := ⟨gb207, 1, none⟩) (qu0 (p := ⟨gb207, 0, none⟩) HK.out GW207.out _) GW207.out _) GW207.out _) GW207.out _) GW207.out _) GW207.out _) GW207.out _) GW207.out _) (qj0.of_grown hg g) (.inl (by simp [Value.ownBlock]))); have n7_ := Aside0.mk (ho); clear HO_6; clear HO_176003; clear BK175; clear HI0; clear BK207; clear HB; clear HK; have HO_6 := n0_; have HO_176003 := n1_; have BK175 := n2_; have HI0 := n3_; have BK207 := n4_; have HB := n5_; have HK := n6_; have HO210 := n7_; clear n0_ n1_ n2_ n3_ n4_ n5_ n6_ n7_; clear ho hb hg hat; obtain ⟨Ao64, co64, eo64⟩ := Kd.qm1 HO210.out; subst eo64; have hcz65_0 : w63.cell? ⟨gb175, 0, none⟩ = some (.string ((⟨#[105]⟩ : ByteArray) ++ t168)) := (qe0 BK175.out 0).trans rfl; have hcz65_1 : w63.cell? ⟨gb175, 1, none⟩ = some (.int .i64 t172) := (qe0 BK175.out 1).trans rfl; have hcz65_2 : w63.cell? ⟨gb175, 2, none⟩ = some (.bool false) := (qe0 BK175.out 2).trans rfl; have hcz65_3 : w63.cell? ⟨gb175, 3, none⟩ = some (u176003) := (qe0 BK175.out 3).trans rfl; have hcz65_4 : w63.cell? ⟨gb175, 4, none⟩ = some (.slice none 0 0) := (qe0 BK175.out 4).trans rfl; have hfz65_0 := qb0 BK175.out 0; have hfz65_1 := qb0 BK175.out 1; have hfz65_2 := qb0 BK175.out 2; have hfz65_3 := qb0 BK175.out 3; have hfz65_4 := qb0 BK175.out 4) | ((with_reducible refine gate_store (t := 50) (p := 77) rfl ?_); refine store_event (t := 50) (p := 77) (v := ?vo_w66) (w1 := (w63.setCell ⟨gb175, 4, none⟩ (.slice Ao64 y208.length co64))) ?hg ?ho ?hn ?hr ?_; (case ho => rfl); (case hg => rfl); (case hn => rfl); (case hr => first | (go_simp; done) | (go_simp; rfl)); intro w66 hw; have n0_ : Aside0 (Kd.S k52 52 w66 w.heap.size (fun k_ => some k_ ≠ (u176003 : Value).ownBlock ∧ some k_ ≠ (.slice Ao64 y208.length co64 : Value).ownBlock ∧ k_ ≠ gb175 ∧ k_ ≠ gb207) u6 x6_1) := ⟨(by rw [hw]; exact (by (with_reducible repeat (first | apply Kd.qx0 | apply Kd.qw0 | apply Kd.qd1)); exact Kd.qt1 (Kd.S_far (p := ⟨gb175, 4, none⟩) (Kd.qt1 HO_6.out (fun k_ hk => (⟨hk, hk.1.1.2⟩ : _ ∧ k_ ≠ gb175))) (fun _ hk => hk.2) (.slice Ao64 y208.length co64)) (fun _ hk => ⟨hk.1.1.1.1, ⟨hk.1.2, ⟨hk.1.1.1.2, hk.1.1.2⟩⟩⟩)))⟩; have n1_ : Aside0 (Kd.R k54 54 w66 w.heap.size (fun k_ => some k_ ≠ (.slice Ao64 y208.length co64 : Value).ownBlock ∧ k_ ≠ gb207) u176003 x176003_11) := ⟨(by rw [hw]; exact (by (with_reducible repeat (first | apply Kd.qo0 | apply Kd.qn0 | apply Kd.qt0)); exact Kd.R_mono (Kd.R_far (p := ⟨gb175, 4, none⟩) (Kd.qx1 HO_176003.out BK175.out (by decide)) (fun _ hk => hk.2) (.slice Ao64 y208.length co64)) (fun _ hk => ⟨hk.1.2, hk.1.1.2⟩)))⟩; have n2_ : Aside0 (Kd.R k54 54 w66 w.heap.size (fun k_ => some k_ ≠ (u176003 : Value).ownBlock ∧ k_ ≠ gb207) (.slice Ao64 y208.length co64) y208) := ⟨(by rw [hw]; exact (by (with_reducible repeat (first | apply Kd.qo0 | apply Kd.qn0 | apply Kd.qt0)); exact Kd.R_mono (Kd.R_far (p := ⟨gb175, 4, none⟩) (Kd.qx1 HO210.out BK175.out (by decide)) (fun _ hk => hk.2) (.slice Ao64 y208.length co64)) (fun _ hk => ⟨hk.1.1, hk.1.2⟩)))⟩; have n3_ : Aside0 (w66.heap[gb175]? = some (.cells #[.string ((⟨#[105]⟩ : ByteArray) ++ t168), .int .i64 t172, .bool false, u176003, .slice Ao64 y208.length co64] 52 (0, 0))) := ⟨(by rw [hw]; exact (by (with_reducible repeat (first | refine qg0 ?_ _ | refine qh0 ?_ | refine qf0 ?_ _)); refine ql0 (cs := #[.string ((⟨#[105]⟩ : ByteArray) ++ t168), .int .i64 t172, .bool false, u176003, .slice none 0 0]) ?_ 4 _ rfl; (with_reducible repeat (first | refine qg0 ?_ _ | refine qh0 ?_ | refine qf0 ?_ _)); exact BK175.out))⟩; have n4_ : Aside0 (w66.heap[gb207]? = some (.cells #[.int .i64 t199, .int .i64 t200, .int .i64 0, .int .i64 t202, .int .i64 t203, .int .i64 0] 54 (0, 0))) := ⟨(by rw [hw]; exact (by (with_reducible repeat (first | refine qg0 ?_ _ | refine qh0 ?_ | refine qf0 ?_ _)); refine qe1 ?_ NB207_175.out _; (with_reducible repeat (first | refine qg0 ?_ _ | refine qh0 ?_ | refine qf0 ?_ _)); exact BK207.out))⟩; have n5_ : Aside0 (IsS186 w0 w66 g s0_0 t205 t206) := ⟨(by rw [hw]; exact (by repeat (first | (with_reducible first | exact HI0.out | apply IsS186.alloc | apply IsS186.drewN | apply IsS186.drew | apply IsS186.set_1 | apply IsS186.set_2 | refine IsS186.far ?_ NB0_175.out _ | refine IsS186.far ?_ NB0_207.out _) | exact HI0.out)))⟩; have n6_ : Aside0 (qj0 w w66 g none) := ⟨(by rw [hw]; exact (by repeat (first | (with_reducible first | exact HK.out | apply qj0.set_ | apply qp0 | apply qr0 | apply qq0 | refine qu0 ?_ GW175.out _ | refine qu0 ?_ GW207.out _) | exact HK.out)))⟩; have n7_ : Aside0 (Below w0.heap.size w0 w66) := ⟨(by rw [hw]; exact (by repeat (first | (with_reducible first | exact HB.out | apply qc0 | apply qa0 | apply qd0 | refine qi0 ?_ (IsS186.ge HI0.out) | refine qi0 ?_ GE175.out | refine qi0 ?_ GE207.out) | exact HB.out)))⟩; clear hw; clear HO_6; clear HO_176003; clear HO210; clear BK175; clear BK207; clear HI0; clear HK; clear HB; have HO_6 := n0_; have HO_176003 := n1_; have HO210 := n2_; have BK175 := n3_; have BK207 := n4_; have HI0 := n5_; have HK := n6_; have HB := n7_; clear n0_ n1_ n2_ n3_ n4_ n5_ n6_ n7_; have hcz67_0 : w66.cell? ⟨gb175, 0, none⟩ = some (.string ((⟨#[105]⟩ : ByteArray) ++ t168)) := (qe0 BK175.out 0).trans rfl; have hcz67_1 : w66.cell? ⟨gb175, 1, none⟩ = some (.int .i64 t172) := (qe0 BK175.out 1).trans rfl; have hcz67_2 : w66.cell? ⟨gb175, 2, none⟩ = some (.bool false) := (qe0 BK175.out 2).trans rfl; have hcz67_3 : w66.cell? ⟨gb175, 3, none⟩ = some (u176003) := (qe0 BK175.out 3).trans rfl; have hcz67_4 : w66.cell? ⟨gb175, 4, none⟩ = some (.slice Ao64 y208.length co64) := (qe0 BK175.out 4).trans rfl; have hfz67_0 := qb0 BK175.out 0; have hfz67_1 := qb0 BK175.out 1; have hfz67_2 := qb0 BK175.out 2; have hfz67_3 := qb0 BK175.out 3; have hfz67_4 := qb0 BK175.out 4; obtain ⟨Ao69, co69, eo69⟩ := Kd.qm1 HO_176003.out; subst eo69) | ((with_reducible refine gate_builtin (b := .append) (xs := #[.tmp 78, .tmp 80]) rfl ?_); at_builtin; refine Kd.S_append k52 w.heap.size rfl (.tmp 78) (.tmp 80) 45 52 (.agg #[(.string ⟨#[]⟩), (.int .i64 0), (.bool false), (.slice none 0 0), (.slice none 0 0)]) 80 rfl Try.underlying45 info52 rfl (by decide) (by omega) u6 x6_1 (⟨((⟨#[105]⟩ : ByteArray) ++ t168), t172, false, x176003_11, y208⟩ : S52) [.string ((⟨#[105]⟩ : ByteArray) ++ t168), .int .i64 t172, .bool false, .slice Ao69 x176003_11.length co69, .slice Ao64 y208.length co64] (fun k_ => k_ ≠ gb175 ∧ k_ ≠ gb207) (fun k_ => some k_ = (.slice Ao69 x176003_11.length co69 : Value).ownBlock ∨ some k_ = (.slice Ao64 y208.length co64 : Value).ownBlock) rfl rfl ?aP (fun k_ hk_ => hk_.elim (fun h_ => ((Kd.R_mono (ok' := fun k_ => ((fun k_ => k_ ≠ gb175 ∧ k_ ≠ gb207)) k_ ∧ some k_ ≠ (u6 : Value).ownBlock) (Kd.qx1 (Kd.R_apart' (HO_176003.out) (Kd.S_typed HO_6.out) (by decide)) BK175.out (by decide)) (fun k_ hk => ⟨⟨hk.2, hk.1.1.2⟩, hk.1.2⟩))).1 k_ h_.symm) (fun h_ => ((Kd.R_mono (ok' := fun k_ => ((fun k_ => k_ ≠ gb175 ∧ k_ ≠ gb207)) k_ ∧ some k_ ≠ (u6 : Value).ownBlock) (Kd.qx1 (Kd.R_apart' (HO210.out) (Kd.S_typed HO_6.out) (by decide)) BK175.out (by decide)) (fun k_ hk => ⟨⟨hk.2, hk.1.1.2⟩, hk.1.2⟩))).1 k_ h_.symm)) ?aF ?aO (Below.refl _ _) ?aS ?aL ?_; (case aP => exact k52_mkM _ _ _ (⟨((⟨#[105]⟩ : ByteArray) ++ t168), t172, false, x176003_11, y208⟩ : S52) (Kd.R_mono (Kd.R_tight rfl (Kd.R_mono (ok' := fun k_ => ((fun k_ => k_ ≠ gb175 ∧ k_ ≠ gb207)) k_ ∧ some k_ ≠ (u6 : Value).ownBlock) (Kd.qx1 (Kd.R_apart' (HO_176003.out) (Kd.S_typed HO_6.out) (by decide)) BK175.out (by decide)) (fun k_ hk => ⟨⟨hk.2, hk.1.1.2⟩, hk.1.2⟩))) (fun _ h_ => Or.inl h_)) (Kd.R_mono (Kd.R_tight rfl (Kd.R_mono (ok' := fun k_ => ((fun k_ => k_ ≠ gb175 ∧ k_ ≠ gb207)) k_ ∧ some k_ ≠ (u6 : Value).ownBlock) (Kd.qx1 (Kd.R_apart' (HO210.out) (Kd.S_typed HO_6.out) (by decide)) BK175.out (by decide)) (fun k_ hk => ⟨⟨hk.2, hk.1.1.2⟩, hk.1.2⟩))) (fun _ h_ => Or.inr (h_))) (by first | (intro k_ h3_ h4_; simp [Value.ownBlock] at h4_; done) | exact fun k_ h3_ h4_ => (HO210.out.1 k_ h4_).1 h3_.symm)); (case aF => exact (fun k_ hk => ⟨Kd.freshB (g := gb175) (o := .cells #[.string ((⟨#[105]⟩ : ByteArray) ++ t168), .int .i64 t172, .bool false, .slice Ao69 x176003_11.length co69, .slice Ao64 y208.length co64] 52 (0, 0)) (by (with_reducible repeat (first | refine qg0 ?_ _ | refine qh0 ?_ | refine qf0 ?_ _)); exact BK175.out) k_ hk, Kd.freshB (g := gb207) (o := .cells #[.int .i64 t199, .int .i64 t200, .int .i64 0, .int .i64 t202, .int .i64 t203, .int .i64 0] 54 (0, 0)) (by (with_reducible repeat (first | refine qg0 ?_ _ | refine qh0 ?_ | refine qf0 ?_ _)); exact BK207.out) k_ hk⟩)); (case aO => exact (by (with_reducible repeat (first | apply Kd.qx0 | apply Kd.qw0 | apply Kd.qd1)); exact Kd.qt1 HO_6.out (fun k_ hk => ⟨⟨hk.2.2.1, hk.2.2.2⟩, fun e_ => e_.elim (fun h_ => hk.1 h_) (fun h_ => hk.2.1 h_)⟩))); (case aS => exact (keep_size (w := w) (g := g) (row := none) (by repeat (first | (with_reducible first | exact HK.out | apply qj0.set_ | apply qp0 | apply qr0 | apply qq0 | refine qu0 ?_ GW175.out _ | refine qu0 ?_ GW207.out _) | exact HK.out)))); (case aL => have := LMc54.out; omega); intro v212 w68 ho hb hg hat; rw [← Ny211.out] at ho; have n0_ := Aside0.mk (blk_grown (g := gb175) (o := .cells #[.string ((⟨#[105]⟩ : ByteArray) ++ t168), .int .i64 t172, .bool false, .slice Ao69 x176003_11.length co69, .slice Ao64 y208.length co64] 52 (0, 0)) (by (with_reducible repeat (first | refine qg0 ?_ _ | refine qh0 ?_ | refine qf0 ?_ _)); exact BK175.out) hg (Kd.S_away HO_6.out (fun _ hk => hk.2.2.1))); have n1_ := Aside0.mk (IsS186.grown (show IsS186 w0 _ g s0_0 t205 t206 from by repeat (first | (with_reducible first | exact HI0.out | apply IsS186.alloc | apply IsS186.drewN | apply IsS186.drew | apply IsS186.set_1 | apply IsS186.set_2 | refine IsS186.far ?_ NB0_175.out _ | refine IsS186.far ?_ NB0_207.out _) | exact HI0.out)) hg (IsS186.own_neS HI0.out HO_6.out (by decide))); have n2_ := Aside0.mk (blk_grown (g := gb207) (o := .cells #[.int .i64 t199, .int .i64 t200, .int .i64 0, .int .i64 t202, .int .i64 t203, .int .i64 0] 54 (0, 0)) (by (with_reducible repeat (first | refine qg0 ?_ _ | refine qh0 ?_ | refine qf0 ?_ _)); exact BK207.out) hg (Kd.S_ne HO_6.out BK207.out (by decide))); have n3_ := Aside0.mk (below_weaken (by repeat (first | (with_reducible first | exact HB.out | apply qc0 | apply qa0 | apply qd0 | refine qi0 ?_ (IsS186.ge HI0.out) | refine qi0 ?_ GE175.out | refine qi0 ?_ GE207.out) | exact HB.out)) HL.out hb); have n4_ := Aside0.mk (qj0.trans (by repeat (first | (with_reducible first | exact HK.out | apply qj0.set_ | apply qp0 | apply qr0 | apply qq0 | refine qu0 ?_ GW175.out _ | refine qu0 ?_ GW207.out _) | exact HK.out)) (qj0.of_grown hg g) (Kd.S_base2 HO_6.out)); have n5_ := Aside0.mk (ho); clear BK175; clear HI0; clear BK207; clear HB; clear HK; clear HO_6; clear HO210; clear HO_176003; have BK175 := n0_; have HI0 := n1_; have BK207 := n2_; have HB := n3_; have HK := n4_; have HO213 := n5_; clear n0_ n1_ n2_ n3_ n4_ n5_; clear ho hb hg hat))
          go_roundg kj30
          case measure => have := HK1.out; have := HJ11.out; have := HJ30.out; omega
          case rel => exact ⟨(y211), (wrap64 (x7_1 + 1)), (t205), (t206), (by first | rfl | (simp; done) | (simp [*]; done)), H', ⟨by have := HK1.out; have := HJ11.out; have := HJ30.out; omega⟩, ⟨by (with_reducible repeat (first | apply Kd.qx0 | apply Kd.qw0 | apply Kd.qd1)); exact Kd.qt1 HO213.out (fun _ hk => trivial)⟩, ⟨by repeat (first | (with_reducible first | exact HI0.out | apply IsS186.alloc | apply IsS186.drewN | apply IsS186.drew | apply IsS186.set_1 | apply IsS186.set_2 | refine IsS186.far ?_ NB0_175.out _ | refine IsS186.far ?_ NB0_207.out _) | exact HI0.out)⟩, ⟨by repeat (first | (with_reducible first | exact HK.out | apply qj0.set_ | apply qp0 | apply qr0 | apply qq0 | refine qu0 ?_ GW175.out _ | refine qu0 ?_ GW207.out _) | exact HK.out)⟩, ⟨by repeat (first | (with_reducible first | exact HB.out | apply qc0 | apply qa0 | apply qd0 | refine qi0 ?_ (IsS186.ge HI0.out) | refine qi0 ?_ GE175.out | refine qi0 ?_ GE207.out) | exact HB.out)⟩⟩
         rw [if_neg c51] at H
         have c51b0 : decide (x7_1 < (wrap64 ((wrap64 (2 + t162)) - 1))) = false := decide_eq_false c51
         clear c51
         by_cases c70 : x6_1.length < 1759218604441
         case neg => rw [if_neg c70] at H; exact absurd H (by simp)
         rw [if_pos c70] at H
         have LMc70 := Aside0.mk c70
         clear c70
         obtain ⟨y214, hy214⟩ : ∃ y_ : List (S52), y_ = (x6_1 ++ [(⟨((⟨#[105]⟩ : ByteArray) ++ t168), t172, false, x176003_11, ([] : List (S54))⟩ : S52)]) := ⟨_, rfl⟩
         replace H : (spec_l17DrawItems.l0 kj30 (wrap64 (2 + t162)) y214 (wrap64 (x7_1 + 1)) s0_0 t197 t198) = some (r1, r2, r3) := by first | (rw [hy214]; with_reducible exact H) | (have H2_ := (Option.bind_some _ _).symm.trans H; rw [hy214]; with_reducible exact H2_) | (have H2_ := (Option.bind_some _ _).symm.trans H; with_reducible exact H2_) | with_reducible exact H | (rw [hy214]; exact H) | exact H
         have Ny214 := Aside0.mk hy214
         clear hy214
         have H' := Aside0.mk H
         clear H
         go_wp2_with (first | ((with_reducible refine qs0 (f := 63) rfl ?_); refine qk1 (some 59) rfl rfl Try.func63 (by kernel_rfl) rfl #[.pointer (some ⟨g, 0, none⟩), .int .i64 6] rfl (by (try simp only [List.map_toArray, List.map_cons, List.map_nil]); first | done | rfl | (simp only [List.length_drop, List.length_take]; rfl)) ?_; (with_reducible refine (spec_l1Once.calls g s0_0 x1001_30 x1002_30 6 true t197 t198 w0 _ ?side1 ?side2 A49.out).mono ?_); (case side1 => repeat (first | (with_reducible first | exact HI0.out | apply IsS186.alloc | apply IsS186.drewN | apply IsS186.drew | apply IsS186.set_1 | apply IsS186.set_2 | refine IsS186.far ?_ NB0_175.out _) | exact HI0.out)); (case side2 => repeat (first | (with_reducible first | exact HB.out | apply qc0 | apply qa0 | apply qd0 | refine qi0 ?_ (IsS186.ge HI0.out) | refine qi0 ?_ GE175.out) | exact HB.out)); rintro e w71 ⟨rfl, hi, hb, hk⟩; refine ⟨_, rfl, ?_⟩; have n0_ := Aside0.mk (Kd.qt1 (Kd.S_keep (IsS186.apartS (show IsS186 w0 _ g s0_0 x1001_30 x1002_30 from by repeat (first | (with_reducible first | exact HI0.out | apply IsS186.alloc | apply IsS186.drewN | apply IsS186.drew | apply IsS186.set_1 | apply IsS186.set_2 | refine IsS186.far ?_ NB0_175.out _) | exact HI0.out)) (by (with_reducible repeat (first | apply Kd.qx0 | apply Kd.qw0 | apply Kd.qd1)); exact HO_6.out) (by decide)) hk (fun _ h => h.2)) (fun _ h => h.1)); have n1_ := Aside0.mk (Kd.R_mono (Kd.R_keep (IsS186.apart (show IsS186 w0 _ g s0_0 x1001_30 x1002_30 from by repeat (first | (with_reducible first | exact HI0.out | apply IsS186.alloc | apply IsS186.drewN | apply IsS186.drew | apply IsS186.set_1 | apply IsS186.set_2 | refine IsS186.far ?_ NB0_175.out _) | exact HI0.out)) (by (with_reducible repeat (first | apply Kd.qo0 | apply Kd.qn0 | apply Kd.qt0)); exact HO_176003.out) (by decide)) hk (fun _ h => h.2)) (fun _ h => h.1)); have n2_ := Aside0.mk (qj0.blk hk (g' := gb175) (o := .cells #[.string ((⟨#[105]⟩ : ByteArray) ++ t168), .int .i64 t172, .bool false, u176003, .slice none 0 0] 52 (0, 0)) (by (with_reducible repeat (first | refine qg0 ?_ _ | refine qh0 ?_ | refine qf0 ?_ _)); exact BK175.out) NB175_0.out (by simp)); have n3_ := Aside0.mk (qj0.trans (by repeat (first | (with_reducible first | exact HK.out | apply qj0.set_ | apply qp0 | apply qr0 | apply qq0 | refine qu0 ?_ GW175.out _) | exact HK.out)) hk (.inl rfl)); have n4_ := Aside0.mk (hb); have n5_ := Aside0.mk (hi); clear HO_6; clear HO_176003; clear BK175; clear HK; clear HB; clear HI0; have HO_6 := n0_; have HO_176003 := n1_; have BK175 := n2_; have HK := n3_; have HB := n4_; have HI0 := n5_; clear n0_ n1_ n2_ n3_ n4_ n5_; (try clear hb); (try clear hb2); (try clear hk); (try clear hi); have hnb72 := NB175_0.out; have hnc72 := NB0_175.out; have hcz73_0 : w71.cell? ⟨gb175, 0, none⟩ = some (.string ((⟨#[105]⟩ : ByteArray) ++ t168)) := (qe0 BK175.out 0).trans rfl; have hcz73_1 : w71.cell? ⟨gb175, 1, none⟩ = some (.int .i64 t172) := (qe0 BK175.out 1).trans rfl; have hcz73_2 : w71.cell? ⟨gb175, 2, none⟩ = some (.bool false) := (qe0 BK175.out 2).trans rfl; have hcz73_3 : w71.cell? ⟨gb175, 3, none⟩ = some (u176003) := (qe0 BK175.out 3).trans rfl; have hcz73_4 : w71.cell? ⟨gb175, 4, none⟩ = some (.slice none 0 0) := (qe0 BK175.out 4).trans rfl; have hfz73_0 := qb0 BK175.out 0; have hfz73_1 := qb0 BK175.out 1; have hfz73_2 := qb0 BK175.out 2; have hfz73_3 := qb0 BK175.out 3; have hfz73_4 := qb0 BK175.out 4; obtain ⟨Ao75, co75, eo75⟩ := Kd.qm1 HO_176003.out; subst eo75) | ((with_reducible refine gate_builtin (b := .append) (xs := #[.tmp 78, .tmp 80]) rfl ?_); at_builtin; refine Kd.S_append k52 w.heap.size rfl (.tmp 78) (.tmp 80) 45 52 (.agg #[(.string ⟨#[]⟩), (.int .i64 0), (.bool false), (.slice none 0 0), (.slice none 0 0)]) 80 rfl Try.underlying45 info52 rfl (by decide) (by omega) u6 x6_1 (⟨((⟨#[105]⟩ : ByteArray) ++ t168), t172, false, x176003_11, ([] : List (S54))⟩ : S52) [.string ((⟨#[105]⟩ : ByteArray) ++ t168), .int .i64 t172, .bool false, .slice Ao75 x176003_11.length co75, .slice none 0 0] (fun k_ => k_ ≠ gb175) (fun k_ => some k_ = (.slice Ao75 x176003_11.length co75 : Value).ownBlock) rfl rfl ?aP (fun k_ hk_ => ((Kd.R_mono (ok' := fun k_ => ((fun k_ => k_ ≠ gb175)) k_ ∧ some k_ ≠ (u6 : Value).ownBlock) (Kd.qx1 (Kd.R_apart' (HO_176003.out) (Kd.S_typed HO_6.out) (by decide)) BK175.out (by decide)) (fun k_ hk => ⟨hk.2, hk.1.2⟩))).1 k_ hk_.symm) ?aF ?aO (Below.refl _ _) ?aS ?aL ?_; (case aP => exact k52_mkM _ _ _ (⟨((⟨#[105]⟩ : ByteArray) ++ t168), t172, false, x176003_11, ([] : List (S54))⟩ : S52) (Kd.R_mono (Kd.R_tight rfl (Kd.R_mono (ok' := fun k_ => ((fun k_ => k_ ≠ gb175)) k_ ∧ some k_ ≠ (u6 : Value).ownBlock) (Kd.qx1 (Kd.R_apart' (HO_176003.out) (Kd.S_typed HO_6.out) (by decide)) BK175.out (by decide)) (fun k_ hk => ⟨hk.2, hk.1.2⟩))) (fun _ h_ => h_)) (Kd.R_nil _ _ _ _ _) (by first | (intro k_ h3_ h4_; simp [Value.ownBlock] at h4_; done) | exact fun k_ h3_ h4_ => (HO_none.out.1 k_ h4_).1 h3_.symm)); (case aF => exact (fun k_ hk => Kd.freshB (g := gb175) (o := .cells #[.string ((⟨#[105]⟩ : ByteArray) ++ t168), .int .i64 t172, .bool false, .slice Ao75 x176003_11.length co75, .slice none 0 0] 52 (0, 0)) (by (with_reducible repeat (first | refine qg0 ?_ _ | refine qh0 ?_ | refine qf0 ?_ _)); exact BK175.out) k_ hk)); (case aO => exact (by (with_reducible repeat (first | apply Kd.qx0 | apply Kd.qw0 | apply Kd.qd1)); exact Kd.qt1 HO_6.out (fun k_ hk => ⟨hk.2, fun e_ => hk.1 e_⟩))); (case aS => exact (keep_size (w := w) (g := g) (row := none) (by repeat (first | (with_reducible first | exact HK.out | apply qj0.set_ | apply qp0 | apply qr0 | apply qq0 | refine qu0 ?_ GW175.out _) | exact HK.out)))); (case aL => have := LMc70.out; omega); intro v215 w74 ho hb hg hat; rw [← Ny214.out] at ho; have n0_ := Aside0.mk (blk_grown (g := gb175) (o := .cells #[.string ((⟨#[105]⟩ : ByteArray) ++ t168), .int .i64 t172, .bool false, .slice Ao75 x176003_11.length co75, .slice none 0 0] 52 (0, 0)) (by (with_reducible repeat (first | refine qg0 ?_ _ | refine qh0 ?_ | refine qf0 ?_ _)); exact BK175.out) hg (Kd.S_away HO_6.out (fun _ hk => hk.2))); have n1_ := Aside0.mk (IsS186.grown (show IsS186 w0 _ g s0_0 t197 t198 from by repeat (first | (with_reducible first | exact HI0.out | apply IsS186.alloc | apply IsS186.drewN | apply IsS186.drew | apply IsS186.set_1 | apply IsS186.set_2 | refine IsS186.far ?_ NB0_175.out _) | exact HI0.out)) hg (IsS186.own_neS HI0.out HO_6.out (by decide))); have n2_ := Aside0.mk (below_weaken (by repeat (first | (with_reducible first | exact HB.out | apply qc0 | apply qa0 | apply qd0 | refine qi0 ?_ (IsS186.ge HI0.out) | refine qi0 ?_ GE175.out) | exact HB.out)) HL.out hb); have n3_ := Aside0.mk (qj0.trans (by repeat (first | (with_reducible first | exact HK.out | apply qj0.set_ | apply qp0 | apply qr0 | apply qq0 | refine qu0 ?_ GW175.out _) | exact HK.out)) (qj0.of_grown hg g) (Kd.S_base2 HO_6.out)); have n4_ := Aside0.mk (ho); clear BK175; clear HI0; clear HB; clear HK; clear HO_6; clear HO_176003; have BK175 := n0_; have HI0 := n1_; have HB := n2_; have HK := n3_; have HO216 := n4_; clear n0_ n1_ n2_ n3_ n4_; clear ho hb hg hat))
         go_roundg kj30
         case measure => have := HK1.out; have := HJ11.out; have := HJ30.out; omega
         case rel => exact ⟨(y214), (wrap64 (x7_1 + 1)), (t197), (t198), (by first | rfl | (simp; done) | (simp [*]; done)), H', ⟨by have := HK1.out; have := HJ11.out; have := HJ30.out; omega⟩, ⟨by (with_reducible repeat (first | apply Kd.qx0 | apply Kd.qw0 | apply Kd.qd1)); exact Kd.qt1 HO216.out (fun _ hk => trivial)⟩, ⟨by repeat (first | (with_reducible first | exact HI0.out | apply IsS186.alloc | apply IsS186.drewN | apply IsS186.drew | apply IsS186.set_1 | apply IsS186.set_2 | refine IsS186.far ?_ NB0_175.out _) | exact HI0.out)⟩, ⟨by repeat (first | (with_reducible first | exact HK.out | apply qj0.set_ | apply qp0 | apply qr0 | apply qq0 | refine qu0 ?_ GW175.out _) | exact HK.out)⟩, ⟨by repeat (first | (with_reducible first | exact HB.out | apply qc0 | apply qa0 | apply qd0 | refine qi0 ?_ (IsS186.ge HI0.out) | refine qi0 ?_ GE175.out) | exact HB.out)⟩⟩
        replace c50 := Bool.eq_false_iff.mpr c50
        subst c50
        have H1 : (if x6_1.length < 1759218604441 then (spec_l17DrawItems.l0 kj30 (wrap64 (2 + t162)) (x6_1 ++ [(⟨((⟨#[105]⟩ : ByteArray) ++ t168), t172, false, x176003_11, ([] : List (S54))⟩ : S52)]) (wrap64 (x7_1 + 1)) s0_0 t197 t198) else (none)) = some (r1, r2, r3) := by rw [if_neg (show ¬ (false = true) by decide)] at H; exact H
        clear H
        have H := H1
        clear H1
        by_cases c76 : x6_1.length < 1759218604441
        case neg => rw [if_neg c76] at H; exact absurd H (by simp)
        rw [if_pos c76] at H
        have LMc76 := Aside0.mk c76
        clear c76
        obtain ⟨y217, hy217⟩ : ∃ y_ : List (S52), y_ = (x6_1 ++ [(⟨((⟨#[105]⟩ : ByteArray) ++ t168), t172, false, x176003_11, ([] : List (S54))⟩ : S52)]) := ⟨_, rfl⟩
        replace H : (spec_l17DrawItems.l0 kj30 (wrap64 (2 + t162)) y217 (wrap64 (x7_1 + 1)) s0_0 t197 t198) = some (r1, r2, r3) := by first | (rw [hy217]; with_reducible exact H) | (have H2_ := (Option.bind_some _ _).symm.trans H; rw [hy217]; with_reducible exact H2_) | (have H2_ := (Option.bind_some _ _).symm.trans H; with_reducible exact H2_) | with_reducible exact H | (rw [hy217]; exact H) | exact H
        have Ny217 := Aside0.mk hy217
        clear hy217
        have H' := Aside0.mk H
        clear H
        go_wp2_with (first | ((with_reducible refine qs0 (f := 63) rfl ?_); refine qk1 (some 59) rfl rfl Try.func63 (by kernel_rfl) rfl #[.pointer (some ⟨g, 0, none⟩), .int .i64 6] rfl (by (try simp only [List.map_toArray, List.map_cons, List.map_nil]); first | done | rfl | (simp only [List.length_drop, List.length_take]; rfl)) ?_; (with_reducible refine (spec_l1Once.calls g s0_0 x1001_30 x1002_30 6 false t197 t198 w0 _ ?side1 ?side2 A49.out).mono ?_); (case side1 => repeat (first | (with_reducible first | exact HI0.out | apply IsS186.alloc | apply IsS186.drewN | apply IsS186.drew | apply IsS186.set_1 | apply IsS186.set_2 | refine IsS186.far ?_ NB0_175.out _) | exact HI0.out)); (case side2 => repeat (first | (with_reducible first | exact HB.out | apply qc0 | apply qa0 | apply qd0 | refine qi0 ?_ (IsS186.ge HI0.out) | refine qi0 ?_ GE175.out) | exact HB.out)); rintro e w77 ⟨rfl, hi, hb, hk⟩; refine ⟨_, rfl, ?_⟩; have n0_ := Aside0.mk (Kd.qt1 (Kd.S_keep (IsS186.apartS (show IsS186 w0 _ g s0_0 x1001_30 x1002_30 from by repeat (first | (with_reducible first | exact HI0.out | apply IsS186.alloc | apply IsS186.drewN | apply IsS186.drew | apply IsS186.set_1 | apply IsS186.set_2 | refine IsS186.far ?_ NB0_175.out _) | exact HI0.out)) (by (with_reducible repeat (first | apply Kd.qx0 | apply Kd.qw0 | apply Kd.qd1)); exact HO_6.out) (by decide)) hk (fun _ h => h.2)) (fun _ h => h.1)); have n1_ := Aside0.mk (Kd.R_mono (Kd.R_keep (IsS186.apart (show IsS186 w0 _ g s0_0 x1001_30 x1002_30 from by repeat (first | (with_reducible first | exact HI0.out | apply IsS186.alloc | apply IsS186.drewN | apply IsS186.drew | apply IsS186.set_1 | apply IsS186.set_2 | refine IsS186.far ?_ NB0_175.out _) | exact HI0.out)) (by (with_reducible repeat (first | apply Kd.qo0 | apply Kd.qn0 | apply Kd.qt0)); exact HO_176003.out) (by decide)) hk (fun _ h => h.2)) (fun _ h => h.1)); have n2_ := Aside0.mk (qj0.blk hk (g' := gb175) (o := .cells #[.string ((⟨#[105]⟩ : ByteArray) ++ t168), .int .i64 t172, .bool false, u176003, .slice none 0 0] 52 (0, 0)) (by (with_reducible repeat (first | refine qg0 ?_ _ | refine qh0 ?_ | refine qf0 ?_ _)); exact BK175.out) NB175_0.out (by simp)); have n3_ := Aside0.mk (qj0.trans (by repeat (first | (with_reducible first | exact HK.out | apply qj0.set_ | apply qp0 | apply qr0 | apply qq0 | refine qu0 ?_ GW175.out _) | exact HK.out)) hk (.inl rfl)); have n4_ := Aside0.mk (hb); have n5_ := Aside0.mk (hi); clear HO_6; clear HO_176003; clear BK175; clear HK; clear HB; clear HI0; have HO_6 := n0_; have HO_176003 := n1_; have BK175 := n2_; have HK := n3_; have HB := n4_; have HI0 := n5_; clear n0_ n1_ n2_ n3_ n4_ n5_; (try clear hb); (try clear hb2); (try clear hk); (try clear hi); have hnb78 := NB175_0.out; have hnc78 := NB0_175.out; have hcz79_0 : w77.cell? ⟨gb175, 0, none⟩ = some (.string ((⟨#[105]⟩ : ByteArray) ++ t168)) := (qe0 BK175.out 0).trans rfl; have hcz79_1 : w77.cell? ⟨gb175, 1, none⟩ = some (.int .i64 t172) := (qe0 BK175.out 1).trans rfl; have hcz79_2 : w77.cell? ⟨gb175, 2, none⟩ = some (.bool false) := (qe0 BK175.out 2).trans rfl; have hcz79_3 : w77.cell? ⟨gb175, 3, none⟩ = some (u176003) := (qe0 BK175.out 3).trans rfl; have hcz79_4 : w77.cell? ⟨gb175, 4, none⟩ = some (.slice none 0 0) := (qe0 BK175.out 4).trans rfl; have hfz79_0 := qb0 BK175.out 0; have hfz79_1 := qb0 BK175.out 1; have hfz79_2 := qb0 BK175.out 2; have hfz79_3 := qb0 BK175.out 3; have hfz79_4 := qb0 BK175.out 4; obtain ⟨Ao81, co81, eo81⟩ := Kd.qm1 HO_176003.out; subst eo81) | ((with_reducible refine gate_builtin (b := .append) (xs := #[.tmp 78, .tmp 80]) rfl ?_); at_builtin; refine Kd.S_append k52 w.heap.size rfl (.tmp 78) (.tmp 80) 45 52 (.agg #[(.string ⟨#[]⟩), (.int .i64 0), (.bool false), (.slice none 0 0), (.slice none 0 0)]) 80 rfl Try.underlying45 info52 rfl (by decide) (by omega) u6 x6_1 (⟨((⟨#[105]⟩ : ByteArray) ++ t168), t172, false, x176003_11, ([] : List (S54))⟩ : S52) [.string ((⟨#[105]⟩ : ByteArray) ++ t168), .int .i64 t172, .bool false, .slice Ao81 x176003_11.length co81, .slice none 0 0] (fun k_ => k_ ≠ gb175) (fun k_ => some k_ = (.slice Ao81 x176003_11.length co81 : Value).ownBlock) rfl rfl ?aP (fun k_ hk_ => ((Kd.R_mono (ok' := fun k_ => ((fun k_ => k_ ≠ gb175)) k_ ∧ some k_ ≠ (u6 : Value).ownBlock) (Kd.qx1 (Kd.R_apart' (HO_176003.out) (Kd.S_typed HO_6.out) (by decide)) BK175.out (by decide)) (fun k_ hk => ⟨hk.2, hk.1.2⟩))).1 k_ hk_.symm) ?aF ?aO (Below.refl _ _) ?aS ?aL ?_; (case aP => exact k52_mkM _ _ _ (⟨((⟨#[105]⟩ : ByteArray) ++ t168), t172, false, x176003_11, ([] : List (S54))⟩ : S52) (Kd.R_mono (Kd.R_tight rfl (Kd.R_mono (ok' := fun k_ => ((fun k_ => k_ ≠ gb175)) k_ ∧ some k_ ≠ (u6 : Value).ownBlock) (Kd.qx1 (Kd.R_apart' (HO_176003.out) (Kd.S_typed HO_6.out) (by decide)) BK175.out (by decide)) (fun k_ hk => ⟨hk.2, hk.1.2⟩))) (fun _ h_ => h_)) (Kd.R_nil _ _ _ _ _) (by first | (intro k_ h3_ h4_; simp [Value.ownBlock] at h4_; done) | exact fun k_ h3_ h4_ => (HO_none.out.1 k_ h4_).1 h3_.symm)); (case aF => exact (fun k_ hk => Kd.freshB (g := gb175) (o := .cells #[.string ((⟨#[105]⟩ : ByteArray) ++ t168), .int .i64 t172, .bool false, .slice Ao81 x176003_11.length co81, .slice none 0 0] 52 (0, 0)) (by (with_reducible repeat (first | refine qg0 ?_ _ | refine qh0 ?_ | refine qf0 ?_ _)); exact BK175.out) k_ hk)); (case aO => exact (by (with_reducible repeat (first | apply Kd.qx0 | apply Kd.qw0 | apply Kd.qd1)); exact Kd.qt1 HO_6.out (fun k_ hk => ⟨hk.2, fun e_ => hk.1 e_⟩))); (case aS => exact (keep_size (w := w) (g := g) (row := none) (by repeat (first | (with_reducible first | exact HK.out | apply qj0.set_ | apply qp0 | apply qr0 | apply qq0 | refine qu0 ?_ GW175.out _) | exact HK.out)))); (case aL => have := LMc76.out; omega); intro v218 w80 ho hb hg hat; rw [← Ny217.out] at ho; have n0_ := Aside0.mk (blk_grown (g := gb175) (o := .cells #[.string ((⟨#[105]⟩ : ByteArray) ++ t168), .int .i64 t172, .bool false, .slice Ao81 x176003_11.length co81, .slice none 0 0] 52 (0, 0)) (by (with_reducible repeat (first | refine qg0 ?_ _ | refine qh0 ?_ | refine qf0 ?_ _)); exact BK175.out) hg (Kd.S_away HO_6.out (fun _ hk => hk.2))); have n1_ := Aside0.mk (IsS186.grown (show IsS186 w0 _ g s0_0 t197 t198 from by repeat (first | (with_reducible first | exact HI0.out | apply IsS186.alloc | apply IsS186.drewN | apply IsS186.drew | apply IsS186.set_1 | apply IsS186.set_2 | refine IsS186.far ?_ NB0_175.out _) | exact HI0.out)) hg (IsS186.own_neS HI0.out HO_6.out (by decide))); have n2_ := Aside0.mk (below_weaken (by repeat (first | (with_reducible first | exact HB.out | apply qc0 | apply qa0 | apply qd0 | refine qi0 ?_ (IsS186.ge HI0.out) | refine qi0 ?_ GE175.out) | exact HB.out)) HL.out hb); have n3_ := Aside0.mk (qj0.trans (by repeat (first | (with_reducible first | exact HK.out | apply qj0.set_ | apply qp0 | apply qr0 | apply qq0 | refine qu0 ?_ GW175.out _) | exact HK.out)) (qj0.of_grown hg g) (Kd.S_base2 HO_6.out)); have n4_ := Aside0.mk (ho); clear BK175; clear HI0; clear HB; clear HK; clear HO_6; clear HO_176003; have BK175 := n0_; have HI0 := n1_; have HB := n2_; have HK := n3_; have HO219 := n4_; clear n0_ n1_ n2_ n3_ n4_; clear ho hb hg hat))
        go_roundg kj30
        case measure => have := HK1.out; have := HJ11.out; have := HJ30.out; omega
        case rel => exact ⟨(y217), (wrap64 (x7_1 + 1)), (t197), (t198), (by first | rfl | (simp; done) | (simp [*]; done)), H', ⟨by have := HK1.out; have := HJ11.out; have := HJ30.out; omega⟩, ⟨by (with_reducible repeat (first | apply Kd.qx0 | apply Kd.qw0 | apply Kd.qd1)); exact Kd.qt1 HO219.out (fun _ hk => trivial)⟩, ⟨by repeat (first | (with_reducible first | exact HI0.out | apply IsS186.alloc | apply IsS186.drewN | apply IsS186.drew | apply IsS186.set_1 | apply IsS186.set_2 | refine IsS186.far ?_ NB0_175.out _) | exact HI0.out)⟩, ⟨by repeat (first | (with_reducible first | exact HK.out | apply qj0.set_ | apply qp0 | apply qr0 | apply qq0 | refine qu0 ?_ GW175.out _) | exact HK.out)⟩, ⟨by repeat (first | (with_reducible first | exact HB.out | apply qc0 | apply qa0 | apply qd0 | refine qi0 ?_ (IsS186.ge HI0.out) | refine qi0 ?_ GE175.out) | exact HB.out)⟩⟩
   rw [if_neg c7] at H
   have c7b0 : decide (x7_1 < (wrap64 (2 + t162))) = false := decide_eq_false c7
   clear c7
   simp only [Option.some.injEq, Prod.mk.injEq] at H
   obtain ⟨rfl, rfl, rfl⟩ := H
   go_wp2
   go_ret
   exact ⟨_, by first | rfl | (simp [errW_none, errW_some] <;> rfl) | (simp [*, errW_none, errW_some] <;> rfl), by (with_reducible repeat (first | apply Kd.qx0 | apply Kd.qw0 | apply Kd.qd1)); exact HO_6.out, by repeat (first | (with_reducible first | exact HI0.out | apply IsS186.alloc | apply IsS186.drewN | apply IsS186.drew | apply IsS186.set_1 | apply IsS186.set_2) | exact HI0.out), by repeat (first | (with_reducible first | exact HB.out | apply qc0 | apply qa0 | apply qd0 | refine qi0 ?_ (IsS186.ge HI0.out)) | exact HB.out), by repeat (first | (with_reducible first | exact HK.out | apply qj0.set_ | apply qp0 | apply qr0 | apply qq0) | exact HK.out)⟩

-- EXTERN loop.example/g00040/spec.DrawLevels
/-! ### spec_DrawLevels: function 25 -/
-- @rounds
-- @making
def spec_DrawLevels.f (k : Nat) (l0 : List Int) : Option ((List (S52))) := (spec_l1New.f k l0).bind fun b => (spec_l1Size.f l0 8).bind fun t => (spec_l17DrawItems.f k b.1 b.2.1 b.2.2 t).bind fun d => (spec_l17Spoil.f b.1 d.2.1 d.2.2 d.1).bind fun e => some e.1
theorem spec_DrawLevels.mono : ∀ a0 k, LeO (spec_DrawLevels.f k a0) (spec_DrawLevels.f (k + 1) a0) := by
 intro a0 k
 unfold spec_DrawLevels.f
 repeat' first
  | (with_reducible exact spec_l1New.mono _ _)
  | (with_reducible exact spec_l17DrawItems.mono _ _ _ _ _)
  | (with_reducible exact LeO.refl _)
  | (with_reducible exact LeO.none _)
  | (with_reducible refine LeO.bind ?_ (fun _ => ?_))
set_option maxHeartbeats 8000000 in
set_option maxRecDepth 100000 in
theorem spec_DrawLevels.calls (k : Nat) (A0 : Option Addr) (c0 : Nat) (l0 : List Int) (r : List (S52)) (w : World) (hr0 : Kd.C (Kd.int .u8) w A0 l0.length l0) (hc0 : l0.length ≤ c0) (h : spec_DrawLevels.f k l0 = some r) :
  Calls Try.prog 25 #[.slice A0 l0.length c0] w fun e w' => ∃ v0_ : Value, e = .returned (v0_) ∧ Kd.S k52 52 w' w.heap.size (fun _ => True) v0_ r ∧ Below w.heap.size w w' := by
 obtain ⟨⟨t0, t1, t2⟩, e1, h⟩ := Option.bind_eq_some_iff.1 h
 obtain ⟨n, e2, h⟩ := Option.bind_eq_some_iff.1 h
 obtain ⟨⟨d, d1, d2⟩, e3, h⟩ := Option.bind_eq_some_iff.1 h
 obtain ⟨⟨q, q1, q2⟩, e4, h⟩ := Option.bind_eq_some_iff.1 h
 obtain rfl := Option.some.inj h
 clear h
 go_enter Try.func25, Try.ntmps25
 go_wp2_with (fail)
 refine (spec_l1New.calls k _ _ l0 t0 t1 t2 w _ (Below.refl _ _) hr0 hc0 e1).mono ?_
 rintro e w1 ⟨g, rfl, hI, hB, _⟩
 dsimp only
 go_wp2_with (fail)
 refine (spec_l1Size.calls _ _ l0 8 n _ (Kd.C_below hr0 hB) hc0 e2).mono ?_
 rintro e w' ⟨rfl, ⟨nd, rfl⟩⟩
 dsimp only
 replace hI := hI.drewN nd
 replace hB := qa0 hB nd
 go_wp2_with (fail)
 refine (spec_l17DrawItems.calls k g t0 t1 t2 n d d1 d2 w _ hI hB e3).mono ?_
 rintro e w2 ⟨v, rfl, hS, hI2, hB2, _⟩
 dsimp only
 have hS2 := Kd.S_lower hS hB.size
 clear hI hB hS e1 e2 e3
 go_wp2_with (fail)
 refine (spec_l17Spoil.calls g t0 d1 d2 v d q q1 q2 w _ hI2 hB2 hS2 e4).mono ?_
 rintro e w3 ⟨v3, rfl, hS3, hI3, hB3⟩
 dsimp only
 go_wp2_with (fail)
 go_ret
 exact ⟨_, rfl, hS3, hB3⟩

end Go.Proofs.Ytkkdmmefnicmaaa.PFnLevelled
