/- Lines by a program (a changed copy of the kit's print: this repo's wip/tools): Go functions as Lean functions, and proofs that the calls answer so. -/
import Derived.Test.YtdnhpicgjkddbaaZPFnExactFindPaperx0
import Derived.Test.YtdnhpicgjkddbaaZPFnExactFindPaperx3
import Derived.Test.YtdnhpicgjkddbaaZPFnExactFindPaperx4
namespace Go.Proofs.Ytdnhpicgjkddbaa.PFnExactFindPaper
open Go.RowKit Go.Proofs.YtdnhpicgjkddbaaW.PrintWords Go.Proofs.YtdnhpicgjkddbaaW.PrintLast Go.Proofs.YtdnhpicgjkddbaaW.PrintMore
/-- Runs of true and false, by turns. -/
def rb5l : Bool → List Nat → List Bool
 | _, [] => []
 | b, n :: r => List.replicate n b ++ rb5l (!b) r
def rb5 (l : List Nat) : Array Bool := (rb5l true l).toArray
attribute [local go_sem] max2_int min2_int max_two min_two max_three min_three max_four min_four   -- for this text's walks alone
set_option linter.unusedVariables false
set_option linter.unusedSimpArgs false

/-! ### spec_RegisterOk: function 22 -/
mutual
def spec_RegisterOk.j0 : Nat → Bool → List (S122) → List (S53) → Option (Bool)
 | 0, _, _, _ => none
 | k + 1, x19, x157000, x157001 => if x19 = true then (some false) else (spec_RegisterOk.l0 k 0 x157000 x157001)
def spec_RegisterOk.l0 : Nat → Int → List (S122) → List (S53) → Option (Bool)
 | 0, _, _, _ => none
 | k + 1, x3, x157000, x157001 => if x3 < (x157000.length : Int) then (if 0 ≤ x3 then ((spec_NameOk.f k ((rd_T122 x157000 x3).f0)).bind fun t158 => (if t158 = true then ((spec_l1In.f ((rd_T122 x157000 x3).f1) 1 8).bind fun t160 => (spec_RegisterOk.j2 k x3 (!t160) x157000 x157001)) else (spec_RegisterOk.j2 k x3 true x157000 x157001))) else (none)) else (spec_RegisterOk.l3 k 0 x157000 x157001)
def spec_RegisterOk.j2 : Nat → Int → Bool → List (S122) → List (S53) → Option (Bool)
 | 0, _, _, _, _ => none
 | k + 1, x3, x44, x157000, x157001 => if x44 = true then (some false) else (spec_RegisterOk.l1 k x3 0 x157000 x157001)
def spec_RegisterOk.l1 : Nat → Int → Int → List (S122) → List (S53) → Option (Bool)
 | 0, _, _, _, _ => none
 | k + 1, x3, x4, x157000, x157001 => if x4 < x3 then (if 0 ≤ x4 then (if x4 < (x157000.length : Int) then (if 0 ≤ x3 then (if x3 < (x157000.length : Int) then (if ((rd_T122 x157000 x4).f0).toList = ((rd_T122 x157000 x3).f0).toList then (some false) else (spec_RegisterOk.l1 k x3 (wrap64 (x4 + 1)) x157000 x157001)) else (none)) else (none)) else (none)) else (none)) else (spec_RegisterOk.l2 k x3 0 0 0 x157000 x157001)
def spec_RegisterOk.l2 : Nat → Int → Int → Int → Int → List (S122) → List (S53) → Option (Bool)
 | 0, _, _, _, _, _, _ => none
 | k + 1, x3, x5, x6, x7, x157000, x157001 => if x7 < (x157001.length : Int) then (if 0 ≤ x7 then (if ((rd_T53 x157001 x7).f0) = x3 then (if ((rd_T53 x157001 x7).f1) = (wrap64 (x5 + 1)) then (if ((rd_T53 x157001 x7).f2) < x6 then (spec_RegisterOk.j5 k x3 (wrap64 (x5 + 1)) x7 true x157000 x157001 ((rd_T53 x157001 x7).f0) ((rd_T53 x157001 x7).f1) ((rd_T53 x157001 x7).f2) ((rd_T53 x157001 x7).f3)) else ((spec_l1Text.f k (wrap64 (x5 + 1))).bind fun t165 => (if 0 ≤ x3 then (if x3 < (x157000.length : Int) then (spec_RegisterOk.j5 k x3 (wrap64 (x5 + 1)) x7 (decide ((t165.size : Int) > ((rd_T122 x157000 x3).f1))) x157000 x157001 ((rd_T53 x157001 x7).f0) ((rd_T53 x157001 x7).f1) ((rd_T53 x157001 x7).f2) ((rd_T53 x157001 x7).f3)) else (none)) else (none)))) else (spec_RegisterOk.j5 k x3 (wrap64 (x5 + 1)) x7 true x157000 x157001 ((rd_T53 x157001 x7).f0) ((rd_T53 x157001 x7).f1) ((rd_T53 x157001 x7).f2) ((rd_T53 x157001 x7).f3))) else (spec_RegisterOk.l2 k x3 x5 x6 (wrap64 (x7 + 1)) x157000 x157001)) else (none)) else (spec_RegisterOk.l0 k (wrap64 (x3 + 1)) x157000 x157001)
def spec_RegisterOk.j5 : Nat → Int → Int → Int → Bool → List (S122) → List (S53) → Int → Int → Int → Bool → Option (Bool)
 | 0, _, _, _, _, _, _, _, _, _, _ => none
 | k + 1, x3, x5, x7, x102, x157000, x157001, x165000, x165001, x165002, x165003 => if x102 = true then (some false) else (spec_RegisterOk.l2 k x3 x5 x165002 (wrap64 (x7 + 1)) x157000 x157001)
def spec_RegisterOk.l3 : Nat → Int → List (S122) → List (S53) → Option (Bool)
 | 0, _, _, _ => none
 | k + 1, x9, x157000, x157001 => if x9 < (x157001.length : Int) then (if 0 ≤ x9 then ((spec_l1In.f ((rd_T53 x157001 x9).f0) 0 (wrap64 ((x157000.length : Int) - 1))).bind fun t168 => (if t168 = true then ((spec_l2Day.f ((rd_T53 x157001 x9).f2)).bind fun t170 => (if t170 = true then (spec_RegisterOk.l3 k (wrap64 (x9 + 1)) x157000 x157001) else (some false))) else (some false))) else (none)) else (some true)
end
def spec_RegisterOk.f (k : Nat) (l0_0 : List (S122)) (l0_1 : List (S53)) : Option (Bool) := if (l0_0.length : Int) > 20 then (spec_RegisterOk.j0 k true l0_0 l0_1) else (spec_RegisterOk.j0 k (decide ((l0_1.length : Int) > 400)) l0_0 l0_1)
theorem spec_RegisterOk.mono_l : ∀ k, (∀ y0 y1 y2, LeO (spec_RegisterOk.j0 k y0 y1 y2) (spec_RegisterOk.j0 (k + 1) y0 y1 y2)) ∧ (∀ y0 y1 y2, LeO (spec_RegisterOk.l0 k y0 y1 y2) (spec_RegisterOk.l0 (k + 1) y0 y1 y2)) ∧ (∀ y0 y1 y2 y3, LeO (spec_RegisterOk.j2 k y0 y1 y2 y3) (spec_RegisterOk.j2 (k + 1) y0 y1 y2 y3)) ∧ (∀ y0 y1 y2 y3, LeO (spec_RegisterOk.l1 k y0 y1 y2 y3) (spec_RegisterOk.l1 (k + 1) y0 y1 y2 y3)) ∧ (∀ y0 y1 y2 y3 y4 y5, LeO (spec_RegisterOk.l2 k y0 y1 y2 y3 y4 y5) (spec_RegisterOk.l2 (k + 1) y0 y1 y2 y3 y4 y5)) ∧ (∀ y0 y1 y2 y3 y4 y5 y6 y7 y8 y9, LeO (spec_RegisterOk.j5 k y0 y1 y2 y3 y4 y5 y6 y7 y8 y9) (spec_RegisterOk.j5 (k + 1) y0 y1 y2 y3 y4 y5 y6 y7 y8 y9)) ∧ (∀ y0 y1 y2, LeO (spec_RegisterOk.l3 k y0 y1 y2) (spec_RegisterOk.l3 (k + 1) y0 y1 y2))
 | 0 => ⟨fun _ _ _ r h => by simp [spec_RegisterOk.j0] at h, fun _ _ _ r h => by simp [spec_RegisterOk.l0] at h, fun _ _ _ _ r h => by simp [spec_RegisterOk.j2] at h, fun _ _ _ _ r h => by simp [spec_RegisterOk.l1] at h, fun _ _ _ _ _ _ r h => by simp [spec_RegisterOk.l2] at h, fun _ _ _ _ _ _ _ _ _ _ r h => by simp [spec_RegisterOk.j5] at h, fun _ _ _ r h => by simp [spec_RegisterOk.l3] at h⟩
 | k + 1 => by
  obtain ⟨ih0, ih1, ih2, ih3, ih4, ih5, ih6⟩ := spec_RegisterOk.mono_l k
  refine ⟨?_, ?_, ?_, ?_, ?_, ?_, ?_⟩
  ·intro y0 y1 y2
   unfold spec_RegisterOk.j0
   repeat' first
   | (with_reducible exact ih0 _ _ _)
   | (with_reducible exact ih1 _ _ _)
   | (with_reducible exact ih2 _ _ _ _)
   | (with_reducible exact ih3 _ _ _ _)
   | (with_reducible exact ih4 _ _ _ _ _ _)
   | (with_reducible exact ih5 _ _ _ _ _ _ _ _ _ _)
   | (with_reducible exact ih6 _ _ _)
   | (with_reducible exact spec_NameOk.mono _ _)
   | (with_reducible exact spec_l1Text.mono _ _)
   | (with_reducible exact LeO.refl _)
   | (with_reducible exact LeO.none _)
   | (with_reducible refine LeO.ite ?_ ?_)
   | (with_reducible refine LeO.bind ?_ (fun _ => ?_))
   | exact ih0 _ _ _
   | exact ih1 _ _ _
   | exact ih2 _ _ _ _
   | exact ih3 _ _ _ _
   | exact ih4 _ _ _ _ _ _
   | exact ih5 _ _ _ _ _ _ _ _ _ _
   | exact ih6 _ _ _
   | exact spec_NameOk.mono _ _
   | exact spec_l1Text.mono _ _
   | exact LeO.none _
   | refine LeO.ite ?_ ?_
   | refine LeO.bind ?_ (fun _ => ?_)
  ·intro y0 y1 y2
   unfold spec_RegisterOk.l0
   repeat' first
   | (with_reducible exact ih0 _ _ _)
   | (with_reducible exact ih1 _ _ _)
   | (with_reducible exact ih2 _ _ _ _)
   | (with_reducible exact ih3 _ _ _ _)
   | (with_reducible exact ih4 _ _ _ _ _ _)
   | (with_reducible exact ih5 _ _ _ _ _ _ _ _ _ _)
   | (with_reducible exact ih6 _ _ _)
   | (with_reducible exact spec_NameOk.mono _ _)
   | (with_reducible exact spec_l1Text.mono _ _)
   | (with_reducible exact LeO.refl _)
   | (with_reducible exact LeO.none _)
   | (with_reducible refine LeO.ite ?_ ?_)
   | (with_reducible refine LeO.bind ?_ (fun _ => ?_))
   | exact ih0 _ _ _
   | exact ih1 _ _ _
   | exact ih2 _ _ _ _
   | exact ih3 _ _ _ _
   | exact ih4 _ _ _ _ _ _
   | exact ih5 _ _ _ _ _ _ _ _ _ _
   | exact ih6 _ _ _
   | exact spec_NameOk.mono _ _
   | exact spec_l1Text.mono _ _
   | exact LeO.none _
   | refine LeO.ite ?_ ?_
   | refine LeO.bind ?_ (fun _ => ?_)
  ·intro y0 y1 y2 y3
   unfold spec_RegisterOk.j2
   repeat' first
   | (with_reducible exact ih0 _ _ _)
   | (with_reducible exact ih1 _ _ _)
   | (with_reducible exact ih2 _ _ _ _)
   | (with_reducible exact ih3 _ _ _ _)
   | (with_reducible exact ih4 _ _ _ _ _ _)
   | (with_reducible exact ih5 _ _ _ _ _ _ _ _ _ _)
   | (with_reducible exact ih6 _ _ _)
   | (with_reducible exact spec_NameOk.mono _ _)
   | (with_reducible exact spec_l1Text.mono _ _)
   | (with_reducible exact LeO.refl _)
   | (with_reducible exact LeO.none _)
   | (with_reducible refine LeO.ite ?_ ?_)
   | (with_reducible refine LeO.bind ?_ (fun _ => ?_))
   | exact ih0 _ _ _
   | exact ih1 _ _ _
   | exact ih2 _ _ _ _
   | exact ih3 _ _ _ _
   | exact ih4 _ _ _ _ _ _
   | exact ih5 _ _ _ _ _ _ _ _ _ _
   | exact ih6 _ _ _
   | exact spec_NameOk.mono _ _
   | exact spec_l1Text.mono _ _
   | exact LeO.none _
   | refine LeO.ite ?_ ?_
   | refine LeO.bind ?_ (fun _ => ?_)
  ·intro y0 y1 y2 y3
   unfold spec_RegisterOk.l1
   repeat' first
   | (with_reducible exact ih0 _ _ _)
   | (with_reducible exact ih1 _ _ _)
   | (with_reducible exact ih2 _ _ _ _)
   | (with_reducible exact ih3 _ _ _ _)
   | (with_reducible exact ih4 _ _ _ _ _ _)
   | (with_reducible exact ih5 _ _ _ _ _ _ _ _ _ _)
   | (with_reducible exact ih6 _ _ _)
   | (with_reducible exact spec_NameOk.mono _ _)
   | (with_reducible exact spec_l1Text.mono _ _)
   | (with_reducible exact LeO.refl _)
   | (with_reducible exact LeO.none _)
   | (with_reducible refine LeO.ite ?_ ?_)
   | (with_reducible refine LeO.bind ?_ (fun _ => ?_))
   | exact ih0 _ _ _
   | exact ih1 _ _ _
   | exact ih2 _ _ _ _
   | exact ih3 _ _ _ _
   | exact ih4 _ _ _ _ _ _
   | exact ih5 _ _ _ _ _ _ _ _ _ _
   | exact ih6 _ _ _
   | exact spec_NameOk.mono _ _
   | exact spec_l1Text.mono _ _
   | exact LeO.none _
   | refine LeO.ite ?_ ?_
   | refine LeO.bind ?_ (fun _ => ?_)
  ·intro y0 y1 y2 y3 y4 y5
   unfold spec_RegisterOk.l2
   repeat' first
   | (with_reducible exact ih0 _ _ _)
   | (with_reducible exact ih1 _ _ _)
   | (with_reducible exact ih2 _ _ _ _)
   | (with_reducible exact ih3 _ _ _ _)
   | (with_reducible exact ih4 _ _ _ _ _ _)
   | (with_reducible exact ih5 _ _ _ _ _ _ _ _ _ _)
   | (with_reducible exact ih6 _ _ _)
   | (with_reducible exact spec_NameOk.mono _ _)
   | (with_reducible exact spec_l1Text.mono _ _)
   | (with_reducible exact LeO.refl _)
   | (with_reducible exact LeO.none _)
   | (with_reducible refine LeO.ite ?_ ?_)
   | (with_reducible refine LeO.bind ?_ (fun _ => ?_))
   | exact ih0 _ _ _
   | exact ih1 _ _ _
   | exact ih2 _ _ _ _
   | exact ih3 _ _ _ _
   | exact ih4 _ _ _ _ _ _
   | exact ih5 _ _ _ _ _ _ _ _ _ _
   | exact ih6 _ _ _
   | exact spec_NameOk.mono _ _
   | exact spec_l1Text.mono _ _
   | exact LeO.none _
   | refine LeO.ite ?_ ?_
   | refine LeO.bind ?_ (fun _ => ?_)
  ·intro y0 y1 y2 y3 y4 y5 y6 y7 y8 y9
   unfold spec_RegisterOk.j5
   repeat' first
   | (with_reducible exact ih0 _ _ _)
   | (with_reducible exact ih1 _ _ _)
   | (with_reducible exact ih2 _ _ _ _)
   | (with_reducible exact ih3 _ _ _ _)
   | (with_reducible exact ih4 _ _ _ _ _ _)
   | (with_reducible exact ih5 _ _ _ _ _ _ _ _ _ _)
   | (with_reducible exact ih6 _ _ _)
   | (with_reducible exact spec_NameOk.mono _ _)
   | (with_reducible exact spec_l1Text.mono _ _)
   | (with_reducible exact LeO.refl _)
   | (with_reducible exact LeO.none _)
   | (with_reducible refine LeO.ite ?_ ?_)
   | (with_reducible refine LeO.bind ?_ (fun _ => ?_))
   | exact ih0 _ _ _
   | exact ih1 _ _ _
   | exact ih2 _ _ _ _
   | exact ih3 _ _ _ _
   | exact ih4 _ _ _ _ _ _
   | exact ih5 _ _ _ _ _ _ _ _ _ _
   | exact ih6 _ _ _
   | exact spec_NameOk.mono _ _
   | exact spec_l1Text.mono _ _
   | exact LeO.none _
   | refine LeO.ite ?_ ?_
   | refine LeO.bind ?_ (fun _ => ?_)
  ·intro y0 y1 y2
   unfold spec_RegisterOk.l3
   repeat' first
   | (with_reducible exact ih0 _ _ _)
   | (with_reducible exact ih1 _ _ _)
   | (with_reducible exact ih2 _ _ _ _)
   | (with_reducible exact ih3 _ _ _ _)
   | (with_reducible exact ih4 _ _ _ _ _ _)
   | (with_reducible exact ih5 _ _ _ _ _ _ _ _ _ _)
   | (with_reducible exact ih6 _ _ _)
   | (with_reducible exact spec_NameOk.mono _ _)
   | (with_reducible exact spec_l1Text.mono _ _)
   | (with_reducible exact LeO.refl _)
   | (with_reducible exact LeO.none _)
   | (with_reducible refine LeO.ite ?_ ?_)
   | (with_reducible refine LeO.bind ?_ (fun _ => ?_))
   | exact ih0 _ _ _
   | exact ih1 _ _ _
   | exact ih2 _ _ _ _
   | exact ih3 _ _ _ _
   | exact ih4 _ _ _ _ _ _
   | exact ih5 _ _ _ _ _ _ _ _ _ _
   | exact ih6 _ _ _
   | exact spec_NameOk.mono _ _
   | exact spec_l1Text.mono _ _
   | exact LeO.none _
   | refine LeO.ite ?_ ?_
   | refine LeO.bind ?_ (fun _ => ?_)
theorem spec_RegisterOk.mono : ∀ a0 a1 k, LeO (spec_RegisterOk.f k a0 a1) (spec_RegisterOk.f (k + 1) a0 a1) := by
 intro a0 a1 k
 obtain ⟨ih0, ih1, ih2, ih3, ih4, ih5, ih6⟩ := spec_RegisterOk.mono_l k
 unfold spec_RegisterOk.f
 repeat' first
   | (with_reducible exact ih0 _ _ _)
   | (with_reducible exact ih1 _ _ _)
   | (with_reducible exact ih2 _ _ _ _)
   | (with_reducible exact ih3 _ _ _ _)
   | (with_reducible exact ih4 _ _ _ _ _ _)
   | (with_reducible exact ih5 _ _ _ _ _ _ _ _ _ _)
   | (with_reducible exact ih6 _ _ _)
   | (with_reducible exact spec_NameOk.mono _ _)
   | (with_reducible exact spec_l1Text.mono _ _)
   | (with_reducible exact LeO.refl _)
   | (with_reducible exact LeO.none _)
   | (with_reducible refine LeO.ite ?_ ?_)
   | (with_reducible refine LeO.bind ?_ (fun _ => ?_))
   | exact ih0 _ _ _
   | exact ih1 _ _ _
   | exact ih2 _ _ _ _
   | exact ih3 _ _ _ _
   | exact ih4 _ _ _ _ _ _
   | exact ih5 _ _ _ _ _ _ _ _ _ _
   | exact ih6 _ _ _
   | exact spec_NameOk.mono _ _
   | exact spec_l1Text.mono _ _
   | exact LeO.none _
   | refine LeO.ite ?_ ?_
   | refine LeO.bind ?_ (fun _ => ?_)
def spec_RegisterOk.T11 : Bool × List (List Nat × List Nat) := (true, [([], []), ([0], [0]), ([], []), ([1, 2], [1, 2]), ([3], [3]), ([4], [4]), ([], []), ([6], [6]), ([], []), ([7, 8], [7, 8]), ([9], [9]), ([10], [10]), ([5, 11], [5, 11])])
def spec_RegisterOk.B11 : List Nat := [0, 1, 0, 7, 15, 31, 0, 64, 0, 448, 960, 1984, 4095]
theorem spec_RegisterOk.tab11 : rtab .any (opsOf Try.f22 11) = spec_RegisterOk.T11 := by kernel_rfl
theorem spec_RegisterOk.bits11 : waitsOk spec_RegisterOk.T11.2 spec_RegisterOk.B11 = true := by kernel_rfl
def spec_RegisterOk.T21 : Bool × List (List Nat × List Nat) := (true, [([], []), ([0], [0]), ([], []), ([1, 2], [1, 2]), ([3], [3]), ([4], [4]), ([5, 4], [4, 5]), ([4], [4]), ([6, 7, 4], [4, 6, 7]), ([4, 8], [4, 8]), ([9, 4], [9]), ([10], [10]), ([11, 10, 10], [10, 11]), ([12, 10], [10, 12]), ([10], [10]), ([14, 10], [10, 14]), ([10], [10]), ([15, 16, 10], [10, 15, 16]), ([17, 10], [10, 17]), ([18, 10], [10, 18]), ([13, 19, 10], [10, 13, 19]), ([10, 20], [10, 20])])
def spec_RegisterOk.B21 : List Nat := [0, 1, 0, 7, 15, 31, 63, 31, 255, 511, 1023, 2047, 4095, 8191, 2047, 18431, 2047, 116735, 247807, 509951, 1048575, 2097151]
theorem spec_RegisterOk.tab21 : rtab .any (opsOf Try.f22 21) = spec_RegisterOk.T21 := by kernel_rfl
theorem spec_RegisterOk.bits21 : waitsOk spec_RegisterOk.T21.2 spec_RegisterOk.B21 = true := by kernel_rfl
def spec_RegisterOk.T27 : Bool × List (List Nat × List Nat) := (true, [([], []), ([0], [0]), ([], []), ([1, 2], [1, 2]), ([3], [3]), ([4], [4]), ([], []), ([6], [6]), ([7], [7]), ([8], [8]), ([5, 9], [5, 9]), ([10], [10]), ([11, 10], [11]), ([12], [12]), ([13, 12], [12, 13]), ([12], [12]), ([14, 15, 12], [12, 14, 15]), ([16, 12], [12, 16]), ([17, 12], [12, 17]), ([18, 12, 12], [12, 18]), ([19, 12], [12, 19]), ([12, 20], [12, 20])])
def spec_RegisterOk.B27 : List Nat := [0, 1, 0, 7, 15, 31, 0, 64, 192, 448, 1023, 2047, 4095, 8191, 16383, 8191, 65535, 131071, 262143, 524287, 1048575, 2097151]
theorem spec_RegisterOk.tab27 : rtab .any (opsOf Try.f22 27) = spec_RegisterOk.T27 := by kernel_rfl
theorem spec_RegisterOk.bits27 : waitsOk spec_RegisterOk.T27.2 spec_RegisterOk.B27 = true := by kernel_rfl
set_option maxHeartbeats 8000000 in
set_option maxRecDepth 100000 in
theorem spec_RegisterOk.calls (k : Nat) (A0_0 : Option Addr) (c0_0 : Nat) (l0_0 : List (S122)) (A0_1 : Option Addr) (c0_1 : Nat) (l0_1 : List (S53)) (r : Bool) (w : World) (hr0_0 : Kd.C k122 w A0_0 l0_0.length l0_0) (hc0_0 : l0_0.length ≤ c0_0) (hr0_1 : Kd.C k53 w A0_1 l0_1.length l0_1) (hc0_1 : l0_1.length ≤ c0_1) (h : spec_RegisterOk.f k l0_0 l0_1 = some r) :
  Calls Try.prog 22 #[.agg #[.slice A0_0 l0_0.length c0_0, .slice A0_1 l0_1.length c0_1]] w fun e w' => e = .returned (.bool r) ∧ Below w.heap.size w w' := by
 have hu42 := Try.underlying42
 have hu53 := Try.underlying53
 have HR0_0 := Aside0.mk hr0_0
 have HC0_0 := Aside0.mk hc0_0
 clear hr0_0 hc0_0
 have HR0_1 := Aside0.mk hr0_1
 have HC0_1 := Aside0.mk hc0_1
 clear hr0_1 hc0_1
 have HB := Aside0.mk (Below.refl w.heap.size w)
 have H : (if (l0_0.length : Int) > 20 then (spec_RegisterOk.j0 k true l0_0 l0_1) else (spec_RegisterOk.j0 k (decide ((l0_1.length : Int) > 400)) l0_0 l0_1)) = some r := h
 clear h
 have HC2 := Aside0.mk H
 clear H
 go_enter Try.func22, Try.ntmps22
 go_upto_region 1 with (first | ((with_reducible refine qs0 (N := 1) rfl ?_); (try (refine gate_guard (by rfl) ?_; dsimp only)); refine qr0 ?hg (N := 1) ?hd (cs := #[.slice A0_0 l0_0.length c0_0, .slice A0_1 l0_1.length c0_1]) (t := 42) ?hr ?_; (case hd => rfl); (case hg => rfl); (case hr => first | (go_simp; done) | (go_simp; rfl)); intro gb156 hg w3 hbox hb; have n0_ := Aside0.mk (ql0 (by repeat (first | (with_reducible first | exact HB.out | apply qc0 | apply qa0 | apply qb0) | exact HB.out)) hb); have n1_ := Aside0.mk (hbox); have n2_ := Aside0.mk ((by rw [hg]; exact (qk0 (by repeat (first | (with_reducible first | exact HB.out | apply qc0 | apply qa0 | apply qb0) | exact HB.out))) : w.heap.size ≤ gb156)); have n3_ := Aside0.mk ((by rw [hg]; exact (qk0 (by repeat (first | (with_reducible first | exact HB.out | apply qc0 | apply qa0 | apply qb0) | exact HB.out))) : w.heap.size ≤ gb156)); clear HB; have HB := n0_; have BK156 := n1_; have GW156 := n2_; have GE156 := n3_; clear n0_ n1_ n2_ n3_; clear hb hbox hg))
 (try simp only [Act.put, List.setIfInBounds_toArray, List.set_cons_zero, List.set_cons_succ])
 go_cut [19] (fun v19 wc => ∃ (kq : Nat) (x19_1 : Bool), v19 = .bool x19_1 ∧ Aside0 (spec_RegisterOk.j0 kq x19_1 l0_0 l0_1 = some r) ∧ Aside0 (kq ≤ k) ∧ Aside0 (wc.heap[gb156]? = some (.cells #[(.slice A0_0 l0_0.length c0_0), (.slice A0_1 l0_1.length c0_1)] 42 (0, 0))) ∧ Aside0 (Below w.heap.size w wc))
 case first =>
  have H := HC2.out
  clear HC2
  by_cases c4 : (l0_0.length : Int) > 20
  ·rw [if_pos c4] at H
   have c4b0 : decide (20 < (l0_0.length : Int)) = true := decide_eq_true c4
   have c4b1 : decide (20 < l0_0.length) = true := decide_eq_true (by omega)
   clear c4
   (first | rw [c4b0] | (simp only [i64_w, i32_w]; rw [c4b0]) | skip)
   have H' := Aside0.mk H
   clear H
   have hcz5_0 : w3.cell? ⟨gb156, 0, none⟩ = some (.slice A0_0 l0_0.length c0_0) := (qg0 BK156.out 0).trans rfl
   have hcz5_1 : w3.cell? ⟨gb156, 1, none⟩ = some (.slice A0_1 l0_1.length c0_1) := (qg0 BK156.out 1).trans rfl
   have hfz5_0 := qi0 BK156.out 0
   have hfz5_1 := qi0 BK156.out 1
   go_wp2
   go_meet
   case rel => exact ⟨_, (true), (by first | rfl | (simp; done) | (simp [*]; done)), H', ⟨by first | omega | exact Nat.le_refl _⟩, ⟨by (with_reducible repeat (first | refine qd0 ?_ _ | refine qh0 ?_ | refine qe0 ?_ _)); exact BK156.out⟩, ⟨by repeat (first | (with_reducible first | exact HB.out | apply qc0 | apply qa0 | apply qb0 | refine qf0 ?_ GE156.out) | exact HB.out)⟩⟩
  rw [if_neg c4] at H
  have c4b0 : decide (20 < (l0_0.length : Int)) = false := decide_eq_false c4
  have c4b1 : decide (20 < l0_0.length) = false := decide_eq_false (by omega)
  clear c4
  (first | rw [c4b0] | (simp only [i64_w, i32_w]; rw [c4b0]) | skip)
  have H' := Aside0.mk H
  clear H
  have hcz6_0 : w3.cell? ⟨gb156, 0, none⟩ = some (.slice A0_0 l0_0.length c0_0) := (qg0 BK156.out 0).trans rfl
  have hcz6_1 : w3.cell? ⟨gb156, 1, none⟩ = some (.slice A0_1 l0_1.length c0_1) := (qg0 BK156.out 1).trans rfl
  have hfz6_0 := qi0 BK156.out 0
  have hfz6_1 := qi0 BK156.out 1
  go_wp2
  go_meet
  case rel => exact ⟨_, (decide ((l0_1.length : Int) > 400)), (by first | rfl | (simp; done) | (simp [*]; done)), H', ⟨by first | omega | exact Nat.le_refl _⟩, ⟨by (with_reducible repeat (first | refine qd0 ?_ _ | refine qh0 ?_ | refine qe0 ?_ _)); exact BK156.out⟩, ⟨by repeat (first | (with_reducible first | exact HB.out | apply qc0 | apply qa0 | apply qb0 | refine qf0 ?_ GE156.out) | exact HB.out)⟩⟩
 case rest =>
  clear HC2
  try clear c2
  try clear p2
  try clear c4
  try clear c4b0
  try clear c4b1
  try clear hcz5_0
  try clear hcz5_1
  try clear hcz6_0
  try clear hcz6_1
  try clear hfz5_0
  try clear hfz5_1
  try clear hfz6_0
  try clear hfz6_1
  obtain ⟨kq, x19_1, rfl, HA, HJ1, BK156, HB⟩ := hcut
  cases kq with
  | zero => exact absurd HA.out (by simp [spec_RegisterOk.j0])
  | succ kj1 =>
   have H := HA.out
   clear HA
   simp only [spec_RegisterOk.j0] at H
   by_cases c7 : x19_1 = true
   ·subst c7
    have H1 : (some false) = some r := by rw [if_pos rfl] at H; exact H
    clear H
    have H := H1
    clear H1
    obtain rfl := Option.some.inj H
    go_wp2
    go_ret
    exact ⟨by first | rfl | (simp [errW_none, errW_some] <;> rfl) | (simp [*, errW_none, errW_some] <;> rfl), by repeat (first | (with_reducible first | exact HB.out | apply qc0 | apply qa0 | apply qb0 | refine qf0 ?_ GE156.out) | exact HB.out)⟩
   replace c7 := Bool.eq_false_iff.mpr c7
   subst c7
   have H1 : (spec_RegisterOk.l0 kj1 0 l0_0 l0_1) = some r := by rw [if_neg (show ¬ (false = true) by decide)] at H; exact H
   clear H
   have H := H1
   clear H1
   have H' := Aside0.mk H
   clear H
   go_wp2
   go_loopg [3] kj1 (fun kq v3 w' => ∃ (x3_2 : Int), v3 = .int .i64 x3_2 ∧ Aside0 (spec_RegisterOk.l0 kq x3_2 l0_0 l0_1 = some r) ∧ Aside0 (kq ≤ kj1) ∧ Aside0 (w'.heap[gb156]? = some (.cells #[(.slice A0_0 l0_0.length c0_0), (.slice A0_1 l0_1.length c0_1)] 42 (0, 0))) ∧ Aside0 (Below w.heap.size w w'))
   case atStart => exact ⟨(0), (by first | rfl | (simp; done) | (simp [*]; done)), H', ⟨Nat.le_refl _⟩, ⟨by (with_reducible repeat (first | refine qd0 ?_ _ | refine qh0 ?_ | refine qe0 ?_ _)); exact BK156.out⟩, ⟨by repeat (first | (with_reducible first | exact HB.out | apply qc0 | apply qa0 | apply qb0 | refine qf0 ?_ GE156.out) | exact HB.out)⟩⟩
   case round =>
    clear H'
    try clear c2
    try clear p2
    try clear c4
    try clear c4b0
    try clear c4b1
    try clear c7
    try clear hcz5_0
    try clear hcz5_1
    try clear hcz6_0
    try clear hcz6_1
    try clear hfz5_0
    try clear hfz5_1
    try clear hfz6_0
    try clear hfz6_1
    try clear p2
    obtain ⟨x3_2, rfl, HA, HK2, BK156, HB⟩ := hrel
    cases gk with
    | zero => exact absurd HA.out (by simp [spec_RegisterOk.l0])
    | succ k2 =>
     have H := HA.out
     clear HA
     simp only [spec_RegisterOk.l0] at H
     by_cases c8 : x3_2 < (l0_0.length : Int)
     ·rw [if_pos c8] at H
      have c8b0 : decide (x3_2 < (l0_0.length : Int)) = true := decide_eq_true c8
      clear c8
      have HC9 := Aside0.mk H
      clear H
      have hcz10_0 : wr.cell? ⟨gb156, 0, none⟩ = some (.slice A0_0 l0_0.length c0_0) := (qg0 BK156.out 0).trans rfl
      have hcz10_1 : wr.cell? ⟨gb156, 1, none⟩ = some (.slice A0_1 l0_1.length c0_1) := (qg0 BK156.out 1).trans rfl
      have hfz10_0 := qi0 BK156.out 0
      have hfz10_1 := qi0 BK156.out 1
      go_upto_region 6 with (fail)
      go_cut [44] (fun v44 wc => ∃ (kq : Nat) (x44_8 : Bool), v44 = .bool x44_8 ∧ Aside0 (spec_RegisterOk.j2 kq x3_2 x44_8 l0_0 l0_1 = some r) ∧ Aside0 (kq ≤ k2) ∧ Aside0 (wc.heap[gb156]? = some (.cells #[(.slice A0_0 l0_0.length c0_0), (.slice A0_1 l0_1.length c0_1)] 42 (0, 0))) ∧ Aside0 (Below w.heap.size w wc))
      case first =>
       have H := HC9.out
       clear HC9
       by_cases c11 : 0 ≤ x3_2
       case neg => rw [if_neg c11] at H; exact absurd H (by simp)
       rw [if_pos c11] at H
       have c11b0 : decide (0 ≤ x3_2) = true := decide_eq_true c11
       clear c11
       (first | rw [c11b0] | (simp only [i64_w, i32_w]; rw [c11b0]) | skip)
       replace H := Option.bind_eq_some_iff.mp H
       obtain ⟨t158, A120, H⟩ := H
       replace H : (if t158 = true then ((spec_l1In.f ((rd_T122 l0_0 x3_2).f1) 1 8).bind fun t160 => (spec_RegisterOk.j2 k2 x3_2 (!t160) l0_0 l0_1)) else (spec_RegisterOk.j2 k2 x3_2 true l0_0 l0_1)) = some r := H
       have A12 := Aside0.mk A120
       clear A120
       by_cases c13 : t158 = true
       ·subst c13
        have H1 : ((spec_l1In.f ((rd_T122 l0_0 x3_2).f1) 1 8).bind fun t160 => (spec_RegisterOk.j2 k2 x3_2 (!t160) l0_0 l0_1)) = some r := by rw [if_pos rfl] at H; exact H
        clear H
        have H := H1
        clear H1
        replace H := Option.bind_eq_some_iff.mp H
        obtain ⟨t160, A140, H⟩ := H
        replace H : (spec_RegisterOk.j2 k2 x3_2 (!t160) l0_0 l0_1) = some r := H
        have A14 := Aside0.mk A140
        clear A140
        have H' := Aside0.mk H
        clear H
        have hcz15_0 : wr.cell? ⟨gb156, 0, none⟩ = some (.slice A0_0 l0_0.length c0_0) := (qg0 BK156.out 0).trans rfl
        have hcz15_1 : wr.cell? ⟨gb156, 1, none⟩ = some (.slice A0_1 l0_1.length c0_1) := (qg0 BK156.out 1).trans rfl
        have hfz15_0 := qi0 BK156.out 0
        have hfz15_1 := qi0 BK156.out 1
        have p157 : 0 ≤ (x3_2 : Int) := of_decide_eq_true (by first | (with_reducible assumption) | assumption)
        have q157 : x3_2 < (l0_0.length : Int) := of_decide_eq_true (by first | (with_reducible assumption) | assumption)
        obtain ⟨ad157, e157, hx157_0, hx157_1⟩ := at_T122 HR0_0.out x3_2 p157 q157
        cases e157
        replace hx157_0 := (HB.out.cell (World.block_lt_of_cell? w _ hx157_0)).trans hx157_0
        replace hx157_1 := (HB.out.cell (World.block_lt_of_cell? w _ hx157_1)).trans hx157_1
        replace p157 := eq_true p157
        replace q157 := eq_true q157
        go_wp2_with (first | ((with_reducible refine qn0 (f := 81) rfl ?_); refine qe1 (some 33) rfl rfl Try.func81 (by kernel_rfl) rfl #[.string ((rd_T122 l0_0 x3_2).f0)] rfl (by (try simp only [List.map_toArray, List.map_cons, List.map_nil]); first | done | rfl | (simp only [List.length_drop, List.length_take]; rfl)) ?_; (with_reducible refine (spec_NameOk.calls k2 ((rd_T122 l0_0 x3_2).f0) true _ A12.out).mono ?_); rintro e w' ⟨rfl, ⟨nd, rfl⟩⟩; refine ⟨_, rfl, ?_⟩; have p159 : 0 ≤ (x3_2 : Int) := of_decide_eq_true (by first | (with_reducible assumption) | assumption); have q159 : x3_2 < (l0_0.length : Int) := of_decide_eq_true (by first | (with_reducible assumption) | assumption); obtain ⟨ad159, e159, hx159_0, hx159_1⟩ := at_T122 HR0_0.out x3_2 p159 q159; obtain rfl : ad157 = ad159 := (by injection e159); replace hx159_0 := (HB.out.cell (World.block_lt_of_cell? w _ hx159_0)).trans hx159_0; replace hx159_1 := (HB.out.cell (World.block_lt_of_cell? w _ hx159_1)).trans hx159_1; replace p159 := eq_true p159; replace q159 := eq_true q159) | (go_at_call 76; (with_reducible refine (spec_l1In.calls ((rd_T122 l0_0 x3_2).f1) 1 8 t160 _ A14.out).mono ?_); rintro e w' ⟨rfl, ⟨nd, rfl⟩⟩))
        go_meet
        case rel => exact ⟨_, (!t160), (by first | rfl | (simp; done) | (simp [*]; done)), H', ⟨by have := HJ1.out; have := HK2.out; first | omega | exact Nat.le_refl _⟩, ⟨by (with_reducible repeat (first | refine qd0 ?_ _ | refine qh0 ?_ | refine qe0 ?_ _)); exact BK156.out⟩, ⟨by repeat (first | (with_reducible first | exact HB.out | apply qc0 | apply qa0 | apply qb0 | refine qf0 ?_ GE156.out) | exact HB.out)⟩⟩
       replace c13 := Bool.eq_false_iff.mpr c13
       subst c13
       have H1 : (spec_RegisterOk.j2 k2 x3_2 true l0_0 l0_1) = some r := by rw [if_neg (show ¬ (false = true) by decide)] at H; exact H
       clear H
       have H := H1
       clear H1
       have H' := Aside0.mk H
       clear H
       have hcz16_0 : wr.cell? ⟨gb156, 0, none⟩ = some (.slice A0_0 l0_0.length c0_0) := (qg0 BK156.out 0).trans rfl
       have hcz16_1 : wr.cell? ⟨gb156, 1, none⟩ = some (.slice A0_1 l0_1.length c0_1) := (qg0 BK156.out 1).trans rfl
       have hfz16_0 := qi0 BK156.out 0
       have hfz16_1 := qi0 BK156.out 1
       have p157 : 0 ≤ (x3_2 : Int) := of_decide_eq_true (by first | (with_reducible assumption) | assumption)
       have q157 : x3_2 < (l0_0.length : Int) := of_decide_eq_true (by first | (with_reducible assumption) | assumption)
       obtain ⟨ad157, e157, hx157_0, hx157_1⟩ := at_T122 HR0_0.out x3_2 p157 q157
       cases e157
       replace hx157_0 := (HB.out.cell (World.block_lt_of_cell? w _ hx157_0)).trans hx157_0
       replace hx157_1 := (HB.out.cell (World.block_lt_of_cell? w _ hx157_1)).trans hx157_1
       replace p157 := eq_true p157
       replace q157 := eq_true q157
       go_wp2_with (first | ((with_reducible refine qn0 (f := 81) rfl ?_); refine qe1 (some 33) rfl rfl Try.func81 (by kernel_rfl) rfl #[.string ((rd_T122 l0_0 x3_2).f0)] rfl (by (try simp only [List.map_toArray, List.map_cons, List.map_nil]); first | done | rfl | (simp only [List.length_drop, List.length_take]; rfl)) ?_; (with_reducible refine (spec_NameOk.calls k2 ((rd_T122 l0_0 x3_2).f0) false _ A12.out).mono ?_); rintro e w' ⟨rfl, ⟨nd, rfl⟩⟩; refine ⟨_, rfl, ?_⟩))
       go_meet
       case rel => exact ⟨_, (true), (by first | rfl | (simp; done) | (simp [*]; done)), H', ⟨by have := HJ1.out; have := HK2.out; first | omega | exact Nat.le_refl _⟩, ⟨by (with_reducible repeat (first | refine qd0 ?_ _ | refine qh0 ?_ | refine qe0 ?_ _)); exact BK156.out⟩, ⟨by repeat (first | (with_reducible first | exact HB.out | apply qc0 | apply qa0 | apply qb0 | refine qf0 ?_ GE156.out) | exact HB.out)⟩⟩
      case rest =>
       clear HC9
       try clear c1
       try clear p1
       try clear q1
       try clear hx1
       try clear c2
       try clear p2
       try clear c4
       try clear c4b0
       try clear c4b1
       try clear c7
       try clear c8
       try clear c8b0
       try clear c11
       try clear c11b0
       try clear c13
       try clear p15
       try clear q15
       try clear hx15
       try clear hcz10_0
       try clear hcz10_1
       try clear hcz15_0
       try clear hcz15_1
       try clear hcz16_0
       try clear hcz16_1
       try clear hcz5_0
       try clear hcz5_1
       try clear hcz6_0
       try clear hcz6_1
       try clear hfz10_0
       try clear hfz10_1
       try clear hfz15_0
       try clear hfz15_1
       try clear hfz16_0
       try clear hfz16_1
       try clear hfz5_0
       try clear hfz5_1
       try clear hfz6_0
       try clear hfz6_1
       try clear hx157_0
       try clear hx157_1
       try clear hx159_0
       try clear hx159_1
       try clear p157
       try clear p159
       try clear p2
       try clear q157
       try clear q159
       obtain ⟨kq, x44_8, rfl, HA, HJ8, BK156, HB⟩ := hcut
       cases kq with
       | zero => exact absurd HA.out (by simp [spec_RegisterOk.j2])
       | succ kj8 =>
        have H := HA.out
        clear HA
        simp only [spec_RegisterOk.j2] at H
        by_cases c17 : x44_8 = true
        ·subst c17
         have H1 : (some false) = some r := by rw [if_pos rfl] at H; exact H
         clear H
         have H := H1
         clear H1
         obtain rfl := Option.some.inj H
         go_wp2
         go_ret
         exact ⟨by first | rfl | (simp [errW_none, errW_some] <;> rfl) | (simp [*, errW_none, errW_some] <;> rfl), by repeat (first | (with_reducible first | exact HB.out | apply qc0 | apply qa0 | apply qb0 | refine qf0 ?_ GE156.out) | exact HB.out)⟩
        replace c17 := Bool.eq_false_iff.mpr c17
        subst c17
        have H1 : (spec_RegisterOk.l1 kj8 x3_2 0 l0_0 l0_1) = some r := by rw [if_neg (show ¬ (false = true) by decide)] at H; exact H
        clear H
        have H := H1
        clear H1
        have H' := Aside0.mk H
        clear H
        go_wp2
        go_loopg [4] kj8 (fun kq v4 w' => ∃ (x4_4 : Int), v4 = .int .i64 x4_4 ∧ Aside0 (spec_RegisterOk.l1 kq x3_2 x4_4 l0_0 l0_1 = some r) ∧ Aside0 (kq ≤ kj8) ∧ Aside0 (w'.heap[gb156]? = some (.cells #[(.slice A0_0 l0_0.length c0_0), (.slice A0_1 l0_1.length c0_1)] 42 (0, 0))) ∧ Aside0 (Below w.heap.size w w'))
        case atStart => exact ⟨(0), (by first | rfl | (simp; done) | (simp [*]; done)), H', ⟨Nat.le_refl _⟩, ⟨by (with_reducible repeat (first | refine qd0 ?_ _ | refine qh0 ?_ | refine qe0 ?_ _)); exact BK156.out⟩, ⟨by repeat (first | (with_reducible first | exact HB.out | apply qc0 | apply qa0 | apply qb0 | refine qf0 ?_ GE156.out) | exact HB.out)⟩⟩
        case round =>
         clear H'
         try clear c1
         try clear p1
         try clear q1
         try clear hx1
         try clear c2
         try clear p2
         try clear c4
         try clear c4b0
         try clear c4b1
         try clear c7
         try clear c8
         try clear c8b0
         try clear c11
         try clear c11b0
         try clear c13
         try clear p15
         try clear q15
         try clear hx15
         try clear c17
         try clear hcz10_0
         try clear hcz10_1
         try clear hcz15_0
         try clear hcz15_1
         try clear hcz16_0
         try clear hcz16_1
         try clear hcz5_0
         try clear hcz5_1
         try clear hcz6_0
         try clear hcz6_1
         try clear hfz10_0
         try clear hfz10_1
         try clear hfz15_0
         try clear hfz15_1
         try clear hfz16_0
         try clear hfz16_1
         try clear hfz5_0
         try clear hfz5_1
         try clear hfz6_0
         try clear hfz6_1
         try clear hx157_0
         try clear hx157_1
         try clear hx159_0
         try clear hx159_1
         try clear p1
         try clear p15
         try clear p157
         try clear p159
         try clear p2
         try clear q1
         try clear q15
         try clear q157
         try clear q159
         obtain ⟨x4_4, rfl, HA, HK4, BK156, HB⟩ := hrel
         cases gk with
         | zero => exact absurd HA.out (by simp [spec_RegisterOk.l1])
         | succ k4 =>
          have H := HA.out
          clear HA
          simp only [spec_RegisterOk.l1] at H
          by_cases c18 : x4_4 < x3_2
          ·rw [if_pos c18] at H
           have c18b0 : decide (x4_4 < x3_2) = true := decide_eq_true c18
           clear c18
           by_cases c19 : 0 ≤ x4_4
           case neg => rw [if_neg c19] at H; exact absurd H (by simp)
           rw [if_pos c19] at H
           have c19b0 : decide (0 ≤ x4_4) = true := decide_eq_true c19
           clear c19
           by_cases c20 : x4_4 < (l0_0.length : Int)
           case neg => rw [if_neg c20] at H; exact absurd H (by simp)
           rw [if_pos c20] at H
           have c20b0 : decide (x4_4 < (l0_0.length : Int)) = true := decide_eq_true c20
           clear c20
           by_cases c21 : 0 ≤ x3_2
           case neg => rw [if_neg c21] at H; exact absurd H (by simp)
           rw [if_pos c21] at H
           have c21b0 : decide (0 ≤ x3_2) = true := decide_eq_true c21
           clear c21
           by_cases c22 : x3_2 < (l0_0.length : Int)
           case neg => rw [if_neg c22] at H; exact absurd H (by simp)
           rw [if_pos c22] at H
           have c22b0 : decide (x3_2 < (l0_0.length : Int)) = true := decide_eq_true c22
           clear c22
           by_cases c23 : ((rd_T122 l0_0 x4_4).f0).toList = ((rd_T122 l0_0 x3_2).f0).toList
           ·rw [if_pos c23] at H
            have c23b0 : (((rd_T122 l0_0 x4_4).f0).toList == ((rd_T122 l0_0 x3_2).f0).toList) = true := beq_iff_eq.mpr c23
            have c23b1 : (((rd_T122 l0_0 x4_4).f0).toList != ((rd_T122 l0_0 x3_2).f0).toList) = false := bne_eq_false_iff_eq.mpr c23
            clear c23
            obtain rfl := Option.some.inj H
            try go_wp2
            have n0_ := Aside0.mk (qh0 BK156.out)
            have n1_ := Aside0.mk (qb0 HB.out)
            clear BK156
            clear HB
            have BK156 := n0_
            have HB := n1_
            clear n0_ n1_
            have p161 : 0 ≤ (x4_4 : Int) := of_decide_eq_true (by first | (with_reducible assumption) | assumption)
            have q161 : x4_4 < (l0_0.length : Int) := of_decide_eq_true (by first | (with_reducible assumption) | assumption)
            obtain ⟨ad161, e161, hx161_0, hx161_1⟩ := at_T122 HR0_0.out x4_4 p161 q161
            have hw161_1 := hx161_1
            have hw161_0 := hx161_0
            cases e161
            replace hx161_0 := (HB.out.cell (World.block_lt_of_cell? w _ hx161_0)).trans hx161_0
            replace hx161_1 := (HB.out.cell (World.block_lt_of_cell? w _ hx161_1)).trans hx161_1
            replace p161 := eq_true p161
            replace q161 := eq_true q161
            have p162 : 0 ≤ (x3_2 : Int) := of_decide_eq_true (by first | (with_reducible assumption) | assumption)
            have q162 : x3_2 < (l0_0.length : Int) := of_decide_eq_true (by first | (with_reducible assumption) | assumption)
            obtain ⟨ad162, e162, hx162_0, hx162_1⟩ := at_T122 HR0_0.out x3_2 p162 q162
            have hw162_1 := hx162_1
            have hw162_0 := hx162_0
            obtain rfl : ad161 = ad162 := (by injection e162)
            replace hx162_0 := (HB.out.cell (World.block_lt_of_cell? w _ hx162_0)).trans hx162_0
            replace hx162_1 := (HB.out.cell (World.block_lt_of_cell? w _ hx162_1)).trans hx162_1
            replace p162 := eq_true p162
            replace q162 := eq_true q162
            refine qo1 (n := 13) (S := fun w' => w'.cell? ⟨gb156, 0, none⟩ = some (.slice (some ad161) l0_0.length c0_0) ∧ w'.cell? ⟨gb156, 1, none⟩ = some (.slice A0_1 l0_1.length c0_1) ∧ w'.cell? (ad161.add ((x4_4).toNat * 2)) = some (.string ((rd_T122 l0_0 x4_4).f0)) ∧ w'.cell? ⟨(ad161.add ((x4_4).toNat * 2)).block, (ad161.add ((x4_4).toNat * 2)).off + 1, none⟩ = some (.int .i64 ((rd_T122 l0_0 x4_4).f1)) ∧ w'.cell? (ad161.add ((x3_2).toNat * 2)) = some (.string ((rd_T122 l0_0 x3_2).f0)) ∧ w'.cell? ⟨(ad161.add ((x3_2).toNat * 2)).block, (ad161.add ((x3_2).toNat * 2)).off + 1, none⟩ = some (.int .i64 ((rd_T122 l0_0 x3_2).f1))) (ds := []) (rb5 [0, 13]) (by kernel_rfl) rfl rfl ⟨(qg0 BK156.out 0).trans rfl, (qg0 BK156.out 1).trans rfl, ((HB.out.cell (World.block_lt_of_cell? w _ hw161_0)).trans hw161_0), ((HB.out.cell (World.block_lt_of_cell? w _ hw161_1)).trans hw161_1), ((HB.out.cell (World.block_lt_of_cell? w _ hw162_0)).trans hw162_0), ((HB.out.cell (World.block_lt_of_cell? w _ hw162_1)).trans hw162_1)⟩ (fun hHeld => ?_); refine qf1 spec_RegisterOk.tab11 spec_RegisterOk.bits11 (fun HT_ HW_ => ?_)
            generalize wr.drew = w24 at BK156 HB hx161_0 hx161_1 hx162_0 hx162_1 hHeld ⊢
            refine pure_ (i := 0) (N := some 50) (v := ?_) (a' := ?_) (rb5 [1, 12]) rfl rfl (qj0 HT_.out (by kernel_rfl)) (fun _ _ _ h => h) (Or.inl ⟨by rfl, ?_⟩) ?_ ?_
            rotate_left
            ·intro w'
             go_simp
             with_reducible rfl
            rotate_left
            ·simp only [Act.put, List.setIfInBounds_toArray, List.set_cons_zero, List.set_cons_succ, i64_w, i32_w]
             rfl
            refine pure_ (i := 2) (N := some 52) (v := ?_) (a' := ?_) (rb5 [1, 1, 1, 10]) rfl rfl (qj0 HT_.out (by kernel_rfl)) (fun _ _ _ h => h) (Or.inl ⟨by rfl, ?_⟩) ?_ ?_
            rotate_left
            ·intro w'
             go_simp
             with_reducible rfl
            rotate_left
            ·simp only [Act.put, List.setIfInBounds_toArray, List.set_cons_zero, List.set_cons_succ, i64_w, i32_w]
             rfl
            refine pure_ (i := 6) (N := some 56) (v := ?_) (a' := ?_) (rb5 [1, 1, 1, 3, 1, 6]) rfl rfl (qj0 HT_.out (by kernel_rfl)) (fun _ _ _ h => h) (Or.inl ⟨by rfl, ?_⟩) ?_ ?_
            rotate_left
            ·intro w'
             go_simp
             with_reducible rfl
            rotate_left
            ·simp only [Act.put, List.setIfInBounds_toArray, List.set_cons_zero, List.set_cons_succ, i64_w, i32_w]
             rfl
            refine pure_ (i := 8) (N := some 58) (v := ?_) (a' := ?_) (rb5 [1, 1, 1, 3, 1, 1, 1, 4]) rfl rfl (qj0 HT_.out (by kernel_rfl)) (fun _ _ _ h => h) (Or.inl ⟨by rfl, ?_⟩) ?_ ?_
            rotate_left
            ·intro w'
             go_simp
             with_reducible rfl
            rotate_left
            ·simp only [Act.put, List.setIfInBounds_toArray, List.set_cons_zero, List.set_cons_succ, i64_w, i32_w]
             rfl
            refine take_ (i := 1) (N := some 51) (v := ?_) (a' := ?_) (rb5 [3, 3, 1, 1, 1, 4]) rfl rfl (qo0 HT_.out HW_.out (by kernel_rfl)) (fun _ _ _ h => h) (Or.inl ⟨by rfl, ?_⟩) hHeld ?_ ?_
            rotate_left
            ·rintro w' ⟨s0, s1, s2, s3, s4, s5⟩
             go_simp
             with_reducible rfl
            rotate_left
            ·simp only [Act.put, List.setIfInBounds_toArray, List.set_cons_zero, List.set_cons_succ, i64_w, i32_w]
             rfl
            refine pure_ (i := 3) (N := some 53) (v := ?_) (a' := ?_) (rb5 [4, 2, 1, 1, 1, 4]) rfl rfl (qj0 HT_.out (by kernel_rfl)) (fun _ _ _ h => h) (Or.inl ⟨by rfl, ?_⟩) ?_ ?_
            rotate_left
            ·intro w'
             go_simp
             with_reducible rfl
            rotate_left
            ·simp only [Act.put, List.setIfInBounds_toArray, List.set_cons_zero, List.set_cons_succ, i64_w, i32_w]
             rfl
            refine pure_ (i := 4) (N := some 54) (v := ?_) (a' := ?_) (rb5 [5, 1, 1, 1, 1, 4]) rfl rfl (qj0 HT_.out (by kernel_rfl)) (fun _ _ _ h => h) (Or.inl ⟨by rfl, ?_⟩) ?_ ?_
            rotate_left
            ·intro w'
             go_simp
             with_reducible rfl
            rotate_left
            ·simp only [Act.put, List.setIfInBounds_toArray, List.set_cons_zero, List.set_cons_succ, i64_w, i32_w]
             rfl
            refine take_ (i := 5) (N := some 55) (v := ?_) (a' := ?_) (rb5 [7, 1, 1, 4]) rfl rfl (qo0 HT_.out HW_.out (by kernel_rfl)) (fun _ _ _ h => h) (Or.inl ⟨by rfl, ?_⟩) hHeld ?_ ?_
            rotate_left
            ·rintro w' ⟨s0, s1, s2, s3, s4, s5⟩
             go_simp
             with_reducible rfl
            rotate_left
            ·simp only [Act.put, List.setIfInBounds_toArray, List.set_cons_zero, List.set_cons_succ, i64_w, i32_w]
             rfl
            refine take_ (i := 7) (N := some 57) (v := ?_) (a' := ?_) (rb5 [9, 4]) rfl rfl (qo0 HT_.out HW_.out (by kernel_rfl)) (fun _ _ _ h => h) (Or.inl ⟨by rfl, ?_⟩) hHeld ?_ ?_
            rotate_left
            ·rintro w' ⟨s0, s1, s2, s3, s4, s5⟩
             go_simp
             with_reducible rfl
            rotate_left
            ·simp only [Act.put, List.setIfInBounds_toArray, List.set_cons_zero, List.set_cons_succ, i64_w, i32_w]
             rfl
            refine pure_ (i := 9) (N := some 59) (v := ?_) (a' := ?_) (rb5 [10, 3]) rfl rfl (qj0 HT_.out (by kernel_rfl)) (fun _ _ _ h => h) (Or.inl ⟨by rfl, ?_⟩) ?_ ?_
            rotate_left
            ·intro w'
             go_simp
             with_reducible rfl
            rotate_left
            ·simp only [Act.put, List.setIfInBounds_toArray, List.set_cons_zero, List.set_cons_succ, i64_w, i32_w]
             rfl
            refine pure_ (i := 10) (N := some 60) (v := ?_) (a' := ?_) (rb5 [11, 2]) rfl rfl (qj0 HT_.out (by kernel_rfl)) (fun _ _ _ h => h) (Or.inl ⟨by rfl, ?_⟩) ?_ ?_
            rotate_left
            ·intro w'
             go_simp
             with_reducible rfl
            rotate_left
            ·simp only [Act.put, List.setIfInBounds_toArray, List.set_cons_zero, List.set_cons_succ, i64_w, i32_w]
             rfl
            refine take_ (i := 11) (N := some 61) (v := ?_) (a' := ?_) (rb5 [12, 1]) rfl rfl (qo0 HT_.out HW_.out (by kernel_rfl)) (fun _ _ _ h => h) (Or.inl ⟨by rfl, ?_⟩) hHeld ?_ ?_
            rotate_left
            ·rintro w' ⟨s0, s1, s2, s3, s4, s5⟩
             go_simp
             with_reducible rfl
            rotate_left
            ·simp only [Act.put, List.setIfInBounds_toArray, List.set_cons_zero, List.set_cons_succ, i64_w, i32_w]
             rfl
            refine pure_ (i := 12) (N := some 62) (v := ?_) (a' := ?_) (rb5 [13]) rfl rfl (qj0 HT_.out (by kernel_rfl)) (fun _ _ _ h => h) (Or.inl ⟨by rfl, ?_⟩) ?_ ?_
            rotate_left
            ·intro w'
             go_simp
             with_reducible rfl
            rotate_left
            ·simp only [Act.put, List.setIfInBounds_toArray, List.set_cons_zero, List.set_cons_succ, i64_w, i32_w]
             rfl
            refine done_ (ql1 HT_.out (by kernel_rfl)) ?_
            try go_wp2
            go_ret
            exact ⟨by first | rfl | (simp [errW_none, errW_some] <;> rfl) | (simp [*, errW_none, errW_some] <;> rfl), by repeat (first | (with_reducible first | exact HB.out | apply qc0 | apply qa0 | apply qb0 | refine qf0 ?_ GE156.out) | exact HB.out)⟩
           rw [if_neg c23] at H
           have c23b0 : (((rd_T122 l0_0 x4_4).f0).toList == ((rd_T122 l0_0 x3_2).f0).toList) = false := beq_eq_false_iff_ne.mpr c23
           have c23b1 : (((rd_T122 l0_0 x4_4).f0).toList != ((rd_T122 l0_0 x3_2).f0).toList) = true := bne_iff_ne.mpr c23
           have H' := Aside0.mk H
           clear H
           try go_wp2
           have n0_ := Aside0.mk (qh0 BK156.out)
           have n1_ := Aside0.mk (qb0 HB.out)
           clear BK156
           clear HB
           have BK156 := n0_
           have HB := n1_
           clear n0_ n1_
           have p161 : 0 ≤ (x4_4 : Int) := of_decide_eq_true (by first | (with_reducible assumption) | assumption)
           have q161 : x4_4 < (l0_0.length : Int) := of_decide_eq_true (by first | (with_reducible assumption) | assumption)
           obtain ⟨ad161, e161, hx161_0, hx161_1⟩ := at_T122 HR0_0.out x4_4 p161 q161
           have hw161_1 := hx161_1
           have hw161_0 := hx161_0
           cases e161
           replace hx161_0 := (HB.out.cell (World.block_lt_of_cell? w _ hx161_0)).trans hx161_0
           replace hx161_1 := (HB.out.cell (World.block_lt_of_cell? w _ hx161_1)).trans hx161_1
           replace p161 := eq_true p161
           replace q161 := eq_true q161
           have p162 : 0 ≤ (x3_2 : Int) := of_decide_eq_true (by first | (with_reducible assumption) | assumption)
           have q162 : x3_2 < (l0_0.length : Int) := of_decide_eq_true (by first | (with_reducible assumption) | assumption)
           obtain ⟨ad162, e162, hx162_0, hx162_1⟩ := at_T122 HR0_0.out x3_2 p162 q162
           have hw162_1 := hx162_1
           have hw162_0 := hx162_0
           obtain rfl : ad161 = ad162 := (by injection e162)
           replace hx162_0 := (HB.out.cell (World.block_lt_of_cell? w _ hx162_0)).trans hx162_0
           replace hx162_1 := (HB.out.cell (World.block_lt_of_cell? w _ hx162_1)).trans hx162_1
           replace p162 := eq_true p162
           replace q162 := eq_true q162
           refine qo1 (n := 13) (S := fun w' => w'.cell? ⟨gb156, 0, none⟩ = some (.slice (some ad161) l0_0.length c0_0) ∧ w'.cell? ⟨gb156, 1, none⟩ = some (.slice A0_1 l0_1.length c0_1) ∧ w'.cell? (ad161.add ((x4_4).toNat * 2)) = some (.string ((rd_T122 l0_0 x4_4).f0)) ∧ w'.cell? ⟨(ad161.add ((x4_4).toNat * 2)).block, (ad161.add ((x4_4).toNat * 2)).off + 1, none⟩ = some (.int .i64 ((rd_T122 l0_0 x4_4).f1)) ∧ w'.cell? (ad161.add ((x3_2).toNat * 2)) = some (.string ((rd_T122 l0_0 x3_2).f0)) ∧ w'.cell? ⟨(ad161.add ((x3_2).toNat * 2)).block, (ad161.add ((x3_2).toNat * 2)).off + 1, none⟩ = some (.int .i64 ((rd_T122 l0_0 x3_2).f1))) (ds := []) (rb5 [0, 13]) (by kernel_rfl) rfl rfl ⟨(qg0 BK156.out 0).trans rfl, (qg0 BK156.out 1).trans rfl, ((HB.out.cell (World.block_lt_of_cell? w _ hw161_0)).trans hw161_0), ((HB.out.cell (World.block_lt_of_cell? w _ hw161_1)).trans hw161_1), ((HB.out.cell (World.block_lt_of_cell? w _ hw162_0)).trans hw162_0), ((HB.out.cell (World.block_lt_of_cell? w _ hw162_1)).trans hw162_1)⟩ (fun hHeld => ?_); refine qf1 spec_RegisterOk.tab11 spec_RegisterOk.bits11 (fun HT_ HW_ => ?_)
           generalize wr.drew = w25 at BK156 HB hx161_0 hx161_1 hx162_0 hx162_1 hHeld ⊢
           refine pure_ (i := 0) (N := some 50) (v := ?_) (a' := ?_) (rb5 [1, 12]) rfl rfl (qj0 HT_.out (by kernel_rfl)) (fun _ _ _ h => h) (Or.inl ⟨by rfl, ?_⟩) ?_ ?_
           rotate_left
           ·intro w'
            go_simp
            with_reducible rfl
           rotate_left
           ·simp only [Act.put, List.setIfInBounds_toArray, List.set_cons_zero, List.set_cons_succ, i64_w, i32_w]
            rfl
           refine pure_ (i := 2) (N := some 52) (v := ?_) (a' := ?_) (rb5 [1, 1, 1, 10]) rfl rfl (qj0 HT_.out (by kernel_rfl)) (fun _ _ _ h => h) (Or.inl ⟨by rfl, ?_⟩) ?_ ?_
           rotate_left
           ·intro w'
            go_simp
            with_reducible rfl
           rotate_left
           ·simp only [Act.put, List.setIfInBounds_toArray, List.set_cons_zero, List.set_cons_succ, i64_w, i32_w]
            rfl
           refine pure_ (i := 6) (N := some 56) (v := ?_) (a' := ?_) (rb5 [1, 1, 1, 3, 1, 6]) rfl rfl (qj0 HT_.out (by kernel_rfl)) (fun _ _ _ h => h) (Or.inl ⟨by rfl, ?_⟩) ?_ ?_
           rotate_left
           ·intro w'
            go_simp
            with_reducible rfl
           rotate_left
           ·simp only [Act.put, List.setIfInBounds_toArray, List.set_cons_zero, List.set_cons_succ, i64_w, i32_w]
            rfl
           refine pure_ (i := 8) (N := some 58) (v := ?_) (a' := ?_) (rb5 [1, 1, 1, 3, 1, 1, 1, 4]) rfl rfl (qj0 HT_.out (by kernel_rfl)) (fun _ _ _ h => h) (Or.inl ⟨by rfl, ?_⟩) ?_ ?_
           rotate_left
           ·intro w'
            go_simp
            with_reducible rfl
           rotate_left
           ·simp only [Act.put, List.setIfInBounds_toArray, List.set_cons_zero, List.set_cons_succ, i64_w, i32_w]
            rfl
           refine take_ (i := 1) (N := some 51) (v := ?_) (a' := ?_) (rb5 [3, 3, 1, 1, 1, 4]) rfl rfl (qo0 HT_.out HW_.out (by kernel_rfl)) (fun _ _ _ h => h) (Or.inl ⟨by rfl, ?_⟩) hHeld ?_ ?_
           rotate_left
           ·rintro w' ⟨s0, s1, s2, s3, s4, s5⟩
            go_simp
            with_reducible rfl
           rotate_left
           ·simp only [Act.put, List.setIfInBounds_toArray, List.set_cons_zero, List.set_cons_succ, i64_w, i32_w]
            rfl
           refine pure_ (i := 3) (N := some 53) (v := ?_) (a' := ?_) (rb5 [4, 2, 1, 1, 1, 4]) rfl rfl (qj0 HT_.out (by kernel_rfl)) (fun _ _ _ h => h) (Or.inl ⟨by rfl, ?_⟩) ?_ ?_
           rotate_left
           ·intro w'
            go_simp
            with_reducible rfl
           rotate_left
           ·simp only [Act.put, List.setIfInBounds_toArray, List.set_cons_zero, List.set_cons_succ, i64_w, i32_w]
            rfl
           refine pure_ (i := 4) (N := some 54) (v := ?_) (a' := ?_) (rb5 [5, 1, 1, 1, 1, 4]) rfl rfl (qj0 HT_.out (by kernel_rfl)) (fun _ _ _ h => h) (Or.inl ⟨by rfl, ?_⟩) ?_ ?_
           rotate_left
           ·intro w'
            go_simp
            with_reducible rfl
           rotate_left
           ·simp only [Act.put, List.setIfInBounds_toArray, List.set_cons_zero, List.set_cons_succ, i64_w, i32_w]
            rfl
           refine take_ (i := 5) (N := some 55) (v := ?_) (a' := ?_) (rb5 [7, 1, 1, 4]) rfl rfl (qo0 HT_.out HW_.out (by kernel_rfl)) (fun _ _ _ h => h) (Or.inl ⟨by rfl, ?_⟩) hHeld ?_ ?_
           rotate_left
           ·rintro w' ⟨s0, s1, s2, s3, s4, s5⟩
            go_simp
            with_reducible rfl
           rotate_left
           ·simp only [Act.put, List.setIfInBounds_toArray, List.set_cons_zero, List.set_cons_succ, i64_w, i32_w]
            rfl
           refine take_ (i := 7) (N := some 57) (v := ?_) (a' := ?_) (rb5 [9, 4]) rfl rfl (qo0 HT_.out HW_.out (by kernel_rfl)) (fun _ _ _ h => h) (Or.inl ⟨by rfl, ?_⟩) hHeld ?_ ?_
           rotate_left
           ·rintro w' ⟨s0, s1, s2, s3, s4, s5⟩
            go_simp
            with_reducible rfl
           rotate_left
           ·simp only [Act.put, List.setIfInBounds_toArray, List.set_cons_zero, List.set_cons_succ, i64_w, i32_w]
            rfl
           refine pure_ (i := 9) (N := some 59) (v := ?_) (a' := ?_) (rb5 [10, 3]) rfl rfl (qj0 HT_.out (by kernel_rfl)) (fun _ _ _ h => h) (Or.inl ⟨by rfl, ?_⟩) ?_ ?_
           rotate_left
           ·intro w'
            go_simp
            with_reducible rfl
           rotate_left
           ·simp only [Act.put, List.setIfInBounds_toArray, List.set_cons_zero, List.set_cons_succ, i64_w, i32_w]
            rfl
           refine pure_ (i := 10) (N := some 60) (v := ?_) (a' := ?_) (rb5 [11, 2]) rfl rfl (qj0 HT_.out (by kernel_rfl)) (fun _ _ _ h => h) (Or.inl ⟨by rfl, ?_⟩) ?_ ?_
           rotate_left
           ·intro w'
            go_simp
            with_reducible rfl
           rotate_left
           ·simp only [Act.put, List.setIfInBounds_toArray, List.set_cons_zero, List.set_cons_succ, i64_w, i32_w]
            rfl
           refine take_ (i := 11) (N := some 61) (v := ?_) (a' := ?_) (rb5 [12, 1]) rfl rfl (qo0 HT_.out HW_.out (by kernel_rfl)) (fun _ _ _ h => h) (Or.inl ⟨by rfl, ?_⟩) hHeld ?_ ?_
           rotate_left
           ·rintro w' ⟨s0, s1, s2, s3, s4, s5⟩
            go_simp
            with_reducible rfl
           rotate_left
           ·simp only [Act.put, List.setIfInBounds_toArray, List.set_cons_zero, List.set_cons_succ, i64_w, i32_w]
            rfl
           refine pure_ (i := 12) (N := some 62) (v := ?_) (a' := ?_) (rb5 [13]) rfl rfl (qj0 HT_.out (by kernel_rfl)) (fun _ _ _ h => h) (Or.inl ⟨by rfl, ?_⟩) ?_ ?_
           rotate_left
           ·intro w'
            go_simp
            with_reducible rfl
           rotate_left
           ·simp only [Act.put, List.setIfInBounds_toArray, List.set_cons_zero, List.set_cons_succ, i64_w, i32_w]
            rfl
           refine done_ (ql1 HT_.out (by kernel_rfl)) ?_
           try go_wp2
           go_roundg k4
           case measure => have := HJ1.out; have := HK2.out; have := HJ8.out; have := HK4.out; omega
           case rel => exact ⟨(wrap64 (x4_4 + 1)), (by first | rfl | (simp; done) | (simp [*]; done)), H', ⟨by have := HJ1.out; have := HK2.out; have := HJ8.out; have := HK4.out; omega⟩, ⟨by (with_reducible repeat (first | refine qd0 ?_ _ | refine qh0 ?_ | refine qe0 ?_ _)); exact BK156.out⟩, ⟨by repeat (first | (with_reducible first | exact HB.out | apply qc0 | apply qa0 | apply qb0 | refine qf0 ?_ GE156.out) | exact HB.out)⟩⟩
          rw [if_neg c18] at H
          have c18b0 : decide (x4_4 < x3_2) = false := decide_eq_false c18
          clear c18
          have H' := Aside0.mk H
          clear H
          go_wp2
          go_loopg [5, 6, 7] k4 (fun kq v5 v6 v7 w' => ∃ (x5_5 : Int) (x6_5 : Int) (x7_5 : Int), v5 = .int .i64 x5_5 ∧ v6 = .int .i64 x6_5 ∧ v7 = .int .i64 x7_5 ∧ Aside0 (spec_RegisterOk.l2 kq x3_2 x5_5 x6_5 x7_5 l0_0 l0_1 = some r) ∧ Aside0 (kq ≤ k4) ∧ Aside0 (w'.heap[gb156]? = some (.cells #[(.slice A0_0 l0_0.length c0_0), (.slice A0_1 l0_1.length c0_1)] 42 (0, 0))) ∧ Aside0 (Below w.heap.size w w'))
          case atStart => exact ⟨(0), (0), (0), (by first | rfl | (simp; done) | (simp [*]; done)), (by first | rfl | (simp; done) | (simp [*]; done)), (by first | rfl | (simp; done) | (simp [*]; done)), H', ⟨Nat.le_refl _⟩, ⟨by (with_reducible repeat (first | refine qd0 ?_ _ | refine qh0 ?_ | refine qe0 ?_ _)); exact BK156.out⟩, ⟨by repeat (first | (with_reducible first | exact HB.out | apply qc0 | apply qa0 | apply qb0 | refine qf0 ?_ GE156.out) | exact HB.out)⟩⟩
          case round =>
           clear H'
           try clear c1
           try clear p1
           try clear q1
           try clear hx1
           try clear c2
           try clear p2
           try clear c4
           try clear c4b0
           try clear c4b1
           try clear p6
           try clear c7
           try clear c8
           try clear c8b0
           try clear c11
           try clear c11b0
           try clear c13
           try clear p15
           try clear q15
           try clear hx15
           try clear p16
           try clear q16
           try clear hx16
           try clear c17
           try clear c18
           try clear c18b0
           try clear c19
           try clear c19b0
           try clear c20
           try clear c20b0
           try clear c21
           try clear c21b0
           try clear c22
           try clear c22b0
           try clear c23
           try clear c23b0
           try clear c23b1
           try clear hcz10_0
           try clear hcz10_1
           try clear hcz15_0
           try clear hcz15_1
           try clear hcz16_0
           try clear hcz16_1
           try clear hcz5_0
           try clear hcz5_1
           try clear hcz6_0
           try clear hcz6_1
           try clear hfz10_0
           try clear hfz10_1
           try clear hfz15_0
           try clear hfz15_1
           try clear hfz16_0
           try clear hfz16_1
           try clear hfz5_0
           try clear hfz5_1
           try clear hfz6_0
           try clear hfz6_1
           try clear hx157_0
           try clear hx157_1
           try clear hx159_0
           try clear hx159_1
           try clear hx161_0
           try clear hx161_1
           try clear hx162_0
           try clear hx162_1
           try clear p1
           try clear p15
           try clear p157
           try clear p159
           try clear p161
           try clear p162
           try clear p2
           try clear q1
           try clear q15
           try clear q157
           try clear q159
           try clear q161
           try clear q162
           obtain ⟨x5_5, x6_5, x7_5, rfl, rfl, rfl, HA, HK5, BK156, HB⟩ := hrel
           cases gk with
           | zero => exact absurd HA.out (by simp [spec_RegisterOk.l2])
           | succ k5 =>
            have H := HA.out
            clear HA
            simp only [spec_RegisterOk.l2] at H
            by_cases c26 : x7_5 < (l0_1.length : Int)
            ·rw [if_pos c26] at H
             have c26b0 : decide (x7_5 < (l0_1.length : Int)) = true := decide_eq_true c26
             clear c26
             by_cases c27 : 0 ≤ x7_5
             case neg => rw [if_neg c27] at H; exact absurd H (by simp)
             rw [if_pos c27] at H
             have c27b0 : decide (0 ≤ x7_5) = true := decide_eq_true c27
             clear c27
             by_cases c28 : ((rd_T53 l0_1 x7_5).f0) = x3_2
             ·rw [if_pos c28] at H
              have c28b0 : (((rd_T53 l0_1 x7_5).f0) == x3_2) = true := beq_iff_eq.mpr c28
              have c28b1 : (((rd_T53 l0_1 x7_5).f0) != x3_2) = false := bne_eq_false_iff_eq.mpr c28
              clear c28
              have HC29 := Aside0.mk H
              clear H
              have hcz30_0 : wr.cell? ⟨gb156, 0, none⟩ = some (.slice A0_0 l0_0.length c0_0) := (qg0 BK156.out 0).trans rfl
              have hcz30_1 : wr.cell? ⟨gb156, 1, none⟩ = some (.slice A0_1 l0_1.length c0_1) := (qg0 BK156.out 1).trans rfl
              have hfz30_0 := qi0 BK156.out 0
              have hfz30_1 := qi0 BK156.out 1
              have p163 : 0 ≤ (x7_5 : Int) := of_decide_eq_true (by first | (with_reducible assumption) | assumption)
              have q163 : x7_5 < (l0_1.length : Int) := of_decide_eq_true (by first | (with_reducible assumption) | assumption)
              obtain ⟨ad163, e163, hx163_0, hx163_1, hx163_2, hx163_3⟩ := at_T53 HR0_1.out x7_5 p163 q163
              cases e163
              replace hx163_0 := (HB.out.cell (World.block_lt_of_cell? w _ hx163_0)).trans hx163_0
              replace hx163_1 := (HB.out.cell (World.block_lt_of_cell? w _ hx163_1)).trans hx163_1
              replace hx163_2 := (HB.out.cell (World.block_lt_of_cell? w _ hx163_2)).trans hx163_2
              replace hx163_3 := (HB.out.cell (World.block_lt_of_cell? w _ hx163_3)).trans hx163_3
              replace p163 := eq_true p163
              replace q163 := eq_true q163
              go_upto_region 21 with (first | ((with_reducible refine qs0 (N := 8) rfl ?_); (try (refine gate_guard (by rfl) ?_; dsimp only)); refine qr0 ?hg (N := 8) ?hd (cs := #[.int .i64 0, .int .i64 0, .int .i64 0, .bool false]) (t := 53) ?hr ?_; (case hd => rfl); (case hg => rfl); (case hr => first | (go_simp; done) | (go_simp; rfl)); intro gb164 hg w31 hbox hb; have n0_ := Aside0.mk (qm0 (g := gb156) (o := .cells #[.slice A0_0 l0_0.length c0_0, .slice (some ad163) l0_1.length c0_1] 42 (0, 0)) (by (with_reducible repeat (first | refine qd0 ?_ _ | refine qh0 ?_ | refine qe0 ?_ _)); exact BK156.out) hb); have n1_ := Aside0.mk (ql0 (by repeat (first | (with_reducible first | exact HB.out | apply qc0 | apply qa0 | apply qb0 | refine qf0 ?_ GE156.out) | exact HB.out)) hb); have n2_ := Aside0.mk (hbox); have n3_ := Aside0.mk ((by rw [hg]; exact (qk0 (by repeat (first | (with_reducible first | exact HB.out | apply qc0 | apply qa0 | apply qb0 | refine qf0 ?_ GE156.out) | exact HB.out))) : w.heap.size ≤ gb164)); have n4_ := Aside0.mk ((by rw [hg]; exact (qk0 (by repeat (first | (with_reducible first | exact HB.out | apply qc0 | apply qa0 | apply qb0 | refine qf0 ?_ GE156.out) | exact HB.out))) : w.heap.size ≤ gb164)); have n5_ := Aside0.mk ((by rw [hg]; exact Nat.ne_of_lt (qa1 (g := gb156) (o := .cells #[.slice A0_0 l0_0.length c0_0, .slice (some ad163) l0_1.length c0_1] 42 (0, 0)) (by (with_reducible repeat (first | refine qd0 ?_ _ | refine qh0 ?_ | refine qe0 ?_ _)); exact BK156.out)) : gb156 ≠ gb164)); have n6_ := Aside0.mk ((by rw [hg]; exact Nat.ne_of_gt (qa1 (g := gb156) (o := .cells #[.slice A0_0 l0_0.length c0_0, .slice (some ad163) l0_1.length c0_1] 42 (0, 0)) (by (with_reducible repeat (first | refine qd0 ?_ _ | refine qh0 ?_ | refine qe0 ?_ _)); exact BK156.out)) : gb164 ≠ gb156)); clear BK156; clear HB; have BK156 := n0_; have HB := n1_; have BK164 := n2_; have GW164 := n3_; have GE164 := n4_; have NB156_164 := n5_; have NB164_156 := n6_; clear n0_ n1_ n2_ n3_ n4_ n5_ n6_; clear hb hbox hg; have hnb32 := NB164_156.out; have hnc32 := NB156_164.out; have hcz33_0 : w31.cell? ⟨gb164, 0, none⟩ = some (.int .i64 0) := (qg0 BK164.out 0).trans rfl; have hcz33_1 : w31.cell? ⟨gb164, 1, none⟩ = some (.int .i64 0) := (qg0 BK164.out 1).trans rfl; have hcz33_2 : w31.cell? ⟨gb164, 2, none⟩ = some (.int .i64 0) := (qg0 BK164.out 2).trans rfl; have hcz33_3 : w31.cell? ⟨gb164, 3, none⟩ = some (.bool false) := (qg0 BK164.out 3).trans rfl; have hfz33_0 := qi0 BK164.out 0; have hfz33_1 := qi0 BK164.out 1; have hfz33_2 := qi0 BK164.out 2; have hfz33_3 := qi0 BK164.out 3))
              (try simp only [Act.put, List.setIfInBounds_toArray, List.set_cons_zero, List.set_cons_succ])
              go_cut [102] (fun v102 wc => ∃ (kq : Nat) (x102_28 : Bool), v102 = .bool x102_28 ∧ Aside0 (spec_RegisterOk.j5 kq x3_2 (wrap64 (x5_5 + 1)) x7_5 x102_28 l0_0 l0_1 ((rd_T53 l0_1 x7_5).f0) ((rd_T53 l0_1 x7_5).f1) ((rd_T53 l0_1 x7_5).f2) ((rd_T53 l0_1 x7_5).f3) = some r) ∧ Aside0 (kq ≤ k5) ∧ Aside0 (wc.heap[gb156]? = some (.cells #[(.slice A0_0 l0_0.length c0_0), (.slice (some ad163) l0_1.length c0_1)] 42 (0, 0))) ∧ Aside0 (wc.heap[gb164]? = some (.cells #[.int .i64 ((rd_T53 l0_1 x7_5).f0), .int .i64 ((rd_T53 l0_1 x7_5).f1), .int .i64 ((rd_T53 l0_1 x7_5).f2), .bool ((rd_T53 l0_1 x7_5).f3)] 53 (0, 0))) ∧ Aside0 (Below w.heap.size w wc))
              case first =>
               have H := HC29.out
               clear HC29
               by_cases c34 : ((rd_T53 l0_1 x7_5).f1) = (wrap64 (x5_5 + 1))
               ·rw [if_pos c34] at H
                have c34b0 : (((rd_T53 l0_1 x7_5).f1) == (wrap64 (x5_5 + 1))) = true := beq_iff_eq.mpr c34
                have c34b1 : (((rd_T53 l0_1 x7_5).f1) != (wrap64 (x5_5 + 1))) = false := bne_eq_false_iff_eq.mpr c34
                clear c34
                (first | rw [c34b0] | (simp only [i64_w, i32_w]; rw [c34b0]) | skip)
                by_cases c35 : ((rd_T53 l0_1 x7_5).f2) < x6_5
                ·rw [if_pos c35] at H
                 have c35b0 : decide (((rd_T53 l0_1 x7_5).f2) < x6_5) = true := decide_eq_true c35
                 clear c35
                 have H' := Aside0.mk H
                 clear H
                 try go_wp2
                 have n0_ : Aside0 (((((w31.setCell ⟨gb164, 0, none⟩ (.int .i64 ((rd_T53 l0_1 x7_5).f0))).setCell ⟨gb164, 1, none⟩ (.int .i64 ((rd_T53 l0_1 x7_5).f1))).setCell ⟨gb164, 2, none⟩ (.int .i64 ((rd_T53 l0_1 x7_5).f2))).setCell ⟨gb164, 3, none⟩ (.bool ((rd_T53 l0_1 x7_5).f3))).heap[gb156]? = some (.cells #[.slice A0_0 l0_0.length c0_0, .slice (some ad163) l0_1.length c0_1] 42 (0, 0))) := ⟨by (with_reducible repeat (first | refine qd0 ?_ _ | refine qh0 ?_ | refine qe0 ?_ _)); refine qu0 ?_ NB156_164.out _; (with_reducible repeat (first | refine qd0 ?_ _ | refine qh0 ?_ | refine qe0 ?_ _)); refine qu0 ?_ NB156_164.out _; (with_reducible repeat (first | refine qd0 ?_ _ | refine qh0 ?_ | refine qe0 ?_ _)); refine qu0 ?_ NB156_164.out _; (with_reducible repeat (first | refine qd0 ?_ _ | refine qh0 ?_ | refine qe0 ?_ _)); refine qu0 ?_ NB156_164.out _; (with_reducible repeat (first | refine qd0 ?_ _ | refine qh0 ?_ | refine qe0 ?_ _)); exact BK156.out⟩
                 have n1_ : Aside0 (((((w31.setCell ⟨gb164, 0, none⟩ (.int .i64 ((rd_T53 l0_1 x7_5).f0))).setCell ⟨gb164, 1, none⟩ (.int .i64 ((rd_T53 l0_1 x7_5).f1))).setCell ⟨gb164, 2, none⟩ (.int .i64 ((rd_T53 l0_1 x7_5).f2))).setCell ⟨gb164, 3, none⟩ (.bool ((rd_T53 l0_1 x7_5).f3))).heap[gb164]? = some (.cells #[.int .i64 ((rd_T53 l0_1 x7_5).f0), .int .i64 ((rd_T53 l0_1 x7_5).f1), .int .i64 ((rd_T53 l0_1 x7_5).f2), .bool ((rd_T53 l0_1 x7_5).f3)] 53 (0, 0))) := ⟨by (with_reducible repeat (first | refine qd0 ?_ _ | refine qh0 ?_ | refine qe0 ?_ _)); refine qx0 (cs := #[.int .i64 ((rd_T53 l0_1 x7_5).f0), .int .i64 ((rd_T53 l0_1 x7_5).f1), .int .i64 ((rd_T53 l0_1 x7_5).f2), .bool false]) ?_ 3 _ rfl; (with_reducible repeat (first | refine qd0 ?_ _ | refine qh0 ?_ | refine qe0 ?_ _)); refine qx0 (cs := #[.int .i64 ((rd_T53 l0_1 x7_5).f0), .int .i64 ((rd_T53 l0_1 x7_5).f1), .int .i64 0, .bool false]) ?_ 2 _ rfl; (with_reducible repeat (first | refine qd0 ?_ _ | refine qh0 ?_ | refine qe0 ?_ _)); refine qx0 (cs := #[.int .i64 ((rd_T53 l0_1 x7_5).f0), .int .i64 0, .int .i64 0, .bool false]) ?_ 1 _ rfl; (with_reducible repeat (first | refine qd0 ?_ _ | refine qh0 ?_ | refine qe0 ?_ _)); refine qx0 (cs := #[.int .i64 0, .int .i64 0, .int .i64 0, .bool false]) ?_ 0 _ rfl; (with_reducible repeat (first | refine qd0 ?_ _ | refine qh0 ?_ | refine qe0 ?_ _)); exact BK164.out⟩
                 have n2_ : Aside0 (Below w.heap.size w ((((w31.setCell ⟨gb164, 0, none⟩ (.int .i64 ((rd_T53 l0_1 x7_5).f0))).setCell ⟨gb164, 1, none⟩ (.int .i64 ((rd_T53 l0_1 x7_5).f1))).setCell ⟨gb164, 2, none⟩ (.int .i64 ((rd_T53 l0_1 x7_5).f2))).setCell ⟨gb164, 3, none⟩ (.bool ((rd_T53 l0_1 x7_5).f3)))) := ⟨by repeat (first | (with_reducible first | exact HB.out | apply qc0 | apply qa0 | apply qb0 | refine qf0 ?_ GE156.out | refine qf0 ?_ GE164.out) | exact HB.out)⟩
                 (try clear BK156)
                 (try clear BK164)
                 (try clear HB)
                 generalize ((((w31.setCell ⟨gb164, 0, none⟩ (.int .i64 ((rd_T53 l0_1 x7_5).f0))).setCell ⟨gb164, 1, none⟩ (.int .i64 ((rd_T53 l0_1 x7_5).f1))).setCell ⟨gb164, 2, none⟩ (.int .i64 ((rd_T53 l0_1 x7_5).f2))).setCell ⟨gb164, 3, none⟩ (.bool ((rd_T53 l0_1 x7_5).f3))) = w36 at n0_ n1_ n2_ ⊢
                 have BK156 := n0_
                 have BK164 := n1_
                 have HB := n2_
                 clear n0_ n1_ n2_
                 have n0_ := Aside0.mk (qh0 BK156.out)
                 have n1_ := Aside0.mk (qh0 BK164.out)
                 have n2_ := Aside0.mk (qb0 HB.out)
                 clear BK156
                 clear BK164
                 clear HB
                 have BK156 := n0_
                 have BK164 := n1_
                 have HB := n2_
                 clear n0_ n1_ n2_
                 refine qo1 (n := 22) (S := fun w' => w'.cell? ⟨gb164, 0, none⟩ = some (.int .i64 ((rd_T53 l0_1 x7_5).f0)) ∧ w'.cell? ⟨gb164, 1, none⟩ = some (.int .i64 ((rd_T53 l0_1 x7_5).f1)) ∧ w'.cell? ⟨gb164, 2, none⟩ = some (.int .i64 ((rd_T53 l0_1 x7_5).f2)) ∧ w'.cell? ⟨gb164, 3, none⟩ = some (.bool ((rd_T53 l0_1 x7_5).f3))) (ds := []) (rb5 [0, 22]) (by kernel_rfl) rfl rfl ⟨(qg0 BK164.out 0).trans rfl, (qg0 BK164.out 1).trans rfl, (qg0 BK164.out 2).trans rfl, (qg0 BK164.out 3).trans rfl⟩ (fun hHeld => ?_); refine qf1 spec_RegisterOk.tab21 spec_RegisterOk.bits21 (fun HT_ HW_ => ?_)
                 generalize w36.drew = w37 at BK156 BK164 HB hHeld ⊢
                 refine pure_ (i := 0) (N := some 81) (v := ?_) (a' := ?_) (rb5 [1, 21]) rfl rfl (qj0 HT_.out (by kernel_rfl)) (fun _ _ _ h => h) (Or.inl ⟨by rfl, ?_⟩) ?_ ?_
                 rotate_left
                 ·intro w'
                  go_simp
                  with_reducible rfl
                 rotate_left
                 ·simp only [Act.put, List.setIfInBounds_toArray, List.set_cons_zero, List.set_cons_succ, i64_w, i32_w]
                  rfl
                 refine pure_ (i := 2) (N := some 83) (v := ?_) (a' := ?_) (rb5 [1, 1, 1, 19]) rfl rfl (qj0 HT_.out (by kernel_rfl)) (fun _ _ _ h => h) (Or.inl ⟨by rfl, ?_⟩) ?_ ?_
                 rotate_left
                 ·intro w'
                  go_simp
                  with_reducible rfl
                 rotate_left
                 ·simp only [Act.put, List.setIfInBounds_toArray, List.set_cons_zero, List.set_cons_succ, i64_w, i32_w]
                  rfl
                 refine take_ (i := 1) (N := some 82) (v := ?_) (a' := ?_) (rb5 [3, 19]) rfl rfl (qo0 HT_.out HW_.out (by kernel_rfl)) (fun _ _ _ h => h) (Or.inl ⟨by rfl, ?_⟩) hHeld ?_ ?_
                 rotate_left
                 ·rintro w' ⟨s0, s1, s2, s3⟩
                  go_simp
                  with_reducible rfl
                 rotate_left
                 ·simp only [Act.put, List.setIfInBounds_toArray, List.set_cons_zero, List.set_cons_succ, i64_w, i32_w]
                  rfl
                 refine pure_ (i := 3) (N := some 84) (v := ?_) (a' := ?_) (rb5 [4, 18]) rfl rfl (qj0 HT_.out (by kernel_rfl)) (fun _ _ _ h => h) (Or.inl ⟨by rfl, ?_⟩) ?_ ?_
                 rotate_left
                 ·intro w'
                  go_simp
                  with_reducible rfl
                 rotate_left
                 ·simp only [Act.put, List.setIfInBounds_toArray, List.set_cons_zero, List.set_cons_succ, i64_w, i32_w]
                  rfl
                 refine pure_ (i := 4) (N := some 85) (v := ?_) (a' := ?_) (rb5 [5, 17]) rfl rfl (qj0 HT_.out (by kernel_rfl)) (fun _ _ _ h => h) (Or.inl ⟨by rfl, ?_⟩) ?_ ?_
                 rotate_left
                 ·intro w'
                  go_simp
                  with_reducible rfl
                 rotate_left
                 ·simp only [Act.put, List.setIfInBounds_toArray, List.set_cons_zero, List.set_cons_succ, i64_w, i32_w]
                  rfl
                 refine pure_ (i := 5) (N := some 86) (v := ?_) (a' := ?_) (rb5 [6, 16]) rfl rfl (qj0 HT_.out (by kernel_rfl)) (fun _ _ _ h => h) (Or.inl ⟨by rfl, ?_⟩) ?_ ?_
                 rotate_left
                 ·intro w'
                  go_simp
                  with_reducible rfl
                 rotate_left
                 ·simp only [Act.put, List.setIfInBounds_toArray, List.set_cons_zero, List.set_cons_succ, i64_w, i32_w]
                  rfl
                 refine pure_ (i := 7) (N := some 88) (v := ?_) (a' := ?_) (rb5 [6, 1, 1, 14]) rfl rfl (qj0 HT_.out (by kernel_rfl)) (fun _ _ _ h => h) (Or.inl ⟨by rfl, ?_⟩) ?_ ?_
                 rotate_left
                 ·intro w'
                  go_simp
                  with_reducible rfl
                 rotate_left
                 ·simp only [Act.put, List.setIfInBounds_toArray, List.set_cons_zero, List.set_cons_succ, i64_w, i32_w]
                  rfl
                 refine take_ (i := 6) (N := some 87) (v := ?_) (a' := ?_) (rb5 [8, 14]) rfl rfl (qo0 HT_.out HW_.out (by kernel_rfl)) (fun _ _ _ h => h) (Or.inl ⟨by rfl, ?_⟩) hHeld ?_ ?_
                 rotate_left
                 ·rintro w' ⟨s0, s1, s2, s3⟩
                  go_simp
                  with_reducible rfl
                 rotate_left
                 ·simp only [Act.put, List.setIfInBounds_toArray, List.set_cons_zero, List.set_cons_succ, i64_w, i32_w]
                  rfl
                 refine pure_ (i := 8) (N := some 89) (v := ?_) (a' := ?_) (rb5 [9, 13]) rfl rfl (qj0 HT_.out (by kernel_rfl)) (fun _ _ _ h => h) (Or.inl ⟨by rfl, ?_⟩) ?_ ?_
                 rotate_left
                 ·intro w'
                  go_simp
                  with_reducible rfl
                 rotate_left
                 ·simp only [Act.put, List.setIfInBounds_toArray, List.set_cons_zero, List.set_cons_succ, i64_w, i32_w]
                  rfl
                 refine pure_ (i := 9) (N := some 90) (v := ?_) (a' := ?_) (rb5 [10, 12]) rfl rfl (qj0 HT_.out (by kernel_rfl)) (fun _ _ _ h => h) (Or.inl ⟨by rfl, ?_⟩) ?_ ?_
                 rotate_left
                 ·intro w'
                  go_simp
                  with_reducible rfl
                 rotate_left
                 ·simp only [Act.put, List.setIfInBounds_toArray, List.set_cons_zero, List.set_cons_succ, i64_w, i32_w]
                  rfl
                 refine pure_ (i := 10) (N := some 91) (v := ?_) (a' := ?_) (rb5 [11, 11]) rfl rfl (qj0 HT_.out (by kernel_rfl)) (fun _ _ _ h => h) (Or.inl ⟨by rfl, ?_⟩) ?_ ?_
                 rotate_left
                 ·intro w'
                  go_simp
                  with_reducible rfl
                 rotate_left
                 ·simp only [Act.put, List.setIfInBounds_toArray, List.set_cons_zero, List.set_cons_succ, i64_w, i32_w]
                  rfl
                 refine pure_ (i := 11) (N := some 92) (v := undef) (a' := ?_) (rb5 [12, 10]) rfl rfl (qj0 HT_.out (by kernel_rfl)) (fun _ _ _ h => h) (Or.inr ⟨by rfl, rfl⟩) ?_ ?_
                 rotate_left
                 ·simp only [Act.put, List.setIfInBounds_toArray, List.set_cons_zero, List.set_cons_succ, i64_w, i32_w]
                  rfl
                 refine pure_ (i := 12) (N := some 93) (v := undef) (a' := ?_) (rb5 [13, 9]) rfl rfl (qj0 HT_.out (by kernel_rfl)) (fun _ _ _ h => h) (Or.inr ⟨by rfl, rfl⟩) ?_ ?_
                 rotate_left
                 ·simp only [Act.put, List.setIfInBounds_toArray, List.set_cons_zero, List.set_cons_succ, i64_w, i32_w]
                  rfl
                 refine pure_ (i := 13) (N := some 94) (v := undef) (a' := ?_) (rb5 [14, 8]) rfl rfl (qj0 HT_.out (by kernel_rfl)) (fun _ _ _ h => h) (Or.inr ⟨by rfl, rfl⟩) ?_ ?_
                 rotate_left
                 ·simp only [Act.put, List.setIfInBounds_toArray, List.set_cons_zero, List.set_cons_succ, i64_w, i32_w]
                  rfl
                 refine pure_ (i := 14) (N := some 95) (v := undef) (a' := ?_) (rb5 [15, 7]) rfl rfl (qj0 HT_.out (by kernel_rfl)) (fun _ _ _ h => h) (Or.inr ⟨by rfl, rfl⟩) ?_ ?_
                 rotate_left
                 ·simp only [Act.put, List.setIfInBounds_toArray, List.set_cons_zero, List.set_cons_succ, i64_w, i32_w]
                  rfl
                 refine pure_ (i := 15) (N := some 96) (v := undef) (a' := ?_) (rb5 [16, 6]) rfl rfl (qj0 HT_.out (by kernel_rfl)) (fun _ _ _ h => h) (Or.inr ⟨by rfl, rfl⟩) ?_ ?_
                 rotate_left
                 ·simp only [Act.put, List.setIfInBounds_toArray, List.set_cons_zero, List.set_cons_succ, i64_w, i32_w]
                  rfl
                 refine pure_ (i := 16) (N := some 97) (v := undef) (a' := ?_) (rb5 [17, 5]) rfl rfl (qj0 HT_.out (by kernel_rfl)) (fun _ _ _ h => h) (Or.inr ⟨by rfl, rfl⟩) ?_ ?_
                 rotate_left
                 ·simp only [Act.put, List.setIfInBounds_toArray, List.set_cons_zero, List.set_cons_succ, i64_w, i32_w]
                  rfl
                 refine pure_ (i := 17) (N := some 98) (v := undef) (a' := ?_) (rb5 [18, 4]) rfl rfl (qj0 HT_.out (by kernel_rfl)) (fun _ _ _ h => h) (Or.inr ⟨by rfl, rfl⟩) ?_ ?_
                 rotate_left
                 ·simp only [Act.put, List.setIfInBounds_toArray, List.set_cons_zero, List.set_cons_succ, i64_w, i32_w]
                  rfl
                 refine pure_ (i := 18) (N := some 99) (v := undef) (a' := ?_) (rb5 [19, 3]) rfl rfl (qj0 HT_.out (by kernel_rfl)) (fun _ _ _ h => h) (Or.inr ⟨by rfl, rfl⟩) ?_ ?_
                 rotate_left
                 ·simp only [Act.put, List.setIfInBounds_toArray, List.set_cons_zero, List.set_cons_succ, i64_w, i32_w]
                  rfl
                 refine pure_ (i := 19) (N := some 100) (v := undef) (a' := ?_) (rb5 [20, 2]) rfl rfl (qj0 HT_.out (by kernel_rfl)) (fun _ _ _ h => h) (Or.inr ⟨by rfl, rfl⟩) ?_ ?_
                 rotate_left
                 ·simp only [Act.put, List.setIfInBounds_toArray, List.set_cons_zero, List.set_cons_succ, i64_w, i32_w]
                  rfl
                 refine pure_ (i := 20) (N := some 101) (v := undef) (a' := ?_) (rb5 [21, 1]) rfl rfl (qj0 HT_.out (by kernel_rfl)) (fun _ _ _ h => h) (Or.inr ⟨by rfl, rfl⟩) ?_ ?_
                 rotate_left
                 ·simp only [Act.put, List.setIfInBounds_toArray, List.set_cons_zero, List.set_cons_succ, i64_w, i32_w]
                  rfl
                 refine pure_ (i := 21) (N := some 102) (v := ?_) (a' := ?_) (rb5 [22]) rfl rfl (qj0 HT_.out (by kernel_rfl)) (fun _ _ _ h => h) (Or.inl ⟨by rfl, ?_⟩) ?_ ?_
                 rotate_left
                 ·intro w'
                  go_simp
                  with_reducible rfl
                 rotate_left
                 ·simp only [Act.put, List.setIfInBounds_toArray, List.set_cons_zero, List.set_cons_succ, i64_w, i32_w]
                  rfl
                 refine done_ (ql1 HT_.out (by kernel_rfl)) ?_
                 try go_wp2
                 go_meet
                 case rel => exact ⟨_, (true), (by first | rfl | (simp; done) | (simp [*]; done)), H', ⟨by have := HJ1.out; have := HK2.out; have := HJ8.out; have := HK4.out; have := HK5.out; first | omega | exact Nat.le_refl _⟩, ⟨by (with_reducible repeat (first | refine qd0 ?_ _ | refine qh0 ?_ | refine qe0 ?_ _)); exact BK156.out⟩, ⟨by (with_reducible repeat (first | refine qd0 ?_ _ | refine qh0 ?_ | refine qe0 ?_ _)); exact BK164.out⟩, ⟨by repeat (first | (with_reducible first | exact HB.out | apply qc0 | apply qa0 | apply qb0 | refine qf0 ?_ GE156.out | refine qf0 ?_ GE164.out) | exact HB.out)⟩⟩
                rw [if_neg c35] at H
                have c35b0 : decide (((rd_T53 l0_1 x7_5).f2) < x6_5) = false := decide_eq_false c35
                clear c35
                replace H := Option.bind_eq_some_iff.mp H
                obtain ⟨t165, A380, H⟩ := H
                replace H : (if 0 ≤ x3_2 then (if x3_2 < (l0_0.length : Int) then (spec_RegisterOk.j5 k5 x3_2 (wrap64 (x5_5 + 1)) x7_5 (decide ((t165.size : Int) > ((rd_T122 l0_0 x3_2).f1))) l0_0 l0_1 ((rd_T53 l0_1 x7_5).f0) ((rd_T53 l0_1 x7_5).f1) ((rd_T53 l0_1 x7_5).f2) ((rd_T53 l0_1 x7_5).f3)) else (none)) else (none)) = some r := H
                have A38 := Aside0.mk A380
                clear A380
                by_cases c39 : 0 ≤ x3_2
                case neg => rw [if_neg c39] at H; exact absurd H (by simp)
                rw [if_pos c39] at H
                have c39b0 : decide (0 ≤ x3_2) = true := decide_eq_true c39
                clear c39
                by_cases c40 : x3_2 < (l0_0.length : Int)
                case neg => rw [if_neg c40] at H; exact absurd H (by simp)
                rw [if_pos c40] at H
                have c40b0 : decide (x3_2 < (l0_0.length : Int)) = true := decide_eq_true c40
                clear c40
                have H' := Aside0.mk H
                clear H
                try go_wp2
                have n0_ : Aside0 (((((w31.setCell ⟨gb164, 0, none⟩ (.int .i64 ((rd_T53 l0_1 x7_5).f0))).setCell ⟨gb164, 1, none⟩ (.int .i64 ((rd_T53 l0_1 x7_5).f1))).setCell ⟨gb164, 2, none⟩ (.int .i64 ((rd_T53 l0_1 x7_5).f2))).setCell ⟨gb164, 3, none⟩ (.bool ((rd_T53 l0_1 x7_5).f3))).heap[gb156]? = some (.cells #[.slice A0_0 l0_0.length c0_0, .slice (some ad163) l0_1.length c0_1] 42 (0, 0))) := ⟨by (with_reducible repeat (first | refine qd0 ?_ _ | refine qh0 ?_ | refine qe0 ?_ _)); refine qu0 ?_ NB156_164.out _; (with_reducible repeat (first | refine qd0 ?_ _ | refine qh0 ?_ | refine qe0 ?_ _)); refine qu0 ?_ NB156_164.out _; (with_reducible repeat (first | refine qd0 ?_ _ | refine qh0 ?_ | refine qe0 ?_ _)); refine qu0 ?_ NB156_164.out _; (with_reducible repeat (first | refine qd0 ?_ _ | refine qh0 ?_ | refine qe0 ?_ _)); refine qu0 ?_ NB156_164.out _; (with_reducible repeat (first | refine qd0 ?_ _ | refine qh0 ?_ | refine qe0 ?_ _)); exact BK156.out⟩
                have n1_ : Aside0 (((((w31.setCell ⟨gb164, 0, none⟩ (.int .i64 ((rd_T53 l0_1 x7_5).f0))).setCell ⟨gb164, 1, none⟩ (.int .i64 ((rd_T53 l0_1 x7_5).f1))).setCell ⟨gb164, 2, none⟩ (.int .i64 ((rd_T53 l0_1 x7_5).f2))).setCell ⟨gb164, 3, none⟩ (.bool ((rd_T53 l0_1 x7_5).f3))).heap[gb164]? = some (.cells #[.int .i64 ((rd_T53 l0_1 x7_5).f0), .int .i64 ((rd_T53 l0_1 x7_5).f1), .int .i64 ((rd_T53 l0_1 x7_5).f2), .bool ((rd_T53 l0_1 x7_5).f3)] 53 (0, 0))) := ⟨by (with_reducible repeat (first | refine qd0 ?_ _ | refine qh0 ?_ | refine qe0 ?_ _)); refine qx0 (cs := #[.int .i64 ((rd_T53 l0_1 x7_5).f0), .int .i64 ((rd_T53 l0_1 x7_5).f1), .int .i64 ((rd_T53 l0_1 x7_5).f2), .bool false]) ?_ 3 _ rfl; (with_reducible repeat (first | refine qd0 ?_ _ | refine qh0 ?_ | refine qe0 ?_ _)); refine qx0 (cs := #[.int .i64 ((rd_T53 l0_1 x7_5).f0), .int .i64 ((rd_T53 l0_1 x7_5).f1), .int .i64 0, .bool false]) ?_ 2 _ rfl; (with_reducible repeat (first | refine qd0 ?_ _ | refine qh0 ?_ | refine qe0 ?_ _)); refine qx0 (cs := #[.int .i64 ((rd_T53 l0_1 x7_5).f0), .int .i64 0, .int .i64 0, .bool false]) ?_ 1 _ rfl; (with_reducible repeat (first | refine qd0 ?_ _ | refine qh0 ?_ | refine qe0 ?_ _)); refine qx0 (cs := #[.int .i64 0, .int .i64 0, .int .i64 0, .bool false]) ?_ 0 _ rfl; (with_reducible repeat (first | refine qd0 ?_ _ | refine qh0 ?_ | refine qe0 ?_ _)); exact BK164.out⟩
                have n2_ : Aside0 (Below w.heap.size w ((((w31.setCell ⟨gb164, 0, none⟩ (.int .i64 ((rd_T53 l0_1 x7_5).f0))).setCell ⟨gb164, 1, none⟩ (.int .i64 ((rd_T53 l0_1 x7_5).f1))).setCell ⟨gb164, 2, none⟩ (.int .i64 ((rd_T53 l0_1 x7_5).f2))).setCell ⟨gb164, 3, none⟩ (.bool ((rd_T53 l0_1 x7_5).f3)))) := ⟨by repeat (first | (with_reducible first | exact HB.out | apply qc0 | apply qa0 | apply qb0 | refine qf0 ?_ GE156.out | refine qf0 ?_ GE164.out) | exact HB.out)⟩
                (try clear BK156)
                (try clear BK164)
                (try clear HB)
                generalize ((((w31.setCell ⟨gb164, 0, none⟩ (.int .i64 ((rd_T53 l0_1 x7_5).f0))).setCell ⟨gb164, 1, none⟩ (.int .i64 ((rd_T53 l0_1 x7_5).f1))).setCell ⟨gb164, 2, none⟩ (.int .i64 ((rd_T53 l0_1 x7_5).f2))).setCell ⟨gb164, 3, none⟩ (.bool ((rd_T53 l0_1 x7_5).f3))) = w41 at n0_ n1_ n2_ ⊢
                have BK156 := n0_
                have BK164 := n1_
                have HB := n2_
                clear n0_ n1_ n2_
                have n0_ := Aside0.mk (qh0 BK156.out)
                have n1_ := Aside0.mk (qh0 BK164.out)
                have n2_ := Aside0.mk (qb0 HB.out)
                clear BK156
                clear BK164
                clear HB
                have BK156 := n0_
                have BK164 := n1_
                have HB := n2_
                clear n0_ n1_ n2_
                have p166 : 0 ≤ (x3_2 : Int) := of_decide_eq_true (by first | (with_reducible assumption) | assumption)
                have q166 : x3_2 < (l0_0.length : Int) := of_decide_eq_true (by first | (with_reducible assumption) | assumption)
                obtain ⟨ad166, e166, hx166_0, hx166_1⟩ := at_T122 HR0_0.out x3_2 p166 q166
                have hw166_1 := hx166_1
                have hw166_0 := hx166_0
                cases e166
                replace hx166_0 := (HB.out.cell (World.block_lt_of_cell? w _ hx166_0)).trans hx166_0
                replace hx166_1 := (HB.out.cell (World.block_lt_of_cell? w _ hx166_1)).trans hx166_1
                replace p166 := eq_true p166
                replace q166 := eq_true q166
                refine qo1 (n := 22) (S := fun w' => w'.cell? ⟨gb164, 0, none⟩ = some (.int .i64 ((rd_T53 l0_1 x7_5).f0)) ∧ w'.cell? ⟨gb164, 1, none⟩ = some (.int .i64 ((rd_T53 l0_1 x7_5).f1)) ∧ w'.cell? ⟨gb164, 2, none⟩ = some (.int .i64 ((rd_T53 l0_1 x7_5).f2)) ∧ w'.cell? ⟨gb164, 3, none⟩ = some (.bool ((rd_T53 l0_1 x7_5).f3)) ∧ w'.cell? ⟨gb156, 0, none⟩ = some (.slice (some ad166) l0_0.length c0_0) ∧ w'.cell? ⟨gb156, 1, none⟩ = some (.slice (some ad163) l0_1.length c0_1) ∧ w'.cell? (ad166.add ((x3_2).toNat * 2)) = some (.string ((rd_T122 l0_0 x3_2).f0)) ∧ w'.cell? ⟨(ad166.add ((x3_2).toNat * 2)).block, (ad166.add ((x3_2).toNat * 2)).off + 1, none⟩ = some (.int .i64 ((rd_T122 l0_0 x3_2).f1))) (ds := []) (rb5 [0, 22]) (by kernel_rfl) rfl rfl ⟨(qg0 BK164.out 0).trans rfl, (qg0 BK164.out 1).trans rfl, (qg0 BK164.out 2).trans rfl, (qg0 BK164.out 3).trans rfl, (qg0 BK156.out 0).trans rfl, (qg0 BK156.out 1).trans rfl, ((HB.out.cell (World.block_lt_of_cell? w _ hw166_0)).trans hw166_0), ((HB.out.cell (World.block_lt_of_cell? w _ hw166_1)).trans hw166_1)⟩ (fun hHeld => ?_); refine qf1 spec_RegisterOk.tab21 spec_RegisterOk.bits21 (fun HT_ HW_ => ?_)
                generalize w41.drew = w42 at BK156 BK164 HB hx166_0 hx166_1 hHeld ⊢
                refine pure_ (i := 0) (N := some 81) (v := ?_) (a' := ?_) (rb5 [1, 21]) rfl rfl (qj0 HT_.out (by kernel_rfl)) (fun _ _ _ h => h) (Or.inl ⟨by rfl, ?_⟩) ?_ ?_
                rotate_left
                ·intro w'
                 go_simp
                 with_reducible rfl
                rotate_left
                ·simp only [Act.put, List.setIfInBounds_toArray, List.set_cons_zero, List.set_cons_succ, i64_w, i32_w]
                 rfl
                refine pure_ (i := 2) (N := some 83) (v := ?_) (a' := ?_) (rb5 [1, 1, 1, 19]) rfl rfl (qj0 HT_.out (by kernel_rfl)) (fun _ _ _ h => h) (Or.inl ⟨by rfl, ?_⟩) ?_ ?_
                rotate_left
                ·intro w'
                 go_simp
                 with_reducible rfl
                rotate_left
                ·simp only [Act.put, List.setIfInBounds_toArray, List.set_cons_zero, List.set_cons_succ, i64_w, i32_w]
                 rfl
                refine take_ (i := 1) (N := some 82) (v := ?_) (a' := ?_) (rb5 [3, 19]) rfl rfl (qo0 HT_.out HW_.out (by kernel_rfl)) (fun _ _ _ h => h) (Or.inl ⟨by rfl, ?_⟩) hHeld ?_ ?_
                rotate_left
                ·rintro w' ⟨s0, s1, s2, s3, s4, s5, s6, s7⟩
                 go_simp
                 with_reducible rfl
                rotate_left
                ·simp only [Act.put, List.setIfInBounds_toArray, List.set_cons_zero, List.set_cons_succ, i64_w, i32_w]
                 rfl
                refine pure_ (i := 3) (N := some 84) (v := ?_) (a' := ?_) (rb5 [4, 18]) rfl rfl (qj0 HT_.out (by kernel_rfl)) (fun _ _ _ h => h) (Or.inl ⟨by rfl, ?_⟩) ?_ ?_
                rotate_left
                ·intro w'
                 go_simp
                 with_reducible rfl
                rotate_left
                ·simp only [Act.put, List.setIfInBounds_toArray, List.set_cons_zero, List.set_cons_succ, i64_w, i32_w]
                 rfl
                refine pure_ (i := 4) (N := some 85) (v := ?_) (a' := ?_) (rb5 [5, 17]) rfl rfl (qj0 HT_.out (by kernel_rfl)) (fun _ _ _ h => h) (Or.inl ⟨by rfl, ?_⟩) ?_ ?_
                rotate_left
                ·intro w'
                 go_simp
                 with_reducible rfl
                rotate_left
                ·simp only [Act.put, List.setIfInBounds_toArray, List.set_cons_zero, List.set_cons_succ, i64_w, i32_w]
                 rfl
                refine pure_ (i := 5) (N := some 86) (v := ?_) (a' := ?_) (rb5 [6, 16]) rfl rfl (qj0 HT_.out (by kernel_rfl)) (fun _ _ _ h => h) (Or.inl ⟨by rfl, ?_⟩) ?_ ?_
                rotate_left
                ·intro w'
                 go_simp
                 with_reducible rfl
                rotate_left
                ·simp only [Act.put, List.setIfInBounds_toArray, List.set_cons_zero, List.set_cons_succ, i64_w, i32_w]
                 rfl
                refine pure_ (i := 7) (N := some 88) (v := ?_) (a' := ?_) (rb5 [6, 1, 1, 14]) rfl rfl (qj0 HT_.out (by kernel_rfl)) (fun _ _ _ h => h) (Or.inl ⟨by rfl, ?_⟩) ?_ ?_
                rotate_left
                ·intro w'
                 go_simp
                 with_reducible rfl
                rotate_left
                ·simp only [Act.put, List.setIfInBounds_toArray, List.set_cons_zero, List.set_cons_succ, i64_w, i32_w]
                 rfl
                refine take_ (i := 6) (N := some 87) (v := ?_) (a' := ?_) (rb5 [8, 14]) rfl rfl (qo0 HT_.out HW_.out (by kernel_rfl)) (fun _ _ _ h => h) (Or.inl ⟨by rfl, ?_⟩) hHeld ?_ ?_
                rotate_left
                ·rintro w' ⟨s0, s1, s2, s3, s4, s5, s6, s7⟩
                 go_simp
                 with_reducible rfl
                rotate_left
                ·simp only [Act.put, List.setIfInBounds_toArray, List.set_cons_zero, List.set_cons_succ, i64_w, i32_w]
                 rfl
                refine pure_ (i := 8) (N := some 89) (v := ?_) (a' := ?_) (rb5 [9, 13]) rfl rfl (qj0 HT_.out (by kernel_rfl)) (fun _ _ _ h => h) (Or.inl ⟨by rfl, ?_⟩) ?_ ?_
                rotate_left
                ·intro w'
                 go_simp
                 with_reducible rfl
                rotate_left
                ·simp only [Act.put, List.setIfInBounds_toArray, List.set_cons_zero, List.set_cons_succ, i64_w, i32_w]
                 rfl
                refine pure_ (i := 9) (N := some 90) (v := ?_) (a' := ?_) (rb5 [10, 12]) rfl rfl (qj0 HT_.out (by kernel_rfl)) (fun _ _ _ h => h) (Or.inl ⟨by rfl, ?_⟩) ?_ ?_
                rotate_left
                ·intro w'
                 go_simp
                 with_reducible rfl
                rotate_left
                ·simp only [Act.put, List.setIfInBounds_toArray, List.set_cons_zero, List.set_cons_succ, i64_w, i32_w]
                 rfl
                refine pure_ (i := 10) (N := some 91) (v := ?_) (a' := ?_) (rb5 [11, 11]) rfl rfl (qj0 HT_.out (by kernel_rfl)) (fun _ _ _ h => h) (Or.inl ⟨by rfl, ?_⟩) ?_ ?_
                rotate_left
                ·intro w'
                 go_simp
                 with_reducible rfl
                rotate_left
                ·simp only [Act.put, List.setIfInBounds_toArray, List.set_cons_zero, List.set_cons_succ, i64_w, i32_w]
                 rfl
                refine pure_ (i := 11) (N := some 92) (v := ?_) (a' := ?_) (rb5 [12, 10]) rfl rfl (qj0 HT_.out (by kernel_rfl)) (fun _ _ _ h => h) (Or.inl ⟨by rfl, ?_⟩) ?_ ?_
                rotate_left
                ·intro w'
                 go_simp
                 with_reducible rfl
                rotate_left
                ·simp only [Act.put, List.setIfInBounds_toArray, List.set_cons_zero, List.set_cons_succ, i64_w, i32_w]
                 rfl
                refine pure_ (i := 14) (N := some 95) (v := ?_) (a' := ?_) (rb5 [12, 2, 1, 7]) rfl rfl (qj0 HT_.out (by kernel_rfl)) (fun _ _ _ h => h) (Or.inl ⟨by rfl, ?_⟩) ?_ ?_
                rotate_left
                ·intro w'
                 go_simp
                 with_reducible rfl
                rotate_left
                ·simp only [Act.put, List.setIfInBounds_toArray, List.set_cons_zero, List.set_cons_succ, i64_w, i32_w]
                 rfl
                refine pure_ (i := 16) (N := some 97) (v := ?_) (a' := ?_) (rb5 [12, 2, 1, 1, 1, 5]) rfl rfl (qj0 HT_.out (by kernel_rfl)) (fun _ _ _ h => h) (Or.inl ⟨by rfl, ?_⟩) ?_ ?_
                rotate_left
                ·intro w'
                 go_simp
                 with_reducible rfl
                rotate_left
                ·simp only [Act.put, List.setIfInBounds_toArray, List.set_cons_zero, List.set_cons_succ, i64_w, i32_w]
                 rfl
                refine take_ (i := 15) (N := some 96) (v := ?_) (a' := ?_) (rb5 [12, 2, 3, 5]) rfl rfl (qo0 HT_.out HW_.out (by kernel_rfl)) (fun _ _ _ h => h) (Or.inl ⟨by rfl, ?_⟩) hHeld ?_ ?_
                rotate_left
                ·rintro w' ⟨s0, s1, s2, s3, s4, s5, s6, s7⟩
                 go_simp
                 with_reducible rfl
                rotate_left
                ·simp only [Act.put, List.setIfInBounds_toArray, List.set_cons_zero, List.set_cons_succ, i64_w, i32_w]
                 rfl
                refine pure_ (i := 17) (N := some 98) (v := ?_) (a' := ?_) (rb5 [12, 2, 4, 4]) rfl rfl (qj0 HT_.out (by kernel_rfl)) (fun _ _ _ h => h) (Or.inl ⟨by rfl, ?_⟩) ?_ ?_
                rotate_left
                ·intro w'
                 go_simp
                 with_reducible rfl
                rotate_left
                ·simp only [Act.put, List.setIfInBounds_toArray, List.set_cons_zero, List.set_cons_succ, i64_w, i32_w]
                 rfl
                refine pure_ (i := 18) (N := some 99) (v := ?_) (a' := ?_) (rb5 [12, 2, 5, 3]) rfl rfl (qj0 HT_.out (by kernel_rfl)) (fun _ _ _ h => h) (Or.inl ⟨by rfl, ?_⟩) ?_ ?_
                rotate_left
                ·intro w'
                 go_simp
                 with_reducible rfl
                rotate_left
                ·simp only [Act.put, List.setIfInBounds_toArray, List.set_cons_zero, List.set_cons_succ, i64_w, i32_w]
                 rfl
                refine take_ (i := 19) (N := some 100) (v := ?_) (a' := ?_) (rb5 [12, 2, 6, 2]) rfl rfl (qo0 HT_.out HW_.out (by kernel_rfl)) (fun _ _ _ h => h) (Or.inl ⟨by rfl, ?_⟩) hHeld ?_ ?_
                rotate_left
                ·rintro w' ⟨s0, s1, s2, s3, s4, s5, s6, s7⟩
                 go_simp
                 with_reducible rfl
                rotate_left
                ·simp only [Act.put, List.setIfInBounds_toArray, List.set_cons_zero, List.set_cons_succ, i64_w, i32_w]
                 rfl
                refine one_ (i := 12) (N := some 93) (rb5 [13, 1, 6, 2]) rfl rfl (qn1 HT_.out (by kernel_rfl)) (by decide) (fun K hK => ?_)
                refine goes_ Try.func82 (by kernel_rfl) rfl #[.int .i64 (wrap64 (x5_5 + 1))] (by rfl) rfl rfl (by (try simp only [List.map_toArray, List.map_cons, List.map_nil]); first | done | rfl | (simp only [List.length_drop, List.length_take]; rfl)) ?_
                with_reducible refine (spec_l1Text.calls k5 (wrap64 (x5_5 + 1)) t165 _ A38.out).mono ?_
                rintro e w43 ⟨rfl, hb⟩
                refine ⟨_, rfl, ?_⟩
                have n0_ := Aside0.mk (qm0 (g := gb156) (o := .cells #[.slice (some ad166) l0_0.length c0_0, .slice (some ad163) l0_1.length c0_1] 42 (0, 0)) (by (with_reducible repeat (first | refine qd0 ?_ _ | refine qh0 ?_ | refine qe0 ?_ _)); exact BK156.out) hb)
                have n1_ := Aside0.mk (qm0 (g := gb164) (o := .cells #[.int .i64 ((rd_T53 l0_1 x7_5).f0), .int .i64 ((rd_T53 l0_1 x7_5).f1), .int .i64 ((rd_T53 l0_1 x7_5).f2), .bool ((rd_T53 l0_1 x7_5).f3)] 53 (0, 0)) (by (with_reducible repeat (first | refine qd0 ?_ _ | refine qh0 ?_ | refine qe0 ?_ _)); exact BK164.out) hb)
                have n2_ := Aside0.mk (ql0 (by repeat (first | (with_reducible first | exact HB.out | apply qc0 | apply qa0 | apply qb0 | refine qf0 ?_ GE156.out | refine qf0 ?_ GE164.out) | exact HB.out)) hb)
                clear BK156
                clear BK164
                clear HB
                have BK156 := n0_
                have BK164 := n1_
                have HB := n2_
                clear n0_ n1_ n2_
                (try clear hb)
                (try clear hb2)
                (try clear hk)
                (try clear hi)
                refine hK.out _ _ ⟨(qg0 BK164.out 0).trans rfl, (qg0 BK164.out 1).trans rfl, (qg0 BK164.out 2).trans rfl, (qg0 BK164.out 3).trans rfl, (qg0 BK156.out 0).trans rfl, (qg0 BK156.out 1).trans rfl, ((HB.out.cell (World.block_lt_of_cell? w _ hw166_0)).trans hw166_0), ((HB.out.cell (World.block_lt_of_cell? w _ hw166_1)).trans hw166_1)⟩ (fun hHeld => ?_)
                clear hK K
                refine norm_ (a' := ?_) ?_ ?_
                rotate_left
                ·show Act.put _ (some 93) _ = _
                 simp only [Act.put, List.setIfInBounds_toArray, List.set_cons_zero, List.set_cons_succ, i64_w, i32_w]
                 rfl
                refine pure_ (i := 13) (N := some 94) (v := ?_) (a' := ?_) (rb5 [20, 2]) rfl rfl (qj0 HT_.out (by kernel_rfl)) (fun _ _ _ h => h) (Or.inl ⟨by rfl, ?_⟩) ?_ ?_
                rotate_left
                ·intro w'
                 go_simp
                 with_reducible rfl
                rotate_left
                ·simp only [Act.put, List.setIfInBounds_toArray, List.set_cons_zero, List.set_cons_succ, i64_w, i32_w]
                 rfl
                refine pure_ (i := 20) (N := some 101) (v := ?_) (a' := ?_) (rb5 [21, 1]) rfl rfl (qj0 HT_.out (by kernel_rfl)) (fun _ _ _ h => h) (Or.inl ⟨by rfl, ?_⟩) ?_ ?_
                rotate_left
                ·intro w'
                 go_simp
                 with_reducible rfl
                rotate_left
                ·simp only [Act.put, List.setIfInBounds_toArray, List.set_cons_zero, List.set_cons_succ, i64_w, i32_w]
                 rfl
                refine pure_ (i := 21) (N := some 102) (v := ?_) (a' := ?_) (rb5 [22]) rfl rfl (qj0 HT_.out (by kernel_rfl)) (fun _ _ _ h => h) (Or.inl ⟨by rfl, ?_⟩) ?_ ?_
                rotate_left
                ·intro w'
                 go_simp
                 with_reducible rfl
                rotate_left
                ·simp only [Act.put, List.setIfInBounds_toArray, List.set_cons_zero, List.set_cons_succ, i64_w, i32_w]
                 rfl
                refine done_ (ql1 HT_.out (by kernel_rfl)) ?_
                try go_wp2
                go_meet
                case rel => exact ⟨_, (decide ((t165.size : Int) > ((rd_T122 l0_0 x3_2).f1))), (by first | rfl | (simp; done) | (simp [*]; done)), H', ⟨by have := HJ1.out; have := HK2.out; have := HJ8.out; have := HK4.out; have := HK5.out; first | omega | exact Nat.le_refl _⟩, ⟨by (with_reducible repeat (first | refine qd0 ?_ _ | refine qh0 ?_ | refine qe0 ?_ _)); exact BK156.out⟩, ⟨by (with_reducible repeat (first | refine qd0 ?_ _ | refine qh0 ?_ | refine qe0 ?_ _)); exact BK164.out⟩, ⟨by repeat (first | (with_reducible first | exact HB.out | apply qc0 | apply qa0 | apply qb0 | refine qf0 ?_ GE156.out | refine qf0 ?_ GE164.out) | exact HB.out)⟩⟩
               rw [if_neg c34] at H
               have c34b0 : (((rd_T53 l0_1 x7_5).f1) == (wrap64 (x5_5 + 1))) = false := beq_eq_false_iff_ne.mpr c34
               have c34b1 : (((rd_T53 l0_1 x7_5).f1) != (wrap64 (x5_5 + 1))) = true := bne_iff_ne.mpr c34
               (first | rw [c34b0] | (simp only [i64_w, i32_w]; rw [c34b0]) | skip)
               have H' := Aside0.mk H
               clear H
               try go_wp2
               have n0_ : Aside0 (((((w31.setCell ⟨gb164, 0, none⟩ (.int .i64 ((rd_T53 l0_1 x7_5).f0))).setCell ⟨gb164, 1, none⟩ (.int .i64 ((rd_T53 l0_1 x7_5).f1))).setCell ⟨gb164, 2, none⟩ (.int .i64 ((rd_T53 l0_1 x7_5).f2))).setCell ⟨gb164, 3, none⟩ (.bool ((rd_T53 l0_1 x7_5).f3))).heap[gb156]? = some (.cells #[.slice A0_0 l0_0.length c0_0, .slice (some ad163) l0_1.length c0_1] 42 (0, 0))) := ⟨by (with_reducible repeat (first | refine qd0 ?_ _ | refine qh0 ?_ | refine qe0 ?_ _)); refine qu0 ?_ NB156_164.out _; (with_reducible repeat (first | refine qd0 ?_ _ | refine qh0 ?_ | refine qe0 ?_ _)); refine qu0 ?_ NB156_164.out _; (with_reducible repeat (first | refine qd0 ?_ _ | refine qh0 ?_ | refine qe0 ?_ _)); refine qu0 ?_ NB156_164.out _; (with_reducible repeat (first | refine qd0 ?_ _ | refine qh0 ?_ | refine qe0 ?_ _)); refine qu0 ?_ NB156_164.out _; (with_reducible repeat (first | refine qd0 ?_ _ | refine qh0 ?_ | refine qe0 ?_ _)); exact BK156.out⟩
               have n1_ : Aside0 (((((w31.setCell ⟨gb164, 0, none⟩ (.int .i64 ((rd_T53 l0_1 x7_5).f0))).setCell ⟨gb164, 1, none⟩ (.int .i64 ((rd_T53 l0_1 x7_5).f1))).setCell ⟨gb164, 2, none⟩ (.int .i64 ((rd_T53 l0_1 x7_5).f2))).setCell ⟨gb164, 3, none⟩ (.bool ((rd_T53 l0_1 x7_5).f3))).heap[gb164]? = some (.cells #[.int .i64 ((rd_T53 l0_1 x7_5).f0), .int .i64 ((rd_T53 l0_1 x7_5).f1), .int .i64 ((rd_T53 l0_1 x7_5).f2), .bool ((rd_T53 l0_1 x7_5).f3)] 53 (0, 0))) := ⟨by (with_reducible repeat (first | refine qd0 ?_ _ | refine qh0 ?_ | refine qe0 ?_ _)); refine qx0 (cs := #[.int .i64 ((rd_T53 l0_1 x7_5).f0), .int .i64 ((rd_T53 l0_1 x7_5).f1), .int .i64 ((rd_T53 l0_1 x7_5).f2), .bool false]) ?_ 3 _ rfl; (with_reducible repeat (first | refine qd0 ?_ _ | refine qh0 ?_ | refine qe0 ?_ _)); refine qx0 (cs := #[.int .i64 ((rd_T53 l0_1 x7_5).f0), .int .i64 ((rd_T53 l0_1 x7_5).f1), .int .i64 0, .bool false]) ?_ 2 _ rfl; (with_reducible repeat (first | refine qd0 ?_ _ | refine qh0 ?_ | refine qe0 ?_ _)); refine qx0 (cs := #[.int .i64 ((rd_T53 l0_1 x7_5).f0), .int .i64 0, .int .i64 0, .bool false]) ?_ 1 _ rfl; (with_reducible repeat (first | refine qd0 ?_ _ | refine qh0 ?_ | refine qe0 ?_ _)); refine qx0 (cs := #[.int .i64 0, .int .i64 0, .int .i64 0, .bool false]) ?_ 0 _ rfl; (with_reducible repeat (first | refine qd0 ?_ _ | refine qh0 ?_ | refine qe0 ?_ _)); exact BK164.out⟩
               have n2_ : Aside0 (Below w.heap.size w ((((w31.setCell ⟨gb164, 0, none⟩ (.int .i64 ((rd_T53 l0_1 x7_5).f0))).setCell ⟨gb164, 1, none⟩ (.int .i64 ((rd_T53 l0_1 x7_5).f1))).setCell ⟨gb164, 2, none⟩ (.int .i64 ((rd_T53 l0_1 x7_5).f2))).setCell ⟨gb164, 3, none⟩ (.bool ((rd_T53 l0_1 x7_5).f3)))) := ⟨by repeat (first | (with_reducible first | exact HB.out | apply qc0 | apply qa0 | apply qb0 | refine qf0 ?_ GE156.out | refine qf0 ?_ GE164.out) | exact HB.out)⟩
               (try clear BK156)
               (try clear BK164)
               (try clear HB)
               generalize ((((w31.setCell ⟨gb164, 0, none⟩ (.int .i64 ((rd_T53 l0_1 x7_5).f0))).setCell ⟨gb164, 1, none⟩ (.int .i64 ((rd_T53 l0_1 x7_5).f1))).setCell ⟨gb164, 2, none⟩ (.int .i64 ((rd_T53 l0_1 x7_5).f2))).setCell ⟨gb164, 3, none⟩ (.bool ((rd_T53 l0_1 x7_5).f3))) = w44 at n0_ n1_ n2_ ⊢
               have BK156 := n0_
               have BK164 := n1_
               have HB := n2_
               clear n0_ n1_ n2_
               have n0_ := Aside0.mk (qh0 BK156.out)
               have n1_ := Aside0.mk (qh0 BK164.out)
               have n2_ := Aside0.mk (qb0 HB.out)
               clear BK156
               clear BK164
               clear HB
               have BK156 := n0_
               have BK164 := n1_
               have HB := n2_
               clear n0_ n1_ n2_
               refine qo1 (n := 22) (S := fun w' => w'.cell? ⟨gb164, 0, none⟩ = some (.int .i64 ((rd_T53 l0_1 x7_5).f0)) ∧ w'.cell? ⟨gb164, 1, none⟩ = some (.int .i64 ((rd_T53 l0_1 x7_5).f1)) ∧ w'.cell? ⟨gb164, 2, none⟩ = some (.int .i64 ((rd_T53 l0_1 x7_5).f2)) ∧ w'.cell? ⟨gb164, 3, none⟩ = some (.bool ((rd_T53 l0_1 x7_5).f3))) (ds := []) (rb5 [0, 22]) (by kernel_rfl) rfl rfl ⟨(qg0 BK164.out 0).trans rfl, (qg0 BK164.out 1).trans rfl, (qg0 BK164.out 2).trans rfl, (qg0 BK164.out 3).trans rfl⟩ (fun hHeld => ?_); refine qf1 spec_RegisterOk.tab21 spec_RegisterOk.bits21 (fun HT_ HW_ => ?_)
               generalize w44.drew = w45 at BK156 BK164 HB hHeld ⊢
               refine pure_ (i := 0) (N := some 81) (v := ?_) (a' := ?_) (rb5 [1, 21]) rfl rfl (qj0 HT_.out (by kernel_rfl)) (fun _ _ _ h => h) (Or.inl ⟨by rfl, ?_⟩) ?_ ?_
               rotate_left
               ·intro w'
                go_simp
                with_reducible rfl
               rotate_left
               ·simp only [Act.put, List.setIfInBounds_toArray, List.set_cons_zero, List.set_cons_succ, i64_w, i32_w]
                rfl
               refine pure_ (i := 2) (N := some 83) (v := ?_) (a' := ?_) (rb5 [1, 1, 1, 19]) rfl rfl (qj0 HT_.out (by kernel_rfl)) (fun _ _ _ h => h) (Or.inl ⟨by rfl, ?_⟩) ?_ ?_
               rotate_left
               ·intro w'
                go_simp
                with_reducible rfl
               rotate_left
               ·simp only [Act.put, List.setIfInBounds_toArray, List.set_cons_zero, List.set_cons_succ, i64_w, i32_w]
                rfl
               refine take_ (i := 1) (N := some 82) (v := ?_) (a' := ?_) (rb5 [3, 19]) rfl rfl (qo0 HT_.out HW_.out (by kernel_rfl)) (fun _ _ _ h => h) (Or.inl ⟨by rfl, ?_⟩) hHeld ?_ ?_
               rotate_left
               ·rintro w' ⟨s0, s1, s2, s3⟩
                go_simp
                with_reducible rfl
               rotate_left
               ·simp only [Act.put, List.setIfInBounds_toArray, List.set_cons_zero, List.set_cons_succ, i64_w, i32_w]
                rfl
               refine pure_ (i := 3) (N := some 84) (v := ?_) (a' := ?_) (rb5 [4, 18]) rfl rfl (qj0 HT_.out (by kernel_rfl)) (fun _ _ _ h => h) (Or.inl ⟨by rfl, ?_⟩) ?_ ?_
               rotate_left
               ·intro w'
                go_simp
                with_reducible rfl
               rotate_left
               ·simp only [Act.put, List.setIfInBounds_toArray, List.set_cons_zero, List.set_cons_succ, i64_w, i32_w]
                rfl
               refine pure_ (i := 4) (N := some 85) (v := ?_) (a' := ?_) (rb5 [5, 17]) rfl rfl (qj0 HT_.out (by kernel_rfl)) (fun _ _ _ h => h) (Or.inl ⟨by rfl, ?_⟩) ?_ ?_
               rotate_left
               ·intro w'
                go_simp
                with_reducible rfl
               rotate_left
               ·simp only [Act.put, List.setIfInBounds_toArray, List.set_cons_zero, List.set_cons_succ, i64_w, i32_w]
                rfl
               refine pure_ (i := 5) (N := some 86) (v := undef) (a' := ?_) (rb5 [6, 16]) rfl rfl (qj0 HT_.out (by kernel_rfl)) (fun _ _ _ h => h) (Or.inr ⟨by rfl, rfl⟩) ?_ ?_
               rotate_left
               ·simp only [Act.put, List.setIfInBounds_toArray, List.set_cons_zero, List.set_cons_succ, i64_w, i32_w]
                rfl
               refine pure_ (i := 6) (N := some 87) (v := undef) (a' := ?_) (rb5 [7, 15]) rfl rfl (qj0 HT_.out (by kernel_rfl)) (fun _ _ _ h => h) (Or.inr ⟨by rfl, rfl⟩) ?_ ?_
               rotate_left
               ·simp only [Act.put, List.setIfInBounds_toArray, List.set_cons_zero, List.set_cons_succ, i64_w, i32_w]
                rfl
               refine pure_ (i := 7) (N := some 88) (v := undef) (a' := ?_) (rb5 [8, 14]) rfl rfl (qj0 HT_.out (by kernel_rfl)) (fun _ _ _ h => h) (Or.inr ⟨by rfl, rfl⟩) ?_ ?_
               rotate_left
               ·simp only [Act.put, List.setIfInBounds_toArray, List.set_cons_zero, List.set_cons_succ, i64_w, i32_w]
                rfl
               refine pure_ (i := 8) (N := some 89) (v := undef) (a' := ?_) (rb5 [9, 13]) rfl rfl (qj0 HT_.out (by kernel_rfl)) (fun _ _ _ h => h) (Or.inr ⟨by rfl, rfl⟩) ?_ ?_
               rotate_left
               ·simp only [Act.put, List.setIfInBounds_toArray, List.set_cons_zero, List.set_cons_succ, i64_w, i32_w]
                rfl
               refine pure_ (i := 9) (N := some 90) (v := ?_) (a' := ?_) (rb5 [10, 12]) rfl rfl (qj0 HT_.out (by kernel_rfl)) (fun _ _ _ h => h) (Or.inl ⟨by rfl, ?_⟩) ?_ ?_
               rotate_left
               ·intro w'
                go_simp
                with_reducible rfl
               rotate_left
               ·simp only [Act.put, List.setIfInBounds_toArray, List.set_cons_zero, List.set_cons_succ, i64_w, i32_w]
                rfl
               refine pure_ (i := 10) (N := some 91) (v := ?_) (a' := ?_) (rb5 [11, 11]) rfl rfl (qj0 HT_.out (by kernel_rfl)) (fun _ _ _ h => h) (Or.inl ⟨by rfl, ?_⟩) ?_ ?_
               rotate_left
               ·intro w'
                go_simp
                with_reducible rfl
               rotate_left
               ·simp only [Act.put, List.setIfInBounds_toArray, List.set_cons_zero, List.set_cons_succ, i64_w, i32_w]
                rfl
               refine pure_ (i := 11) (N := some 92) (v := undef) (a' := ?_) (rb5 [12, 10]) rfl rfl (qj0 HT_.out (by kernel_rfl)) (fun _ _ _ h => h) (Or.inr ⟨by rfl, rfl⟩) ?_ ?_
               rotate_left
               ·simp only [Act.put, List.setIfInBounds_toArray, List.set_cons_zero, List.set_cons_succ, i64_w, i32_w]
                rfl
               refine pure_ (i := 12) (N := some 93) (v := undef) (a' := ?_) (rb5 [13, 9]) rfl rfl (qj0 HT_.out (by kernel_rfl)) (fun _ _ _ h => h) (Or.inr ⟨by rfl, rfl⟩) ?_ ?_
               rotate_left
               ·simp only [Act.put, List.setIfInBounds_toArray, List.set_cons_zero, List.set_cons_succ, i64_w, i32_w]
                rfl
               refine pure_ (i := 13) (N := some 94) (v := undef) (a' := ?_) (rb5 [14, 8]) rfl rfl (qj0 HT_.out (by kernel_rfl)) (fun _ _ _ h => h) (Or.inr ⟨by rfl, rfl⟩) ?_ ?_
               rotate_left
               ·simp only [Act.put, List.setIfInBounds_toArray, List.set_cons_zero, List.set_cons_succ, i64_w, i32_w]
                rfl
               refine pure_ (i := 14) (N := some 95) (v := undef) (a' := ?_) (rb5 [15, 7]) rfl rfl (qj0 HT_.out (by kernel_rfl)) (fun _ _ _ h => h) (Or.inr ⟨by rfl, rfl⟩) ?_ ?_
               rotate_left
               ·simp only [Act.put, List.setIfInBounds_toArray, List.set_cons_zero, List.set_cons_succ, i64_w, i32_w]
                rfl
               refine pure_ (i := 15) (N := some 96) (v := undef) (a' := ?_) (rb5 [16, 6]) rfl rfl (qj0 HT_.out (by kernel_rfl)) (fun _ _ _ h => h) (Or.inr ⟨by rfl, rfl⟩) ?_ ?_
               rotate_left
               ·simp only [Act.put, List.setIfInBounds_toArray, List.set_cons_zero, List.set_cons_succ, i64_w, i32_w]
                rfl
               refine pure_ (i := 16) (N := some 97) (v := undef) (a' := ?_) (rb5 [17, 5]) rfl rfl (qj0 HT_.out (by kernel_rfl)) (fun _ _ _ h => h) (Or.inr ⟨by rfl, rfl⟩) ?_ ?_
               rotate_left
               ·simp only [Act.put, List.setIfInBounds_toArray, List.set_cons_zero, List.set_cons_succ, i64_w, i32_w]
                rfl
               refine pure_ (i := 17) (N := some 98) (v := undef) (a' := ?_) (rb5 [18, 4]) rfl rfl (qj0 HT_.out (by kernel_rfl)) (fun _ _ _ h => h) (Or.inr ⟨by rfl, rfl⟩) ?_ ?_
               rotate_left
               ·simp only [Act.put, List.setIfInBounds_toArray, List.set_cons_zero, List.set_cons_succ, i64_w, i32_w]
                rfl
               refine pure_ (i := 18) (N := some 99) (v := undef) (a' := ?_) (rb5 [19, 3]) rfl rfl (qj0 HT_.out (by kernel_rfl)) (fun _ _ _ h => h) (Or.inr ⟨by rfl, rfl⟩) ?_ ?_
               rotate_left
               ·simp only [Act.put, List.setIfInBounds_toArray, List.set_cons_zero, List.set_cons_succ, i64_w, i32_w]
                rfl
               refine pure_ (i := 19) (N := some 100) (v := undef) (a' := ?_) (rb5 [20, 2]) rfl rfl (qj0 HT_.out (by kernel_rfl)) (fun _ _ _ h => h) (Or.inr ⟨by rfl, rfl⟩) ?_ ?_
               rotate_left
               ·simp only [Act.put, List.setIfInBounds_toArray, List.set_cons_zero, List.set_cons_succ, i64_w, i32_w]
                rfl
               refine pure_ (i := 20) (N := some 101) (v := undef) (a' := ?_) (rb5 [21, 1]) rfl rfl (qj0 HT_.out (by kernel_rfl)) (fun _ _ _ h => h) (Or.inr ⟨by rfl, rfl⟩) ?_ ?_
               rotate_left
               ·simp only [Act.put, List.setIfInBounds_toArray, List.set_cons_zero, List.set_cons_succ, i64_w, i32_w]
                rfl
               refine pure_ (i := 21) (N := some 102) (v := ?_) (a' := ?_) (rb5 [22]) rfl rfl (qj0 HT_.out (by kernel_rfl)) (fun _ _ _ h => h) (Or.inl ⟨by rfl, ?_⟩) ?_ ?_
               rotate_left
               ·intro w'
                go_simp
                with_reducible rfl
               rotate_left
               ·simp only [Act.put, List.setIfInBounds_toArray, List.set_cons_zero, List.set_cons_succ, i64_w, i32_w]
                rfl
               refine done_ (ql1 HT_.out (by kernel_rfl)) ?_
               try go_wp2
               go_meet
               case rel => exact ⟨_, (true), (by first | rfl | (simp; done) | (simp [*]; done)), H', ⟨by have := HJ1.out; have := HK2.out; have := HJ8.out; have := HK4.out; have := HK5.out; first | omega | exact Nat.le_refl _⟩, ⟨by (with_reducible repeat (first | refine qd0 ?_ _ | refine qh0 ?_ | refine qe0 ?_ _)); exact BK156.out⟩, ⟨by (with_reducible repeat (first | refine qd0 ?_ _ | refine qh0 ?_ | refine qe0 ?_ _)); exact BK164.out⟩, ⟨by repeat (first | (with_reducible first | exact HB.out | apply qc0 | apply qa0 | apply qb0 | refine qf0 ?_ GE156.out | refine qf0 ?_ GE164.out) | exact HB.out)⟩⟩
              case rest =>
               clear HC29
               try clear p1
               try clear q1
               try clear hx1
               try clear p2
               try clear c3
               try clear c4
               try clear p6
               try clear c8
               try clear p16
               try clear q16
               try clear hx16
               try clear c32
               try clear c34
               try clear c34b0
               try clear c34b1
               try clear c35
               try clear c35b0
               try clear c39
               try clear c39b0
               try clear c40
               try clear c40b0
               try clear hcz33_0
               try clear hcz33_1
               try clear hcz33_2
               try clear hcz33_3
               try clear hfz33_0
               try clear hfz33_1
               try clear hfz33_2
               try clear hfz33_3
               try clear hx163_0
               try clear hx163_1
               try clear hx163_2
               try clear hx163_3
               try clear hx166_0
               try clear hx166_1
               try clear p163
               try clear p166
               try clear q163
               try clear q166
               obtain ⟨kq, x102_28, rfl, HA, HJ28, BK156, BK164, HB⟩ := hcut
               cases kq with
               | zero => exact absurd HA.out (by simp [spec_RegisterOk.j5])
               | succ kj28 =>
                have H := HA.out
                clear HA
                simp only [spec_RegisterOk.j5] at H
                by_cases c46 : x102_28 = true
                ·subst c46
                 have H1 : (some false) = some r := by rw [if_pos rfl] at H; exact H
                 clear H
                 have H := H1
                 clear H1
                 obtain rfl := Option.some.inj H
                 go_wp2
                 go_ret
                 exact ⟨by first | rfl | (simp [errW_none, errW_some] <;> rfl) | (simp [*, errW_none, errW_some] <;> rfl), by repeat (first | (with_reducible first | exact HB.out | apply qc0 | apply qa0 | apply qb0 | refine qf0 ?_ GE156.out | refine qf0 ?_ GE164.out) | exact HB.out)⟩
                replace c46 := Bool.eq_false_iff.mpr c46
                subst c46
                have H1 : (spec_RegisterOk.l2 kj28 x3_2 (wrap64 (x5_5 + 1)) ((rd_T53 l0_1 x7_5).f2) (wrap64 (x7_5 + 1)) l0_0 l0_1) = some r := by rw [if_neg (show ¬ (false = true) by decide)] at H; exact H
                clear H
                have H := H1
                clear H1
                have H' := Aside0.mk H
                clear H
                have hnb47 := NB164_156.out
                have hnc47 := NB156_164.out
                have hcz48_0 : wc.cell? ⟨gb164, 0, none⟩ = some (.int .i64 ((rd_T53 l0_1 x7_5).f0)) := (qg0 BK164.out 0).trans rfl
                have hcz48_1 : wc.cell? ⟨gb164, 1, none⟩ = some (.int .i64 ((rd_T53 l0_1 x7_5).f1)) := (qg0 BK164.out 1).trans rfl
                have hcz48_2 : wc.cell? ⟨gb164, 2, none⟩ = some (.int .i64 ((rd_T53 l0_1 x7_5).f2)) := (qg0 BK164.out 2).trans rfl
                have hcz48_3 : wc.cell? ⟨gb164, 3, none⟩ = some (.bool ((rd_T53 l0_1 x7_5).f3)) := (qg0 BK164.out 3).trans rfl
                have hfz48_0 := qi0 BK164.out 0
                have hfz48_1 := qi0 BK164.out 1
                have hfz48_2 := qi0 BK164.out 2
                have hfz48_3 := qi0 BK164.out 3
                go_wp2
                go_roundg kj28
                case measure => have := HJ1.out; have := HK2.out; have := HJ8.out; have := HK4.out; have := HK5.out; have := HJ28.out; omega
                case rel => exact ⟨((wrap64 (x5_5 + 1))), (((rd_T53 l0_1 x7_5).f2)), (wrap64 (x7_5 + 1)), (by first | rfl | (simp; done) | (simp [*]; done)), (by first | rfl | (simp; done) | (simp [*]; done)), (by first | rfl | (simp; done) | (simp [*]; done)), H', ⟨by have := HJ1.out; have := HK2.out; have := HJ8.out; have := HK4.out; have := HK5.out; have := HJ28.out; omega⟩, ⟨by (with_reducible repeat (first | refine qd0 ?_ _ | refine qh0 ?_ | refine qe0 ?_ _)); exact BK156.out⟩, ⟨by repeat (first | (with_reducible first | exact HB.out | apply qc0 | apply qa0 | apply qb0 | refine qf0 ?_ GE156.out | refine qf0 ?_ GE164.out) | exact HB.out)⟩⟩
             rw [if_neg c28] at H
             have c28b0 : (((rd_T53 l0_1 x7_5).f0) == x3_2) = false := beq_eq_false_iff_ne.mpr c28
             have c28b1 : (((rd_T53 l0_1 x7_5).f0) != x3_2) = true := bne_iff_ne.mpr c28
             have H' := Aside0.mk H
             clear H
             have hcz49_0 : wr.cell? ⟨gb156, 0, none⟩ = some (.slice A0_0 l0_0.length c0_0) := (qg0 BK156.out 0).trans rfl
             have hcz49_1 : wr.cell? ⟨gb156, 1, none⟩ = some (.slice A0_1 l0_1.length c0_1) := (qg0 BK156.out 1).trans rfl
             have hfz49_0 := qi0 BK156.out 0
             have hfz49_1 := qi0 BK156.out 1
             have p163 : 0 ≤ (x7_5 : Int) := of_decide_eq_true (by first | (with_reducible assumption) | assumption)
             have q163 : x7_5 < (l0_1.length : Int) := of_decide_eq_true (by first | (with_reducible assumption) | assumption)
             obtain ⟨ad163, e163, hx163_0, hx163_1, hx163_2, hx163_3⟩ := at_T53 HR0_1.out x7_5 p163 q163
             cases e163
             replace hx163_0 := (HB.out.cell (World.block_lt_of_cell? w _ hx163_0)).trans hx163_0
             replace hx163_1 := (HB.out.cell (World.block_lt_of_cell? w _ hx163_1)).trans hx163_1
             replace hx163_2 := (HB.out.cell (World.block_lt_of_cell? w _ hx163_2)).trans hx163_2
             replace hx163_3 := (HB.out.cell (World.block_lt_of_cell? w _ hx163_3)).trans hx163_3
             replace p163 := eq_true p163
             replace q163 := eq_true q163
             go_wp2_with (first | ((with_reducible refine qs0 (N := 8) rfl ?_); (try (refine gate_guard (by rfl) ?_; dsimp only)); refine qr0 ?hg (N := 8) ?hd (cs := #[.int .i64 0, .int .i64 0, .int .i64 0, .bool false]) (t := 53) ?hr ?_; (case hd => rfl); (case hg => rfl); (case hr => first | (go_simp; done) | (go_simp; rfl)); intro gb164 hg w50 hbox hb; have n0_ := Aside0.mk (qm0 (g := gb156) (o := .cells #[.slice A0_0 l0_0.length c0_0, .slice (some ad163) l0_1.length c0_1] 42 (0, 0)) (by (with_reducible repeat (first | refine qd0 ?_ _ | refine qh0 ?_ | refine qe0 ?_ _)); exact BK156.out) hb); have n1_ := Aside0.mk (ql0 (by repeat (first | (with_reducible first | exact HB.out | apply qc0 | apply qa0 | apply qb0 | refine qf0 ?_ GE156.out) | exact HB.out)) hb); have n2_ := Aside0.mk (hbox); have n3_ := Aside0.mk ((by rw [hg]; exact (qk0 (by repeat (first | (with_reducible first | exact HB.out | apply qc0 | apply qa0 | apply qb0 | refine qf0 ?_ GE156.out) | exact HB.out))) : w.heap.size ≤ gb164)); have n4_ := Aside0.mk ((by rw [hg]; exact (qk0 (by repeat (first | (with_reducible first | exact HB.out | apply qc0 | apply qa0 | apply qb0 | refine qf0 ?_ GE156.out) | exact HB.out))) : w.heap.size ≤ gb164)); have n5_ := Aside0.mk ((by rw [hg]; exact Nat.ne_of_lt (qa1 (g := gb156) (o := .cells #[.slice A0_0 l0_0.length c0_0, .slice (some ad163) l0_1.length c0_1] 42 (0, 0)) (by (with_reducible repeat (first | refine qd0 ?_ _ | refine qh0 ?_ | refine qe0 ?_ _)); exact BK156.out)) : gb156 ≠ gb164)); have n6_ := Aside0.mk ((by rw [hg]; exact Nat.ne_of_gt (qa1 (g := gb156) (o := .cells #[.slice A0_0 l0_0.length c0_0, .slice (some ad163) l0_1.length c0_1] 42 (0, 0)) (by (with_reducible repeat (first | refine qd0 ?_ _ | refine qh0 ?_ | refine qe0 ?_ _)); exact BK156.out)) : gb164 ≠ gb156)); clear BK156; clear HB; have BK156 := n0_; have HB := n1_; have BK164 := n2_; have GW164 := n3_; have GE164 := n4_; have NB156_164 := n5_; have NB164_156 := n6_; clear n0_ n1_ n2_ n3_ n4_ n5_ n6_; clear hb hbox hg; have hnb51 := NB164_156.out; have hnc51 := NB156_164.out; have hcz52_0 : w50.cell? ⟨gb164, 0, none⟩ = some (.int .i64 0) := (qg0 BK164.out 0).trans rfl; have hcz52_1 : w50.cell? ⟨gb164, 1, none⟩ = some (.int .i64 0) := (qg0 BK164.out 1).trans rfl; have hcz52_2 : w50.cell? ⟨gb164, 2, none⟩ = some (.int .i64 0) := (qg0 BK164.out 2).trans rfl; have hcz52_3 : w50.cell? ⟨gb164, 3, none⟩ = some (.bool false) := (qg0 BK164.out 3).trans rfl; have hfz52_0 := qi0 BK164.out 0; have hfz52_1 := qi0 BK164.out 1; have hfz52_2 := qi0 BK164.out 2; have hfz52_3 := qi0 BK164.out 3))
             go_roundg k5
             case measure => have := HJ1.out; have := HK2.out; have := HJ8.out; have := HK4.out; have := HK5.out; omega
             case rel => exact ⟨(x5_5), (x6_5), (wrap64 (x7_5 + 1)), (by first | rfl | (simp; done) | (simp [*]; done)), (by first | rfl | (simp; done) | (simp [*]; done)), (by first | rfl | (simp; done) | (simp [*]; done)), H', ⟨by have := HJ1.out; have := HK2.out; have := HJ8.out; have := HK4.out; have := HK5.out; omega⟩, ⟨by (with_reducible repeat (first | refine qd0 ?_ _ | refine qh0 ?_ | refine qe0 ?_ _)); refine qu0 ?_ NB156_164.out _; (with_reducible repeat (first | refine qd0 ?_ _ | refine qh0 ?_ | refine qe0 ?_ _)); refine qu0 ?_ NB156_164.out _; (with_reducible repeat (first | refine qd0 ?_ _ | refine qh0 ?_ | refine qe0 ?_ _)); refine qu0 ?_ NB156_164.out _; (with_reducible repeat (first | refine qd0 ?_ _ | refine qh0 ?_ | refine qe0 ?_ _)); refine qu0 ?_ NB156_164.out _; (with_reducible repeat (first | refine qd0 ?_ _ | refine qh0 ?_ | refine qe0 ?_ _)); exact BK156.out⟩, ⟨by repeat (first | (with_reducible first | exact HB.out | apply qc0 | apply qa0 | apply qb0 | refine qf0 ?_ GE156.out | refine qf0 ?_ GE164.out) | exact HB.out)⟩⟩
            rw [if_neg c26] at H
            have c26b0 : decide (x7_5 < (l0_1.length : Int)) = false := decide_eq_false c26
            clear c26
            have H' := Aside0.mk H
            clear H
            have hcz53_0 : wr.cell? ⟨gb156, 0, none⟩ = some (.slice A0_0 l0_0.length c0_0) := (qg0 BK156.out 0).trans rfl
            have hcz53_1 : wr.cell? ⟨gb156, 1, none⟩ = some (.slice A0_1 l0_1.length c0_1) := (qg0 BK156.out 1).trans rfl
            have hfz53_0 := qi0 BK156.out 0
            have hfz53_1 := qi0 BK156.out 1
            go_wp2
            go_roundg k5
            case measure => have := HJ1.out; have := HK2.out; have := HJ8.out; have := HK4.out; have := HK5.out; omega
            case rel => exact ⟨(wrap64 (x3_2 + 1)), (by first | rfl | (simp; done) | (simp [*]; done)), H', ⟨by have := HJ1.out; have := HK2.out; have := HJ8.out; have := HK4.out; have := HK5.out; omega⟩, ⟨by (with_reducible repeat (first | refine qd0 ?_ _ | refine qh0 ?_ | refine qe0 ?_ _)); exact BK156.out⟩, ⟨by repeat (first | (with_reducible first | exact HB.out | apply qc0 | apply qa0 | apply qb0 | refine qf0 ?_ GE156.out) | exact HB.out)⟩⟩
     rw [if_neg c8] at H
     have c8b0 : decide (x3_2 < (l0_0.length : Int)) = false := decide_eq_false c8
     clear c8
     have H' := Aside0.mk H
     clear H
     have hcz54_0 : wr.cell? ⟨gb156, 0, none⟩ = some (.slice A0_0 l0_0.length c0_0) := (qg0 BK156.out 0).trans rfl
     have hcz54_1 : wr.cell? ⟨gb156, 1, none⟩ = some (.slice A0_1 l0_1.length c0_1) := (qg0 BK156.out 1).trans rfl
     have hfz54_0 := qi0 BK156.out 0
     have hfz54_1 := qi0 BK156.out 1
     go_wp2
     go_loopg [9] k2 (fun kq v9 w' => ∃ (x9_3 : Int), v9 = .int .i64 x9_3 ∧ Aside0 (spec_RegisterOk.l3 kq x9_3 l0_0 l0_1 = some r) ∧ Aside0 (kq ≤ k2) ∧ Aside0 (w'.heap[gb156]? = some (.cells #[(.slice A0_0 l0_0.length c0_0), (.slice A0_1 l0_1.length c0_1)] 42 (0, 0))) ∧ Aside0 (Below w.heap.size w w'))
     case atStart => exact ⟨(0), (by first | rfl | (simp; done) | (simp [*]; done)), H', ⟨Nat.le_refl _⟩, ⟨by (with_reducible repeat (first | refine qd0 ?_ _ | refine qh0 ?_ | refine qe0 ?_ _)); exact BK156.out⟩, ⟨by repeat (first | (with_reducible first | exact HB.out | apply qc0 | apply qa0 | apply qb0 | refine qf0 ?_ GE156.out) | exact HB.out)⟩⟩
     case round =>
      clear H'
      try clear p1
      try clear q1
      try clear hx1
      try clear c2
      try clear p2
      try clear c3
      try clear c4
      try clear c5
      try clear p6
      try clear c8
      try clear c8b0
      try clear p16
      try clear q16
      try clear hx16
      try clear c26
      try clear c26b0
      try clear c28
      try clear c28b0
      try clear c28b1
      try clear c32
      try clear c34
      try clear c34b0
      try clear c34b1
      try clear c35
      try clear c35b0
      try clear c39
      try clear c39b0
      try clear c40
      try clear c40b0
      try clear c46
      try clear c47
      try clear c51
      try clear hcz33_0
      try clear hcz33_1
      try clear hcz33_2
      try clear hcz33_3
      try clear hcz48_0
      try clear hcz48_1
      try clear hcz48_2
      try clear hcz48_3
      try clear hcz49_0
      try clear hcz49_1
      try clear hcz52_0
      try clear hcz52_1
      try clear hcz52_2
      try clear hcz52_3
      try clear hcz53_0
      try clear hcz53_1
      try clear hcz54_0
      try clear hcz54_1
      try clear hfz33_0
      try clear hfz33_1
      try clear hfz33_2
      try clear hfz33_3
      try clear hfz48_0
      try clear hfz48_1
      try clear hfz48_2
      try clear hfz48_3
      try clear hfz49_0
      try clear hfz49_1
      try clear hfz52_0
      try clear hfz52_1
      try clear hfz52_2
      try clear hfz52_3
      try clear hfz53_0
      try clear hfz53_1
      try clear hfz54_0
      try clear hfz54_1
      try clear hx163_0
      try clear hx163_1
      try clear hx163_2
      try clear hx163_3
      try clear hx166_0
      try clear hx166_1
      try clear p1
      try clear p16
      try clear p163
      try clear p166
      try clear p2
      try clear p6
      try clear q1
      try clear q16
      try clear q163
      try clear q166
      obtain ⟨x9_3, rfl, HA, HK3, BK156, HB⟩ := hrel
      cases gk with
      | zero => exact absurd HA.out (by simp [spec_RegisterOk.l3])
      | succ k3 =>
       have H := HA.out
       clear HA
       simp only [spec_RegisterOk.l3] at H
       by_cases c55 : x9_3 < (l0_1.length : Int)
       ·rw [if_pos c55] at H
        have c55b0 : decide (x9_3 < (l0_1.length : Int)) = true := decide_eq_true c55
        clear c55
        by_cases c56 : 0 ≤ x9_3
        case neg => rw [if_neg c56] at H; exact absurd H (by simp)
        rw [if_pos c56] at H
        have c56b0 : decide (0 ≤ x9_3) = true := decide_eq_true c56
        clear c56
        replace H := Option.bind_eq_some_iff.mp H
        obtain ⟨t168, A570, H⟩ := H
        replace H : (if t168 = true then ((spec_l2Day.f ((rd_T53 l0_1 x9_3).f2)).bind fun t170 => (if t170 = true then (spec_RegisterOk.l3 k3 (wrap64 (x9_3 + 1)) l0_0 l0_1) else (some false))) else (some false)) = some r := H
        have A57 := Aside0.mk A570
        clear A570
        by_cases c58 : t168 = true
        ·subst c58
         have H1 : ((spec_l2Day.f ((rd_T53 l0_1 x9_3).f2)).bind fun t170 => (if t170 = true then (spec_RegisterOk.l3 k3 (wrap64 (x9_3 + 1)) l0_0 l0_1) else (some false))) = some r := by rw [if_pos rfl] at H; exact H
         clear H
         have H := H1
         clear H1
         replace H := Option.bind_eq_some_iff.mp H
         obtain ⟨t170, A590, H⟩ := H
         replace H : (if t170 = true then (spec_RegisterOk.l3 k3 (wrap64 (x9_3 + 1)) l0_0 l0_1) else (some false)) = some r := H
         have A59 := Aside0.mk A590
         clear A590
         by_cases c60 : t170 = true
         ·subst c60
          have H1 : (spec_RegisterOk.l3 k3 (wrap64 (x9_3 + 1)) l0_0 l0_1) = some r := by rw [if_pos rfl] at H; exact H
          clear H
          have H := H1
          clear H1
          have H' := Aside0.mk H
          clear H
          have hcz61_0 : wr.cell? ⟨gb156, 0, none⟩ = some (.slice A0_0 l0_0.length c0_0) := (qg0 BK156.out 0).trans rfl
          have hcz61_1 : wr.cell? ⟨gb156, 1, none⟩ = some (.slice A0_1 l0_1.length c0_1) := (qg0 BK156.out 1).trans rfl
          have hfz61_0 := qi0 BK156.out 0
          have hfz61_1 := qi0 BK156.out 1
          try go_wp2
          have n0_ := Aside0.mk (qh0 BK156.out)
          have n1_ := Aside0.mk (qb0 HB.out)
          clear BK156
          clear HB
          have BK156 := n0_
          have HB := n1_
          clear n0_ n1_
          have p167 : 0 ≤ (x9_3 : Int) := of_decide_eq_true (by first | (with_reducible assumption) | assumption)
          have q167 : x9_3 < (l0_1.length : Int) := of_decide_eq_true (by first | (with_reducible assumption) | assumption)
          obtain ⟨ad167, e167, hx167_0, hx167_1, hx167_2, hx167_3⟩ := at_T53 HR0_1.out x9_3 p167 q167
          have hw167_3 := hx167_3
          have hw167_2 := hx167_2
          have hw167_1 := hx167_1
          have hw167_0 := hx167_0
          cases e167
          replace hx167_0 := (HB.out.cell (World.block_lt_of_cell? w _ hx167_0)).trans hx167_0
          replace hx167_1 := (HB.out.cell (World.block_lt_of_cell? w _ hx167_1)).trans hx167_1
          replace hx167_2 := (HB.out.cell (World.block_lt_of_cell? w _ hx167_2)).trans hx167_2
          replace hx167_3 := (HB.out.cell (World.block_lt_of_cell? w _ hx167_3)).trans hx167_3
          replace p167 := eq_true p167
          replace q167 := eq_true q167
          have p169 : 0 ≤ (x9_3 : Int) := of_decide_eq_true (by first | (with_reducible assumption) | assumption)
          have q169 : x9_3 < (l0_1.length : Int) := of_decide_eq_true (by first | (with_reducible assumption) | assumption)
          obtain ⟨ad169, e169, hx169_0, hx169_1, hx169_2, hx169_3⟩ := at_T53 HR0_1.out x9_3 p169 q169
          have hw169_3 := hx169_3
          have hw169_2 := hx169_2
          have hw169_1 := hx169_1
          have hw169_0 := hx169_0
          obtain rfl : ad167 = ad169 := (by injection e169)
          replace hx169_0 := (HB.out.cell (World.block_lt_of_cell? w _ hx169_0)).trans hx169_0
          replace hx169_1 := (HB.out.cell (World.block_lt_of_cell? w _ hx169_1)).trans hx169_1
          replace hx169_2 := (HB.out.cell (World.block_lt_of_cell? w _ hx169_2)).trans hx169_2
          replace hx169_3 := (HB.out.cell (World.block_lt_of_cell? w _ hx169_3)).trans hx169_3
          replace p169 := eq_true p169
          replace q169 := eq_true q169
          refine qo1 (n := 22) (S := fun w' => w'.cell? ⟨gb156, 0, none⟩ = some (.slice A0_0 l0_0.length c0_0) ∧ w'.cell? ⟨gb156, 1, none⟩ = some (.slice (some ad167) l0_1.length c0_1) ∧ w'.cell? (ad167.add ((x9_3).toNat * 4)) = some (.int .i64 ((rd_T53 l0_1 x9_3).f0)) ∧ w'.cell? ⟨(ad167.add ((x9_3).toNat * 4)).block, (ad167.add ((x9_3).toNat * 4)).off + 1, none⟩ = some (.int .i64 ((rd_T53 l0_1 x9_3).f1)) ∧ w'.cell? ⟨(ad167.add ((x9_3).toNat * 4)).block, (ad167.add ((x9_3).toNat * 4)).off + 2, none⟩ = some (.int .i64 ((rd_T53 l0_1 x9_3).f2)) ∧ w'.cell? ⟨(ad167.add ((x9_3).toNat * 4)).block, (ad167.add ((x9_3).toNat * 4)).off + 3, none⟩ = some (.bool ((rd_T53 l0_1 x9_3).f3)) ∧ w'.cell? (ad167.add ((x9_3).toNat * 4)) = some (.int .i64 ((rd_T53 l0_1 x9_3).f0)) ∧ w'.cell? ⟨(ad167.add ((x9_3).toNat * 4)).block, (ad167.add ((x9_3).toNat * 4)).off + 1, none⟩ = some (.int .i64 ((rd_T53 l0_1 x9_3).f1)) ∧ w'.cell? ⟨(ad167.add ((x9_3).toNat * 4)).block, (ad167.add ((x9_3).toNat * 4)).off + 2, none⟩ = some (.int .i64 ((rd_T53 l0_1 x9_3).f2)) ∧ w'.cell? ⟨(ad167.add ((x9_3).toNat * 4)).block, (ad167.add ((x9_3).toNat * 4)).off + 3, none⟩ = some (.bool ((rd_T53 l0_1 x9_3).f3))) (ds := []) (rb5 [0, 22]) (by kernel_rfl) rfl rfl ⟨(qg0 BK156.out 0).trans rfl, (qg0 BK156.out 1).trans rfl, ((HB.out.cell (World.block_lt_of_cell? w _ hw167_0)).trans hw167_0), ((HB.out.cell (World.block_lt_of_cell? w _ hw167_1)).trans hw167_1), ((HB.out.cell (World.block_lt_of_cell? w _ hw167_2)).trans hw167_2), ((HB.out.cell (World.block_lt_of_cell? w _ hw167_3)).trans hw167_3), ((HB.out.cell (World.block_lt_of_cell? w _ hw169_0)).trans hw169_0), ((HB.out.cell (World.block_lt_of_cell? w _ hw169_1)).trans hw169_1), ((HB.out.cell (World.block_lt_of_cell? w _ hw169_2)).trans hw169_2), ((HB.out.cell (World.block_lt_of_cell? w _ hw169_3)).trans hw169_3)⟩ (fun hHeld => ?_); refine qf1 spec_RegisterOk.tab27 spec_RegisterOk.bits27 (fun HT_ HW_ => ?_)
          generalize wr.drew = w62 at BK156 HB hx167_0 hx167_1 hx167_2 hx167_3 hx169_0 hx169_1 hx169_2 hx169_3 hHeld ⊢
          refine pure_ (i := 0) (N := some 112) (v := ?_) (a' := ?_) (rb5 [1, 21]) rfl rfl (qj0 HT_.out (by kernel_rfl)) (fun _ _ _ h => h) (Or.inl ⟨by rfl, ?_⟩) ?_ ?_
          rotate_left
          ·intro w'
           go_simp
           with_reducible rfl
          rotate_left
          ·simp only [Act.put, List.setIfInBounds_toArray, List.set_cons_zero, List.set_cons_succ, i64_w, i32_w]
           rfl
          refine pure_ (i := 2) (N := some 114) (v := ?_) (a' := ?_) (rb5 [1, 1, 1, 19]) rfl rfl (qj0 HT_.out (by kernel_rfl)) (fun _ _ _ h => h) (Or.inl ⟨by rfl, ?_⟩) ?_ ?_
          rotate_left
          ·intro w'
           go_simp
           with_reducible rfl
          rotate_left
          ·simp only [Act.put, List.setIfInBounds_toArray, List.set_cons_zero, List.set_cons_succ, i64_w, i32_w]
           rfl
          refine pure_ (i := 6) (N := some 118) (v := ?_) (a' := ?_) (rb5 [1, 1, 1, 3, 1, 15]) rfl rfl (qj0 HT_.out (by kernel_rfl)) (fun _ _ _ h => h) (Or.inl ⟨by rfl, ?_⟩) ?_ ?_
          rotate_left
          ·intro w'
           go_simp
           with_reducible rfl
          rotate_left
          ·simp only [Act.put, List.setIfInBounds_toArray, List.set_cons_zero, List.set_cons_succ, i64_w, i32_w]
           rfl
          refine take_ (i := 1) (N := some 113) (v := ?_) (a' := ?_) (rb5 [3, 3, 1, 15]) rfl rfl (qo0 HT_.out HW_.out (by kernel_rfl)) (fun _ _ _ h => h) (Or.inl ⟨by rfl, ?_⟩) hHeld ?_ ?_
          rotate_left
          ·rintro w' ⟨s0, s1, s2, s3, s4, s5, s6, s7, s8, s9⟩
           go_simp
           with_reducible rfl
          rotate_left
          ·simp only [Act.put, List.setIfInBounds_toArray, List.set_cons_zero, List.set_cons_succ, i64_w, i32_w]
           rfl
          refine pure_ (i := 3) (N := some 115) (v := ?_) (a' := ?_) (rb5 [4, 2, 1, 15]) rfl rfl (qj0 HT_.out (by kernel_rfl)) (fun _ _ _ h => h) (Or.inl ⟨by rfl, ?_⟩) ?_ ?_
          rotate_left
          ·intro w'
           go_simp
           with_reducible rfl
          rotate_left
          ·simp only [Act.put, List.setIfInBounds_toArray, List.set_cons_zero, List.set_cons_succ, i64_w, i32_w]
           rfl
          refine pure_ (i := 4) (N := some 116) (v := ?_) (a' := ?_) (rb5 [5, 1, 1, 15]) rfl rfl (qj0 HT_.out (by kernel_rfl)) (fun _ _ _ h => h) (Or.inl ⟨by rfl, ?_⟩) ?_ ?_
          rotate_left
          ·intro w'
           go_simp
           with_reducible rfl
          rotate_left
          ·simp only [Act.put, List.setIfInBounds_toArray, List.set_cons_zero, List.set_cons_succ, i64_w, i32_w]
           rfl
          refine take_ (i := 5) (N := some 117) (v := ?_) (a' := ?_) (rb5 [7, 15]) rfl rfl (qo0 HT_.out HW_.out (by kernel_rfl)) (fun _ _ _ h => h) (Or.inl ⟨by rfl, ?_⟩) hHeld ?_ ?_
          rotate_left
          ·rintro w' ⟨s0, s1, s2, s3, s4, s5, s6, s7, s8, s9⟩
           go_simp
           with_reducible rfl
          rotate_left
          ·simp only [Act.put, List.setIfInBounds_toArray, List.set_cons_zero, List.set_cons_succ, i64_w, i32_w]
           rfl
          refine take_ (i := 7) (N := some 119) (v := ?_) (a' := ?_) (rb5 [8, 14]) rfl rfl (qo0 HT_.out HW_.out (by kernel_rfl)) (fun _ _ _ h => h) (Or.inl ⟨by rfl, ?_⟩) hHeld ?_ ?_
          rotate_left
          ·rintro w' ⟨s0, s1, s2, s3, s4, s5, s6, s7, s8, s9⟩
           go_simp
           with_reducible rfl
          rotate_left
          ·simp only [Act.put, List.setIfInBounds_toArray, List.set_cons_zero, List.set_cons_succ, i64_w, i32_w]
           rfl
          refine pure_ (i := 8) (N := some 120) (v := ?_) (a' := ?_) (rb5 [9, 13]) rfl rfl (qj0 HT_.out (by kernel_rfl)) (fun _ _ _ h => h) (Or.inl ⟨by rfl, ?_⟩) ?_ ?_
          rotate_left
          ·intro w'
           go_simp
           with_reducible rfl
          rotate_left
          ·simp only [Act.put, List.setIfInBounds_toArray, List.set_cons_zero, List.set_cons_succ, i64_w, i32_w]
           rfl
          refine pure_ (i := 9) (N := some 121) (v := ?_) (a' := ?_) (rb5 [10, 12]) rfl rfl (qj0 HT_.out (by kernel_rfl)) (fun _ _ _ h => h) (Or.inl ⟨by rfl, ?_⟩) ?_ ?_
          rotate_left
          ·intro w'
           go_simp
           with_reducible rfl
          rotate_left
          ·simp only [Act.put, List.setIfInBounds_toArray, List.set_cons_zero, List.set_cons_succ, i64_w, i32_w]
           rfl
          refine one_ (i := 10) (N := some 122) (rb5 [11, 11]) rfl rfl (qn1 HT_.out (by kernel_rfl)) (by decide) (fun K hK => ?_)
          refine goes_ Try.func76 (by kernel_rfl) rfl #[.int .i64 ((rd_T53 l0_1 x9_3).f0), .int .i64 0, .int .i64 (wrap64 ((l0_0.length : Int) - 1))] (by rfl) rfl rfl (by (try simp only [List.map_toArray, List.map_cons, List.map_nil]); first | done | rfl | (simp only [List.length_drop, List.length_take]; rfl)) ?_
          with_reducible refine (spec_l1In.calls ((rd_T53 l0_1 x9_3).f0) 0 (wrap64 ((l0_0.length : Int) - 1)) true _ A57.out).mono ?_
          rintro e w' ⟨rfl, ⟨nd, rfl⟩⟩
          refine ⟨_, rfl, ?_⟩
          refine hK.out _ _ ⟨(qg0 BK156.out 0).trans rfl, (qg0 BK156.out 1).trans rfl, ((HB.out.cell (World.block_lt_of_cell? w _ hw167_0)).trans hw167_0), ((HB.out.cell (World.block_lt_of_cell? w _ hw167_1)).trans hw167_1), ((HB.out.cell (World.block_lt_of_cell? w _ hw167_2)).trans hw167_2), ((HB.out.cell (World.block_lt_of_cell? w _ hw167_3)).trans hw167_3), ((HB.out.cell (World.block_lt_of_cell? w _ hw169_0)).trans hw169_0), ((HB.out.cell (World.block_lt_of_cell? w _ hw169_1)).trans hw169_1), ((HB.out.cell (World.block_lt_of_cell? w _ hw169_2)).trans hw169_2), ((HB.out.cell (World.block_lt_of_cell? w _ hw169_3)).trans hw169_3)⟩ (fun hHeld => ?_)
          clear hK K
          refine norm_ (a' := ?_) ?_ ?_
          rotate_left
          ·show Act.put _ (some 122) _ = _
           simp only [Act.put, List.setIfInBounds_toArray, List.set_cons_zero, List.set_cons_succ, i64_w, i32_w]
           rfl
          refine pure_ (i := 11) (N := some 123) (v := ?_) (a' := ?_) (rb5 [12, 10]) rfl rfl (qj0 HT_.out (by kernel_rfl)) (fun _ _ _ h => h) (Or.inl ⟨by rfl, ?_⟩) ?_ ?_
          rotate_left
          ·intro w'
           go_simp
           with_reducible rfl
          rotate_left
          ·simp only [Act.put, List.setIfInBounds_toArray, List.set_cons_zero, List.set_cons_succ, i64_w, i32_w]
           rfl
          refine pure_ (i := 12) (N := some 124) (v := ?_) (a' := ?_) (rb5 [13, 9]) rfl rfl (qj0 HT_.out (by kernel_rfl)) (fun _ _ _ h => h) (Or.inl ⟨by rfl, ?_⟩) ?_ ?_
          rotate_left
          ·intro w'
           go_simp
           with_reducible rfl
          rotate_left
          ·simp only [Act.put, List.setIfInBounds_toArray, List.set_cons_zero, List.set_cons_succ, i64_w, i32_w]
           rfl
          refine pure_ (i := 13) (N := some 125) (v := ?_) (a' := ?_) (rb5 [14, 8]) rfl rfl (qj0 HT_.out (by kernel_rfl)) (fun _ _ _ h => h) (Or.inl ⟨by rfl, ?_⟩) ?_ ?_
          rotate_left
          ·intro w'
           go_simp
           with_reducible rfl
          rotate_left
          ·simp only [Act.put, List.setIfInBounds_toArray, List.set_cons_zero, List.set_cons_succ, i64_w, i32_w]
           rfl
          refine pure_ (i := 15) (N := some 127) (v := ?_) (a' := ?_) (rb5 [14, 1, 1, 6]) rfl rfl (qj0 HT_.out (by kernel_rfl)) (fun _ _ _ h => h) (Or.inl ⟨by rfl, ?_⟩) ?_ ?_
          rotate_left
          ·intro w'
           go_simp
           with_reducible rfl
          rotate_left
          ·simp only [Act.put, List.setIfInBounds_toArray, List.set_cons_zero, List.set_cons_succ, i64_w, i32_w]
           rfl
          refine take_ (i := 14) (N := some 126) (v := ?_) (a' := ?_) (rb5 [16, 6]) rfl rfl (qo0 HT_.out HW_.out (by kernel_rfl)) (fun _ _ _ h => h) (Or.inl ⟨by rfl, ?_⟩) hHeld ?_ ?_
          rotate_left
          ·rintro w' ⟨s0, s1, s2, s3, s4, s5, s6, s7, s8, s9⟩
           go_simp
           with_reducible rfl
          rotate_left
          ·simp only [Act.put, List.setIfInBounds_toArray, List.set_cons_zero, List.set_cons_succ, i64_w, i32_w]
           rfl
          refine pure_ (i := 16) (N := some 128) (v := ?_) (a' := ?_) (rb5 [17, 5]) rfl rfl (qj0 HT_.out (by kernel_rfl)) (fun _ _ _ h => h) (Or.inl ⟨by rfl, ?_⟩) ?_ ?_
          rotate_left
          ·intro w'
           go_simp
           with_reducible rfl
          rotate_left
          ·simp only [Act.put, List.setIfInBounds_toArray, List.set_cons_zero, List.set_cons_succ, i64_w, i32_w]
           rfl
          refine pure_ (i := 17) (N := some 129) (v := ?_) (a' := ?_) (rb5 [18, 4]) rfl rfl (qj0 HT_.out (by kernel_rfl)) (fun _ _ _ h => h) (Or.inl ⟨by rfl, ?_⟩) ?_ ?_
          rotate_left
          ·intro w'
           go_simp
           with_reducible rfl
          rotate_left
          ·simp only [Act.put, List.setIfInBounds_toArray, List.set_cons_zero, List.set_cons_succ, i64_w, i32_w]
           rfl
          refine take_ (i := 18) (N := some 130) (v := ?_) (a' := ?_) (rb5 [19, 3]) rfl rfl (qo0 HT_.out HW_.out (by kernel_rfl)) (fun _ _ _ h => h) (Or.inl ⟨by rfl, ?_⟩) hHeld ?_ ?_
          rotate_left
          ·rintro w' ⟨s0, s1, s2, s3, s4, s5, s6, s7, s8, s9⟩
           go_simp
           with_reducible rfl
          rotate_left
          ·simp only [Act.put, List.setIfInBounds_toArray, List.set_cons_zero, List.set_cons_succ, i64_w, i32_w]
           rfl
          refine one_ (i := 19) (N := some 131) (rb5 [20, 2]) rfl rfl (qn1 HT_.out (by kernel_rfl)) (by decide) (fun K hK => ?_)
          refine goes_ Try.func83 (by kernel_rfl) rfl #[.int .i64 ((rd_T53 l0_1 x9_3).f2)] (by rfl) rfl rfl (by (try simp only [List.map_toArray, List.map_cons, List.map_nil]); first | done | rfl | (simp only [List.length_drop, List.length_take]; rfl)) ?_
          with_reducible refine (spec_l2Day.calls ((rd_T53 l0_1 x9_3).f2) true _ A59.out).mono ?_
          rintro e w' ⟨rfl, ⟨nd, rfl⟩⟩
          refine ⟨_, rfl, ?_⟩
          refine hK.out _ _ ⟨(qg0 BK156.out 0).trans rfl, (qg0 BK156.out 1).trans rfl, ((HB.out.cell (World.block_lt_of_cell? w _ hw167_0)).trans hw167_0), ((HB.out.cell (World.block_lt_of_cell? w _ hw167_1)).trans hw167_1), ((HB.out.cell (World.block_lt_of_cell? w _ hw167_2)).trans hw167_2), ((HB.out.cell (World.block_lt_of_cell? w _ hw167_3)).trans hw167_3), ((HB.out.cell (World.block_lt_of_cell? w _ hw169_0)).trans hw169_0), ((HB.out.cell (World.block_lt_of_cell? w _ hw169_1)).trans hw169_1), ((HB.out.cell (World.block_lt_of_cell? w _ hw169_2)).trans hw169_2), ((HB.out.cell (World.block_lt_of_cell? w _ hw169_3)).trans hw169_3)⟩ (fun hHeld => ?_)
          clear hK K
          refine norm_ (a' := ?_) ?_ ?_
          rotate_left
          ·show Act.put _ (some 131) _ = _
           simp only [Act.put, List.setIfInBounds_toArray, List.set_cons_zero, List.set_cons_succ, i64_w, i32_w]
           rfl
          refine pure_ (i := 20) (N := some 132) (v := ?_) (a' := ?_) (rb5 [21, 1]) rfl rfl (qj0 HT_.out (by kernel_rfl)) (fun _ _ _ h => h) (Or.inl ⟨by rfl, ?_⟩) ?_ ?_
          rotate_left
          ·intro w'
           go_simp
           with_reducible rfl
          rotate_left
          ·simp only [Act.put, List.setIfInBounds_toArray, List.set_cons_zero, List.set_cons_succ, i64_w, i32_w]
           rfl
          refine pure_ (i := 21) (N := some 133) (v := ?_) (a' := ?_) (rb5 [22]) rfl rfl (qj0 HT_.out (by kernel_rfl)) (fun _ _ _ h => h) (Or.inl ⟨by rfl, ?_⟩) ?_ ?_
          rotate_left
          ·intro w'
           go_simp
           with_reducible rfl
          rotate_left
          ·simp only [Act.put, List.setIfInBounds_toArray, List.set_cons_zero, List.set_cons_succ, i64_w, i32_w]
           rfl
          refine done_ (ql1 HT_.out (by kernel_rfl)) ?_
          try go_wp2
          go_roundg k3
          case measure => have := HJ1.out; have := HK2.out; have := HK3.out; omega
          case rel => exact ⟨(wrap64 (x9_3 + 1)), (by first | rfl | (simp; done) | (simp [*]; done)), H', ⟨by have := HJ1.out; have := HK2.out; have := HK3.out; omega⟩, ⟨by (with_reducible repeat (first | refine qd0 ?_ _ | refine qh0 ?_ | refine qe0 ?_ _)); exact BK156.out⟩, ⟨by repeat (first | (with_reducible first | exact HB.out | apply qc0 | apply qa0 | apply qb0 | refine qf0 ?_ GE156.out) | exact HB.out)⟩⟩
         replace c60 := Bool.eq_false_iff.mpr c60
         subst c60
         have H1 : (some false) = some r := by rw [if_neg (show ¬ (false = true) by decide)] at H; exact H
         clear H
         have H := H1
         clear H1
         obtain rfl := Option.some.inj H
         have hcz63_0 : wr.cell? ⟨gb156, 0, none⟩ = some (.slice A0_0 l0_0.length c0_0) := (qg0 BK156.out 0).trans rfl
         have hcz63_1 : wr.cell? ⟨gb156, 1, none⟩ = some (.slice A0_1 l0_1.length c0_1) := (qg0 BK156.out 1).trans rfl
         have hfz63_0 := qi0 BK156.out 0
         have hfz63_1 := qi0 BK156.out 1
         try go_wp2
         have n0_ := Aside0.mk (qh0 BK156.out)
         have n1_ := Aside0.mk (qb0 HB.out)
         clear BK156
         clear HB
         have BK156 := n0_
         have HB := n1_
         clear n0_ n1_
         have p167 : 0 ≤ (x9_3 : Int) := of_decide_eq_true (by first | (with_reducible assumption) | assumption)
         have q167 : x9_3 < (l0_1.length : Int) := of_decide_eq_true (by first | (with_reducible assumption) | assumption)
         obtain ⟨ad167, e167, hx167_0, hx167_1, hx167_2, hx167_3⟩ := at_T53 HR0_1.out x9_3 p167 q167
         have hw167_3 := hx167_3
         have hw167_2 := hx167_2
         have hw167_1 := hx167_1
         have hw167_0 := hx167_0
         cases e167
         replace hx167_0 := (HB.out.cell (World.block_lt_of_cell? w _ hx167_0)).trans hx167_0
         replace hx167_1 := (HB.out.cell (World.block_lt_of_cell? w _ hx167_1)).trans hx167_1
         replace hx167_2 := (HB.out.cell (World.block_lt_of_cell? w _ hx167_2)).trans hx167_2
         replace hx167_3 := (HB.out.cell (World.block_lt_of_cell? w _ hx167_3)).trans hx167_3
         replace p167 := eq_true p167
         replace q167 := eq_true q167
         have p169 : 0 ≤ (x9_3 : Int) := of_decide_eq_true (by first | (with_reducible assumption) | assumption)
         have q169 : x9_3 < (l0_1.length : Int) := of_decide_eq_true (by first | (with_reducible assumption) | assumption)
         obtain ⟨ad169, e169, hx169_0, hx169_1, hx169_2, hx169_3⟩ := at_T53 HR0_1.out x9_3 p169 q169
         have hw169_3 := hx169_3
         have hw169_2 := hx169_2
         have hw169_1 := hx169_1
         have hw169_0 := hx169_0
         obtain rfl : ad167 = ad169 := (by injection e169)
         replace hx169_0 := (HB.out.cell (World.block_lt_of_cell? w _ hx169_0)).trans hx169_0
         replace hx169_1 := (HB.out.cell (World.block_lt_of_cell? w _ hx169_1)).trans hx169_1
         replace hx169_2 := (HB.out.cell (World.block_lt_of_cell? w _ hx169_2)).trans hx169_2
         replace hx169_3 := (HB.out.cell (World.block_lt_of_cell? w _ hx169_3)).trans hx169_3
         replace p169 := eq_true p169
         replace q169 := eq_true q169
         refine qo1 (n := 22) (S := fun w' => w'.cell? ⟨gb156, 0, none⟩ = some (.slice A0_0 l0_0.length c0_0) ∧ w'.cell? ⟨gb156, 1, none⟩ = some (.slice (some ad167) l0_1.length c0_1) ∧ w'.cell? (ad167.add ((x9_3).toNat * 4)) = some (.int .i64 ((rd_T53 l0_1 x9_3).f0)) ∧ w'.cell? ⟨(ad167.add ((x9_3).toNat * 4)).block, (ad167.add ((x9_3).toNat * 4)).off + 1, none⟩ = some (.int .i64 ((rd_T53 l0_1 x9_3).f1)) ∧ w'.cell? ⟨(ad167.add ((x9_3).toNat * 4)).block, (ad167.add ((x9_3).toNat * 4)).off + 2, none⟩ = some (.int .i64 ((rd_T53 l0_1 x9_3).f2)) ∧ w'.cell? ⟨(ad167.add ((x9_3).toNat * 4)).block, (ad167.add ((x9_3).toNat * 4)).off + 3, none⟩ = some (.bool ((rd_T53 l0_1 x9_3).f3)) ∧ w'.cell? (ad167.add ((x9_3).toNat * 4)) = some (.int .i64 ((rd_T53 l0_1 x9_3).f0)) ∧ w'.cell? ⟨(ad167.add ((x9_3).toNat * 4)).block, (ad167.add ((x9_3).toNat * 4)).off + 1, none⟩ = some (.int .i64 ((rd_T53 l0_1 x9_3).f1)) ∧ w'.cell? ⟨(ad167.add ((x9_3).toNat * 4)).block, (ad167.add ((x9_3).toNat * 4)).off + 2, none⟩ = some (.int .i64 ((rd_T53 l0_1 x9_3).f2)) ∧ w'.cell? ⟨(ad167.add ((x9_3).toNat * 4)).block, (ad167.add ((x9_3).toNat * 4)).off + 3, none⟩ = some (.bool ((rd_T53 l0_1 x9_3).f3))) (ds := []) (rb5 [0, 22]) (by kernel_rfl) rfl rfl ⟨(qg0 BK156.out 0).trans rfl, (qg0 BK156.out 1).trans rfl, ((HB.out.cell (World.block_lt_of_cell? w _ hw167_0)).trans hw167_0), ((HB.out.cell (World.block_lt_of_cell? w _ hw167_1)).trans hw167_1), ((HB.out.cell (World.block_lt_of_cell? w _ hw167_2)).trans hw167_2), ((HB.out.cell (World.block_lt_of_cell? w _ hw167_3)).trans hw167_3), ((HB.out.cell (World.block_lt_of_cell? w _ hw169_0)).trans hw169_0), ((HB.out.cell (World.block_lt_of_cell? w _ hw169_1)).trans hw169_1), ((HB.out.cell (World.block_lt_of_cell? w _ hw169_2)).trans hw169_2), ((HB.out.cell (World.block_lt_of_cell? w _ hw169_3)).trans hw169_3)⟩ (fun hHeld => ?_); refine qf1 spec_RegisterOk.tab27 spec_RegisterOk.bits27 (fun HT_ HW_ => ?_)
         generalize wr.drew = w64 at BK156 HB hx167_0 hx167_1 hx167_2 hx167_3 hx169_0 hx169_1 hx169_2 hx169_3 hHeld ⊢
         refine pure_ (i := 0) (N := some 112) (v := ?_) (a' := ?_) (rb5 [1, 21]) rfl rfl (qj0 HT_.out (by kernel_rfl)) (fun _ _ _ h => h) (Or.inl ⟨by rfl, ?_⟩) ?_ ?_
         rotate_left
         ·intro w'
          go_simp
          with_reducible rfl
         rotate_left
         ·simp only [Act.put, List.setIfInBounds_toArray, List.set_cons_zero, List.set_cons_succ, i64_w, i32_w]
          rfl
         refine pure_ (i := 2) (N := some 114) (v := ?_) (a' := ?_) (rb5 [1, 1, 1, 19]) rfl rfl (qj0 HT_.out (by kernel_rfl)) (fun _ _ _ h => h) (Or.inl ⟨by rfl, ?_⟩) ?_ ?_
         rotate_left
         ·intro w'
          go_simp
          with_reducible rfl
         rotate_left
         ·simp only [Act.put, List.setIfInBounds_toArray, List.set_cons_zero, List.set_cons_succ, i64_w, i32_w]
          rfl
         refine pure_ (i := 6) (N := some 118) (v := ?_) (a' := ?_) (rb5 [1, 1, 1, 3, 1, 15]) rfl rfl (qj0 HT_.out (by kernel_rfl)) (fun _ _ _ h => h) (Or.inl ⟨by rfl, ?_⟩) ?_ ?_
         rotate_left
         ·intro w'
          go_simp
          with_reducible rfl
         rotate_left
         ·simp only [Act.put, List.setIfInBounds_toArray, List.set_cons_zero, List.set_cons_succ, i64_w, i32_w]
          rfl
         refine take_ (i := 1) (N := some 113) (v := ?_) (a' := ?_) (rb5 [3, 3, 1, 15]) rfl rfl (qo0 HT_.out HW_.out (by kernel_rfl)) (fun _ _ _ h => h) (Or.inl ⟨by rfl, ?_⟩) hHeld ?_ ?_
         rotate_left
         ·rintro w' ⟨s0, s1, s2, s3, s4, s5, s6, s7, s8, s9⟩
          go_simp
          with_reducible rfl
         rotate_left
         ·simp only [Act.put, List.setIfInBounds_toArray, List.set_cons_zero, List.set_cons_succ, i64_w, i32_w]
          rfl
         refine pure_ (i := 3) (N := some 115) (v := ?_) (a' := ?_) (rb5 [4, 2, 1, 15]) rfl rfl (qj0 HT_.out (by kernel_rfl)) (fun _ _ _ h => h) (Or.inl ⟨by rfl, ?_⟩) ?_ ?_
         rotate_left
         ·intro w'
          go_simp
          with_reducible rfl
         rotate_left
         ·simp only [Act.put, List.setIfInBounds_toArray, List.set_cons_zero, List.set_cons_succ, i64_w, i32_w]
          rfl
         refine pure_ (i := 4) (N := some 116) (v := ?_) (a' := ?_) (rb5 [5, 1, 1, 15]) rfl rfl (qj0 HT_.out (by kernel_rfl)) (fun _ _ _ h => h) (Or.inl ⟨by rfl, ?_⟩) ?_ ?_
         rotate_left
         ·intro w'
          go_simp
          with_reducible rfl
         rotate_left
         ·simp only [Act.put, List.setIfInBounds_toArray, List.set_cons_zero, List.set_cons_succ, i64_w, i32_w]
          rfl
         refine take_ (i := 5) (N := some 117) (v := ?_) (a' := ?_) (rb5 [7, 15]) rfl rfl (qo0 HT_.out HW_.out (by kernel_rfl)) (fun _ _ _ h => h) (Or.inl ⟨by rfl, ?_⟩) hHeld ?_ ?_
         rotate_left
         ·rintro w' ⟨s0, s1, s2, s3, s4, s5, s6, s7, s8, s9⟩
          go_simp
          with_reducible rfl
         rotate_left
         ·simp only [Act.put, List.setIfInBounds_toArray, List.set_cons_zero, List.set_cons_succ, i64_w, i32_w]
          rfl
         refine take_ (i := 7) (N := some 119) (v := ?_) (a' := ?_) (rb5 [8, 14]) rfl rfl (qo0 HT_.out HW_.out (by kernel_rfl)) (fun _ _ _ h => h) (Or.inl ⟨by rfl, ?_⟩) hHeld ?_ ?_
         rotate_left
         ·rintro w' ⟨s0, s1, s2, s3, s4, s5, s6, s7, s8, s9⟩
          go_simp
          with_reducible rfl
         rotate_left
         ·simp only [Act.put, List.setIfInBounds_toArray, List.set_cons_zero, List.set_cons_succ, i64_w, i32_w]
          rfl
         refine pure_ (i := 8) (N := some 120) (v := ?_) (a' := ?_) (rb5 [9, 13]) rfl rfl (qj0 HT_.out (by kernel_rfl)) (fun _ _ _ h => h) (Or.inl ⟨by rfl, ?_⟩) ?_ ?_
         rotate_left
         ·intro w'
          go_simp
          with_reducible rfl
         rotate_left
         ·simp only [Act.put, List.setIfInBounds_toArray, List.set_cons_zero, List.set_cons_succ, i64_w, i32_w]
          rfl
         refine pure_ (i := 9) (N := some 121) (v := ?_) (a' := ?_) (rb5 [10, 12]) rfl rfl (qj0 HT_.out (by kernel_rfl)) (fun _ _ _ h => h) (Or.inl ⟨by rfl, ?_⟩) ?_ ?_
         rotate_left
         ·intro w'
          go_simp
          with_reducible rfl
         rotate_left
         ·simp only [Act.put, List.setIfInBounds_toArray, List.set_cons_zero, List.set_cons_succ, i64_w, i32_w]
          rfl
         refine one_ (i := 10) (N := some 122) (rb5 [11, 11]) rfl rfl (qn1 HT_.out (by kernel_rfl)) (by decide) (fun K hK => ?_)
         refine goes_ Try.func76 (by kernel_rfl) rfl #[.int .i64 ((rd_T53 l0_1 x9_3).f0), .int .i64 0, .int .i64 (wrap64 ((l0_0.length : Int) - 1))] (by rfl) rfl rfl (by (try simp only [List.map_toArray, List.map_cons, List.map_nil]); first | done | rfl | (simp only [List.length_drop, List.length_take]; rfl)) ?_
         with_reducible refine (spec_l1In.calls ((rd_T53 l0_1 x9_3).f0) 0 (wrap64 ((l0_0.length : Int) - 1)) true _ A57.out).mono ?_
         rintro e w' ⟨rfl, ⟨nd, rfl⟩⟩
         refine ⟨_, rfl, ?_⟩
         refine hK.out _ _ ⟨(qg0 BK156.out 0).trans rfl, (qg0 BK156.out 1).trans rfl, ((HB.out.cell (World.block_lt_of_cell? w _ hw167_0)).trans hw167_0), ((HB.out.cell (World.block_lt_of_cell? w _ hw167_1)).trans hw167_1), ((HB.out.cell (World.block_lt_of_cell? w _ hw167_2)).trans hw167_2), ((HB.out.cell (World.block_lt_of_cell? w _ hw167_3)).trans hw167_3), ((HB.out.cell (World.block_lt_of_cell? w _ hw169_0)).trans hw169_0), ((HB.out.cell (World.block_lt_of_cell? w _ hw169_1)).trans hw169_1), ((HB.out.cell (World.block_lt_of_cell? w _ hw169_2)).trans hw169_2), ((HB.out.cell (World.block_lt_of_cell? w _ hw169_3)).trans hw169_3)⟩ (fun hHeld => ?_)
         clear hK K
         refine norm_ (a' := ?_) ?_ ?_
         rotate_left
         ·show Act.put _ (some 122) _ = _
          simp only [Act.put, List.setIfInBounds_toArray, List.set_cons_zero, List.set_cons_succ, i64_w, i32_w]
          rfl
         refine pure_ (i := 11) (N := some 123) (v := ?_) (a' := ?_) (rb5 [12, 10]) rfl rfl (qj0 HT_.out (by kernel_rfl)) (fun _ _ _ h => h) (Or.inl ⟨by rfl, ?_⟩) ?_ ?_
         rotate_left
         ·intro w'
          go_simp
          with_reducible rfl
         rotate_left
         ·simp only [Act.put, List.setIfInBounds_toArray, List.set_cons_zero, List.set_cons_succ, i64_w, i32_w]
          rfl
         refine pure_ (i := 12) (N := some 124) (v := ?_) (a' := ?_) (rb5 [13, 9]) rfl rfl (qj0 HT_.out (by kernel_rfl)) (fun _ _ _ h => h) (Or.inl ⟨by rfl, ?_⟩) ?_ ?_
         rotate_left
         ·intro w'
          go_simp
          with_reducible rfl
         rotate_left
         ·simp only [Act.put, List.setIfInBounds_toArray, List.set_cons_zero, List.set_cons_succ, i64_w, i32_w]
          rfl
         refine pure_ (i := 13) (N := some 125) (v := ?_) (a' := ?_) (rb5 [14, 8]) rfl rfl (qj0 HT_.out (by kernel_rfl)) (fun _ _ _ h => h) (Or.inl ⟨by rfl, ?_⟩) ?_ ?_
         rotate_left
         ·intro w'
          go_simp
          with_reducible rfl
         rotate_left
         ·simp only [Act.put, List.setIfInBounds_toArray, List.set_cons_zero, List.set_cons_succ, i64_w, i32_w]
          rfl
         refine pure_ (i := 15) (N := some 127) (v := ?_) (a' := ?_) (rb5 [14, 1, 1, 6]) rfl rfl (qj0 HT_.out (by kernel_rfl)) (fun _ _ _ h => h) (Or.inl ⟨by rfl, ?_⟩) ?_ ?_
         rotate_left
         ·intro w'
          go_simp
          with_reducible rfl
         rotate_left
         ·simp only [Act.put, List.setIfInBounds_toArray, List.set_cons_zero, List.set_cons_succ, i64_w, i32_w]
          rfl
         refine take_ (i := 14) (N := some 126) (v := ?_) (a' := ?_) (rb5 [16, 6]) rfl rfl (qo0 HT_.out HW_.out (by kernel_rfl)) (fun _ _ _ h => h) (Or.inl ⟨by rfl, ?_⟩) hHeld ?_ ?_
         rotate_left
         ·rintro w' ⟨s0, s1, s2, s3, s4, s5, s6, s7, s8, s9⟩
          go_simp
          with_reducible rfl
         rotate_left
         ·simp only [Act.put, List.setIfInBounds_toArray, List.set_cons_zero, List.set_cons_succ, i64_w, i32_w]
          rfl
         refine pure_ (i := 16) (N := some 128) (v := ?_) (a' := ?_) (rb5 [17, 5]) rfl rfl (qj0 HT_.out (by kernel_rfl)) (fun _ _ _ h => h) (Or.inl ⟨by rfl, ?_⟩) ?_ ?_
         rotate_left
         ·intro w'
          go_simp
          with_reducible rfl
         rotate_left
         ·simp only [Act.put, List.setIfInBounds_toArray, List.set_cons_zero, List.set_cons_succ, i64_w, i32_w]
          rfl
         refine pure_ (i := 17) (N := some 129) (v := ?_) (a' := ?_) (rb5 [18, 4]) rfl rfl (qj0 HT_.out (by kernel_rfl)) (fun _ _ _ h => h) (Or.inl ⟨by rfl, ?_⟩) ?_ ?_
         rotate_left
         ·intro w'
          go_simp
          with_reducible rfl
         rotate_left
         ·simp only [Act.put, List.setIfInBounds_toArray, List.set_cons_zero, List.set_cons_succ, i64_w, i32_w]
          rfl
         refine take_ (i := 18) (N := some 130) (v := ?_) (a' := ?_) (rb5 [19, 3]) rfl rfl (qo0 HT_.out HW_.out (by kernel_rfl)) (fun _ _ _ h => h) (Or.inl ⟨by rfl, ?_⟩) hHeld ?_ ?_
         rotate_left
         ·rintro w' ⟨s0, s1, s2, s3, s4, s5, s6, s7, s8, s9⟩
          go_simp
          with_reducible rfl
         rotate_left
         ·simp only [Act.put, List.setIfInBounds_toArray, List.set_cons_zero, List.set_cons_succ, i64_w, i32_w]
          rfl
         refine one_ (i := 19) (N := some 131) (rb5 [20, 2]) rfl rfl (qn1 HT_.out (by kernel_rfl)) (by decide) (fun K hK => ?_)
         refine goes_ Try.func83 (by kernel_rfl) rfl #[.int .i64 ((rd_T53 l0_1 x9_3).f2)] (by rfl) rfl rfl (by (try simp only [List.map_toArray, List.map_cons, List.map_nil]); first | done | rfl | (simp only [List.length_drop, List.length_take]; rfl)) ?_
         with_reducible refine (spec_l2Day.calls ((rd_T53 l0_1 x9_3).f2) false _ A59.out).mono ?_
         rintro e w' ⟨rfl, ⟨nd, rfl⟩⟩
         refine ⟨_, rfl, ?_⟩
         refine hK.out _ _ ⟨(qg0 BK156.out 0).trans rfl, (qg0 BK156.out 1).trans rfl, ((HB.out.cell (World.block_lt_of_cell? w _ hw167_0)).trans hw167_0), ((HB.out.cell (World.block_lt_of_cell? w _ hw167_1)).trans hw167_1), ((HB.out.cell (World.block_lt_of_cell? w _ hw167_2)).trans hw167_2), ((HB.out.cell (World.block_lt_of_cell? w _ hw167_3)).trans hw167_3), ((HB.out.cell (World.block_lt_of_cell? w _ hw169_0)).trans hw169_0), ((HB.out.cell (World.block_lt_of_cell? w _ hw169_1)).trans hw169_1), ((HB.out.cell (World.block_lt_of_cell? w _ hw169_2)).trans hw169_2), ((HB.out.cell (World.block_lt_of_cell? w _ hw169_3)).trans hw169_3)⟩ (fun hHeld => ?_)
         clear hK K
         refine norm_ (a' := ?_) ?_ ?_
         rotate_left
         ·show Act.put _ (some 131) _ = _
          simp only [Act.put, List.setIfInBounds_toArray, List.set_cons_zero, List.set_cons_succ, i64_w, i32_w]
          rfl
         refine pure_ (i := 20) (N := some 132) (v := ?_) (a' := ?_) (rb5 [21, 1]) rfl rfl (qj0 HT_.out (by kernel_rfl)) (fun _ _ _ h => h) (Or.inl ⟨by rfl, ?_⟩) ?_ ?_
         rotate_left
         ·intro w'
          go_simp
          with_reducible rfl
         rotate_left
         ·simp only [Act.put, List.setIfInBounds_toArray, List.set_cons_zero, List.set_cons_succ, i64_w, i32_w]
          rfl
         refine pure_ (i := 21) (N := some 133) (v := ?_) (a' := ?_) (rb5 [22]) rfl rfl (qj0 HT_.out (by kernel_rfl)) (fun _ _ _ h => h) (Or.inl ⟨by rfl, ?_⟩) ?_ ?_
         rotate_left
         ·intro w'
          go_simp
          with_reducible rfl
         rotate_left
         ·simp only [Act.put, List.setIfInBounds_toArray, List.set_cons_zero, List.set_cons_succ, i64_w, i32_w]
          rfl
         refine done_ (ql1 HT_.out (by kernel_rfl)) ?_
         try go_wp2
         go_ret
         exact ⟨by first | rfl | (simp [errW_none, errW_some] <;> rfl) | (simp [*, errW_none, errW_some] <;> rfl), by repeat (first | (with_reducible first | exact HB.out | apply qc0 | apply qa0 | apply qb0 | refine qf0 ?_ GE156.out) | exact HB.out)⟩
        replace c58 := Bool.eq_false_iff.mpr c58
        subst c58
        have H1 : (some false) = some r := by rw [if_neg (show ¬ (false = true) by decide)] at H; exact H
        clear H
        have H := H1
        clear H1
        obtain rfl := Option.some.inj H
        have hcz65_0 : wr.cell? ⟨gb156, 0, none⟩ = some (.slice A0_0 l0_0.length c0_0) := (qg0 BK156.out 0).trans rfl
        have hcz65_1 : wr.cell? ⟨gb156, 1, none⟩ = some (.slice A0_1 l0_1.length c0_1) := (qg0 BK156.out 1).trans rfl
        have hfz65_0 := qi0 BK156.out 0
        have hfz65_1 := qi0 BK156.out 1
        try go_wp2
        have n0_ := Aside0.mk (qh0 BK156.out)
        have n1_ := Aside0.mk (qb0 HB.out)
        clear BK156
        clear HB
        have BK156 := n0_
        have HB := n1_
        clear n0_ n1_
        have p167 : 0 ≤ (x9_3 : Int) := of_decide_eq_true (by first | (with_reducible assumption) | assumption)
        have q167 : x9_3 < (l0_1.length : Int) := of_decide_eq_true (by first | (with_reducible assumption) | assumption)
        obtain ⟨ad167, e167, hx167_0, hx167_1, hx167_2, hx167_3⟩ := at_T53 HR0_1.out x9_3 p167 q167
        have hw167_3 := hx167_3
        have hw167_2 := hx167_2
        have hw167_1 := hx167_1
        have hw167_0 := hx167_0
        cases e167
        replace hx167_0 := (HB.out.cell (World.block_lt_of_cell? w _ hx167_0)).trans hx167_0
        replace hx167_1 := (HB.out.cell (World.block_lt_of_cell? w _ hx167_1)).trans hx167_1
        replace hx167_2 := (HB.out.cell (World.block_lt_of_cell? w _ hx167_2)).trans hx167_2
        replace hx167_3 := (HB.out.cell (World.block_lt_of_cell? w _ hx167_3)).trans hx167_3
        replace p167 := eq_true p167
        replace q167 := eq_true q167
        refine qo1 (n := 22) (S := fun w' => w'.cell? ⟨gb156, 0, none⟩ = some (.slice A0_0 l0_0.length c0_0) ∧ w'.cell? ⟨gb156, 1, none⟩ = some (.slice (some ad167) l0_1.length c0_1) ∧ w'.cell? (ad167.add ((x9_3).toNat * 4)) = some (.int .i64 ((rd_T53 l0_1 x9_3).f0)) ∧ w'.cell? ⟨(ad167.add ((x9_3).toNat * 4)).block, (ad167.add ((x9_3).toNat * 4)).off + 1, none⟩ = some (.int .i64 ((rd_T53 l0_1 x9_3).f1)) ∧ w'.cell? ⟨(ad167.add ((x9_3).toNat * 4)).block, (ad167.add ((x9_3).toNat * 4)).off + 2, none⟩ = some (.int .i64 ((rd_T53 l0_1 x9_3).f2)) ∧ w'.cell? ⟨(ad167.add ((x9_3).toNat * 4)).block, (ad167.add ((x9_3).toNat * 4)).off + 3, none⟩ = some (.bool ((rd_T53 l0_1 x9_3).f3))) (ds := []) (rb5 [0, 22]) (by kernel_rfl) rfl rfl ⟨(qg0 BK156.out 0).trans rfl, (qg0 BK156.out 1).trans rfl, ((HB.out.cell (World.block_lt_of_cell? w _ hw167_0)).trans hw167_0), ((HB.out.cell (World.block_lt_of_cell? w _ hw167_1)).trans hw167_1), ((HB.out.cell (World.block_lt_of_cell? w _ hw167_2)).trans hw167_2), ((HB.out.cell (World.block_lt_of_cell? w _ hw167_3)).trans hw167_3)⟩ (fun hHeld => ?_); refine qf1 spec_RegisterOk.tab27 spec_RegisterOk.bits27 (fun HT_ HW_ => ?_)
        generalize wr.drew = w66 at BK156 HB hx167_0 hx167_1 hx167_2 hx167_3 hHeld ⊢
        refine pure_ (i := 0) (N := some 112) (v := ?_) (a' := ?_) (rb5 [1, 21]) rfl rfl (qj0 HT_.out (by kernel_rfl)) (fun _ _ _ h => h) (Or.inl ⟨by rfl, ?_⟩) ?_ ?_
        rotate_left
        ·intro w'
         go_simp
         with_reducible rfl
        rotate_left
        ·simp only [Act.put, List.setIfInBounds_toArray, List.set_cons_zero, List.set_cons_succ, i64_w, i32_w]
         rfl
        refine pure_ (i := 2) (N := some 114) (v := ?_) (a' := ?_) (rb5 [1, 1, 1, 19]) rfl rfl (qj0 HT_.out (by kernel_rfl)) (fun _ _ _ h => h) (Or.inl ⟨by rfl, ?_⟩) ?_ ?_
        rotate_left
        ·intro w'
         go_simp
         with_reducible rfl
        rotate_left
        ·simp only [Act.put, List.setIfInBounds_toArray, List.set_cons_zero, List.set_cons_succ, i64_w, i32_w]
         rfl
        refine pure_ (i := 6) (N := some 118) (v := ?_) (a' := ?_) (rb5 [1, 1, 1, 3, 1, 15]) rfl rfl (qj0 HT_.out (by kernel_rfl)) (fun _ _ _ h => h) (Or.inl ⟨by rfl, ?_⟩) ?_ ?_
        rotate_left
        ·intro w'
         go_simp
         with_reducible rfl
        rotate_left
        ·simp only [Act.put, List.setIfInBounds_toArray, List.set_cons_zero, List.set_cons_succ, i64_w, i32_w]
         rfl
        refine take_ (i := 1) (N := some 113) (v := ?_) (a' := ?_) (rb5 [3, 3, 1, 15]) rfl rfl (qo0 HT_.out HW_.out (by kernel_rfl)) (fun _ _ _ h => h) (Or.inl ⟨by rfl, ?_⟩) hHeld ?_ ?_
        rotate_left
        ·rintro w' ⟨s0, s1, s2, s3, s4, s5⟩
         go_simp
         with_reducible rfl
        rotate_left
        ·simp only [Act.put, List.setIfInBounds_toArray, List.set_cons_zero, List.set_cons_succ, i64_w, i32_w]
         rfl
        refine pure_ (i := 3) (N := some 115) (v := ?_) (a' := ?_) (rb5 [4, 2, 1, 15]) rfl rfl (qj0 HT_.out (by kernel_rfl)) (fun _ _ _ h => h) (Or.inl ⟨by rfl, ?_⟩) ?_ ?_
        rotate_left
        ·intro w'
         go_simp
         with_reducible rfl
        rotate_left
        ·simp only [Act.put, List.setIfInBounds_toArray, List.set_cons_zero, List.set_cons_succ, i64_w, i32_w]
         rfl
        refine pure_ (i := 4) (N := some 116) (v := ?_) (a' := ?_) (rb5 [5, 1, 1, 15]) rfl rfl (qj0 HT_.out (by kernel_rfl)) (fun _ _ _ h => h) (Or.inl ⟨by rfl, ?_⟩) ?_ ?_
        rotate_left
        ·intro w'
         go_simp
         with_reducible rfl
        rotate_left
        ·simp only [Act.put, List.setIfInBounds_toArray, List.set_cons_zero, List.set_cons_succ, i64_w, i32_w]
         rfl
        refine take_ (i := 5) (N := some 117) (v := ?_) (a' := ?_) (rb5 [7, 15]) rfl rfl (qo0 HT_.out HW_.out (by kernel_rfl)) (fun _ _ _ h => h) (Or.inl ⟨by rfl, ?_⟩) hHeld ?_ ?_
        rotate_left
        ·rintro w' ⟨s0, s1, s2, s3, s4, s5⟩
         go_simp
         with_reducible rfl
        rotate_left
        ·simp only [Act.put, List.setIfInBounds_toArray, List.set_cons_zero, List.set_cons_succ, i64_w, i32_w]
         rfl
        refine take_ (i := 7) (N := some 119) (v := ?_) (a' := ?_) (rb5 [8, 14]) rfl rfl (qo0 HT_.out HW_.out (by kernel_rfl)) (fun _ _ _ h => h) (Or.inl ⟨by rfl, ?_⟩) hHeld ?_ ?_
        rotate_left
        ·rintro w' ⟨s0, s1, s2, s3, s4, s5⟩
         go_simp
         with_reducible rfl
        rotate_left
        ·simp only [Act.put, List.setIfInBounds_toArray, List.set_cons_zero, List.set_cons_succ, i64_w, i32_w]
         rfl
        refine pure_ (i := 8) (N := some 120) (v := ?_) (a' := ?_) (rb5 [9, 13]) rfl rfl (qj0 HT_.out (by kernel_rfl)) (fun _ _ _ h => h) (Or.inl ⟨by rfl, ?_⟩) ?_ ?_
        rotate_left
        ·intro w'
         go_simp
         with_reducible rfl
        rotate_left
        ·simp only [Act.put, List.setIfInBounds_toArray, List.set_cons_zero, List.set_cons_succ, i64_w, i32_w]
         rfl
        refine pure_ (i := 9) (N := some 121) (v := ?_) (a' := ?_) (rb5 [10, 12]) rfl rfl (qj0 HT_.out (by kernel_rfl)) (fun _ _ _ h => h) (Or.inl ⟨by rfl, ?_⟩) ?_ ?_
        rotate_left
        ·intro w'
         go_simp
         with_reducible rfl
        rotate_left
        ·simp only [Act.put, List.setIfInBounds_toArray, List.set_cons_zero, List.set_cons_succ, i64_w, i32_w]
         rfl
        refine one_ (i := 10) (N := some 122) (rb5 [11, 11]) rfl rfl (qn1 HT_.out (by kernel_rfl)) (by decide) (fun K hK => ?_)
        refine goes_ Try.func76 (by kernel_rfl) rfl #[.int .i64 ((rd_T53 l0_1 x9_3).f0), .int .i64 0, .int .i64 (wrap64 ((l0_0.length : Int) - 1))] (by rfl) rfl rfl (by (try simp only [List.map_toArray, List.map_cons, List.map_nil]); first | done | rfl | (simp only [List.length_drop, List.length_take]; rfl)) ?_
        with_reducible refine (spec_l1In.calls ((rd_T53 l0_1 x9_3).f0) 0 (wrap64 ((l0_0.length : Int) - 1)) false _ A57.out).mono ?_
        rintro e w' ⟨rfl, ⟨nd, rfl⟩⟩
        refine ⟨_, rfl, ?_⟩
        refine hK.out _ _ ⟨(qg0 BK156.out 0).trans rfl, (qg0 BK156.out 1).trans rfl, ((HB.out.cell (World.block_lt_of_cell? w _ hw167_0)).trans hw167_0), ((HB.out.cell (World.block_lt_of_cell? w _ hw167_1)).trans hw167_1), ((HB.out.cell (World.block_lt_of_cell? w _ hw167_2)).trans hw167_2), ((HB.out.cell (World.block_lt_of_cell? w _ hw167_3)).trans hw167_3)⟩ (fun hHeld => ?_)
        clear hK K
        refine norm_ (a' := ?_) ?_ ?_
        rotate_left
        ·show Act.put _ (some 122) _ = _
         simp only [Act.put, List.setIfInBounds_toArray, List.set_cons_zero, List.set_cons_succ, i64_w, i32_w]
         rfl
        refine pure_ (i := 11) (N := some 123) (v := ?_) (a' := ?_) (rb5 [12, 10]) rfl rfl (qj0 HT_.out (by kernel_rfl)) (fun _ _ _ h => h) (Or.inl ⟨by rfl, ?_⟩) ?_ ?_
        rotate_left
        ·intro w'
         go_simp
         with_reducible rfl
        rotate_left
        ·simp only [Act.put, List.setIfInBounds_toArray, List.set_cons_zero, List.set_cons_succ, i64_w, i32_w]
         rfl
        refine pure_ (i := 12) (N := some 124) (v := ?_) (a' := ?_) (rb5 [13, 9]) rfl rfl (qj0 HT_.out (by kernel_rfl)) (fun _ _ _ h => h) (Or.inl ⟨by rfl, ?_⟩) ?_ ?_
        rotate_left
        ·intro w'
         go_simp
         with_reducible rfl
        rotate_left
        ·simp only [Act.put, List.setIfInBounds_toArray, List.set_cons_zero, List.set_cons_succ, i64_w, i32_w]
         rfl
        refine pure_ (i := 13) (N := some 125) (v := undef) (a' := ?_) (rb5 [14, 8]) rfl rfl (qj0 HT_.out (by kernel_rfl)) (fun _ _ _ h => h) (Or.inr ⟨by rfl, rfl⟩) ?_ ?_
        rotate_left
        ·simp only [Act.put, List.setIfInBounds_toArray, List.set_cons_zero, List.set_cons_succ, i64_w, i32_w]
         rfl
        refine pure_ (i := 14) (N := some 126) (v := undef) (a' := ?_) (rb5 [15, 7]) rfl rfl (qj0 HT_.out (by kernel_rfl)) (fun _ _ _ h => h) (Or.inr ⟨by rfl, rfl⟩) ?_ ?_
        rotate_left
        ·simp only [Act.put, List.setIfInBounds_toArray, List.set_cons_zero, List.set_cons_succ, i64_w, i32_w]
         rfl
        refine pure_ (i := 15) (N := some 127) (v := undef) (a' := ?_) (rb5 [16, 6]) rfl rfl (qj0 HT_.out (by kernel_rfl)) (fun _ _ _ h => h) (Or.inr ⟨by rfl, rfl⟩) ?_ ?_
        rotate_left
        ·simp only [Act.put, List.setIfInBounds_toArray, List.set_cons_zero, List.set_cons_succ, i64_w, i32_w]
         rfl
        refine pure_ (i := 16) (N := some 128) (v := undef) (a' := ?_) (rb5 [17, 5]) rfl rfl (qj0 HT_.out (by kernel_rfl)) (fun _ _ _ h => h) (Or.inr ⟨by rfl, rfl⟩) ?_ ?_
        rotate_left
        ·simp only [Act.put, List.setIfInBounds_toArray, List.set_cons_zero, List.set_cons_succ, i64_w, i32_w]
         rfl
        refine pure_ (i := 17) (N := some 129) (v := undef) (a' := ?_) (rb5 [18, 4]) rfl rfl (qj0 HT_.out (by kernel_rfl)) (fun _ _ _ h => h) (Or.inr ⟨by rfl, rfl⟩) ?_ ?_
        rotate_left
        ·simp only [Act.put, List.setIfInBounds_toArray, List.set_cons_zero, List.set_cons_succ, i64_w, i32_w]
         rfl
        refine pure_ (i := 18) (N := some 130) (v := undef) (a' := ?_) (rb5 [19, 3]) rfl rfl (qj0 HT_.out (by kernel_rfl)) (fun _ _ _ h => h) (Or.inr ⟨by rfl, rfl⟩) ?_ ?_
        rotate_left
        ·simp only [Act.put, List.setIfInBounds_toArray, List.set_cons_zero, List.set_cons_succ, i64_w, i32_w]
         rfl
        refine pure_ (i := 19) (N := some 131) (v := undef) (a' := ?_) (rb5 [20, 2]) rfl rfl (qj0 HT_.out (by kernel_rfl)) (fun _ _ _ h => h) (Or.inr ⟨by rfl, rfl⟩) ?_ ?_
        rotate_left
        ·simp only [Act.put, List.setIfInBounds_toArray, List.set_cons_zero, List.set_cons_succ, i64_w, i32_w]
         rfl
        refine pure_ (i := 20) (N := some 132) (v := undef) (a' := ?_) (rb5 [21, 1]) rfl rfl (qj0 HT_.out (by kernel_rfl)) (fun _ _ _ h => h) (Or.inr ⟨by rfl, rfl⟩) ?_ ?_
        rotate_left
        ·simp only [Act.put, List.setIfInBounds_toArray, List.set_cons_zero, List.set_cons_succ, i64_w, i32_w]
         rfl
        refine pure_ (i := 21) (N := some 133) (v := ?_) (a' := ?_) (rb5 [22]) rfl rfl (qj0 HT_.out (by kernel_rfl)) (fun _ _ _ h => h) (Or.inl ⟨by rfl, ?_⟩) ?_ ?_
        rotate_left
        ·intro w'
         go_simp
         with_reducible rfl
        rotate_left
        ·simp only [Act.put, List.setIfInBounds_toArray, List.set_cons_zero, List.set_cons_succ, i64_w, i32_w]
         rfl
        refine done_ (ql1 HT_.out (by kernel_rfl)) ?_
        try go_wp2
        go_ret
        exact ⟨by first | rfl | (simp [errW_none, errW_some] <;> rfl) | (simp [*, errW_none, errW_some] <;> rfl), by repeat (first | (with_reducible first | exact HB.out | apply qc0 | apply qa0 | apply qb0 | refine qf0 ?_ GE156.out) | exact HB.out)⟩
       rw [if_neg c55] at H
       have c55b0 : decide (x9_3 < (l0_1.length : Int)) = false := decide_eq_false c55
       clear c55
       obtain rfl := Option.some.inj H
       have hcz67_0 : wr.cell? ⟨gb156, 0, none⟩ = some (.slice A0_0 l0_0.length c0_0) := (qg0 BK156.out 0).trans rfl
       have hcz67_1 : wr.cell? ⟨gb156, 1, none⟩ = some (.slice A0_1 l0_1.length c0_1) := (qg0 BK156.out 1).trans rfl
       have hfz67_0 := qi0 BK156.out 0
       have hfz67_1 := qi0 BK156.out 1
       go_wp2
       go_ret
       exact ⟨by first | rfl | (simp [errW_none, errW_some] <;> rfl) | (simp [*, errW_none, errW_some] <;> rfl), by repeat (first | (with_reducible first | exact HB.out | apply qc0 | apply qa0 | apply qb0 | refine qf0 ?_ GE156.out) | exact HB.out)⟩

end Go.Proofs.Ytdnhpicgjkddbaa.PFnExactFindPaper
