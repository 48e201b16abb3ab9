/- Lines by a program (a changed copy of the kit's print: this repo's wip/tools): Go functions as Lean functions, and proofs that the calls answer so. -/
import Derived.Test.YtdnhpicgjkddbaaZPFnExactFindPaperx0
import Derived.Test.YtdnhpicgjkddbaaZPFnExactFindPaperx6
import Derived.Test.YtdnhpicgjkddbaaZPFnExactFindPaperx7
namespace Go.Proofs.Ytdnhpicgjkddbaa.PFnExactFindPaper
open Go.RowKit Go.Proofs.YtdnhpicgjkddbaaW.PrintWords Go.Proofs.YtdnhpicgjkddbaaW.PrintLast Go.Proofs.YtdnhpicgjkddbaaW.PrintMore
/-- Runs of true and false, by turns. -/
def rb8l : Bool → List Nat → List Bool
 | _, [] => []
 | b, n :: r => List.replicate n b ++ rb8l (!b) r
def rb8 (l : List Nat) : Array Bool := (rb8l true l).toArray
attribute [local go_sem] max2_int min2_int max_two min_two max_three min_three max_four min_four   -- for this text's walks alone
set_option linter.unusedVariables false
set_option linter.unusedSimpArgs false

/-! ### impl_RegisterOk: function 24 -/
mutual
def impl_RegisterOk.j0 : Nat → Bool → List (S122) → List (S53) → Option (Bool)
 | 0, _, _, _ => none
 | k + 1, x19, x193000, x193001 => if x19 = true then (some false) else (impl_RegisterOk.l0 k (([] : List (ByteArray × Bool))) x193000 (x193000.length : Int) 0 x193000 x193001)
def impl_RegisterOk.l0 : Nat → List (ByteArray × Bool) → List (S122) → Int → Int → List (S122) → List (S53) → Option (Bool)
 | 0, _, _, _, _, _, _ => none
 | k + 1, x3, x22, x23, x24, x193000, x193001 => if x24 < x23 then (if 0 ≤ x24 then (if x24 < (x22.length : Int) then ((impl_NameOk.f k ((rd_T122 x22 x24).f0)).bind fun t199 => (if t199 = true then ((impl_between.f ((rd_T122 x22 x24).f1) 1 8).bind fun t200 => (if t200 = true then (if ((rd_T122 x22 x24).f0).size ≤ 9223372036854775807 then (impl_RegisterOk.j2 k x3 x22 x23 x24 ((mget x3 ((rd_T122 x22 x24).f0)).getD false) x193000 x193001 ((rd_T122 x22 x24).f0) ((rd_T122 x22 x24).f1)) else (none)) else (impl_RegisterOk.j2 k x3 x22 x23 x24 true x193000 x193001 ((rd_T122 x22 x24).f0) ((rd_T122 x22 x24).f1)))) else (impl_RegisterOk.j2 k x3 x22 x23 x24 true x193000 x193001 ((rd_T122 x22 x24).f0) ((rd_T122 x22 x24).f1)))) else (none)) else (none)) else (impl_RegisterOk.l1 k (([] : List (Int × Int))) (([] : List (Int × Int))) x193001 (x193001.length : Int) 0 x193000 x193001)
def impl_RegisterOk.j2 : Nat → List (ByteArray × Bool) → List (S122) → Int → Int → Bool → List (S122) → List (S53) → ByteArray → Int → Option (Bool)
 | 0, _, _, _, _, _, _, _, _, _ => none
 | k + 1, x3, x22, x23, x24, x43, x193000, x193001, x199000, x199001 => if x43 = true then (some false) else (if x199000.size ≤ 9223372036854775807 then (impl_RegisterOk.l0 k (mset x3 x199000 true) x22 x23 (wrap64 (x24 + 1)) x193000 x193001) else (none))
def impl_RegisterOk.l1 : Nat → List (Int × Int) → List (Int × Int) → List (S53) → Int → Int → List (S122) → List (S53) → Option (Bool)
 | 0, _, _, _, _, _, _, _ => none
 | k + 1, x6, x7, x51, x52, x53, x193000, x193001 => if x53 < x52 then (if 0 ≤ x53 then (if x53 < (x51.length : Int) then (if ((rd_T53 x51 x53).f0) < 0 then (impl_RegisterOk.j4 k x6 x7 x51 x52 x53 true x193000 x193001 ((rd_T53 x51 x53).f0) ((rd_T53 x51 x53).f1) ((rd_T53 x51 x53).f2) ((rd_T53 x51 x53).f3)) else (if ((rd_T53 x51 x53).f0) ≥ (x193000.length : Int) then (impl_RegisterOk.j4 k x6 x7 x51 x52 x53 true x193000 x193001 ((rd_T53 x51 x53).f0) ((rd_T53 x51 x53).f1) ((rd_T53 x51 x53).f2) ((rd_T53 x51 x53).f3)) else (if (-9223372036854775808) ≤ ((rd_T53 x51 x53).f0) then (if ((rd_T53 x51 x53).f0) ≤ 9223372036854775807 then (if ((rd_T53 x51 x53).f1) = (wrap64 (((mget x6 ((rd_T53 x51 x53).f0)).getD 0) + 1)) then ((impl_digitsIn.f k ((rd_T53 x51 x53).f1)).bind fun t212 => (if 0 ≤ ((rd_T53 x51 x53).f0) then (if ((rd_T53 x51 x53).f0) < (x193000.length : Int) then (if t212 > ((rd_T122 x193000 ((rd_T53 x51 x53).f0)).f1) then (impl_RegisterOk.j4 k x6 x7 x51 x52 x53 true x193000 x193001 ((rd_T53 x51 x53).f0) ((rd_T53 x51 x53).f1) ((rd_T53 x51 x53).f2) ((rd_T53 x51 x53).f3)) else ((impl_isDay.f ((rd_T53 x51 x53).f2)).bind fun t214 => (if t214 = true then (impl_RegisterOk.j4 k x6 x7 x51 x52 x53 (decide (((rd_T53 x51 x53).f2) < ((mget x7 ((rd_T53 x51 x53).f0)).getD 0))) x193000 x193001 ((rd_T53 x51 x53).f0) ((rd_T53 x51 x53).f1) ((rd_T53 x51 x53).f2) ((rd_T53 x51 x53).f3)) else (impl_RegisterOk.j4 k x6 x7 x51 x52 x53 true x193000 x193001 ((rd_T53 x51 x53).f0) ((rd_T53 x51 x53).f1) ((rd_T53 x51 x53).f2) ((rd_T53 x51 x53).f3))))) else (none)) else (none))) else (impl_RegisterOk.j4 k x6 x7 x51 x52 x53 true x193000 x193001 ((rd_T53 x51 x53).f0) ((rd_T53 x51 x53).f1) ((rd_T53 x51 x53).f2) ((rd_T53 x51 x53).f3))) else (none)) else (none)))) else (none)) else (none)) else (some true)
def impl_RegisterOk.j4 : Nat → List (Int × Int) → List (Int × Int) → List (S53) → Int → Int → Bool → List (S122) → List (S53) → Int → Int → Int → Bool → Option (Bool)
 | 0, _, _, _, _, _, _, _, _, _, _, _, _ => none
 | k + 1, x6, x7, x51, x52, x53, x105, x193000, x193001, x212000, x212001, x212002, x212003 => if x105 = true then (some false) else (if (-9223372036854775808) ≤ x212000 then (if x212000 ≤ 9223372036854775807 then (impl_RegisterOk.l1 k (mset x6 x212000 (wrap64 (((mget x6 x212000).getD 0) + 1))) (mset x7 x212000 x212002) x51 x52 (wrap64 (x53 + 1)) x193000 x193001) else (none)) else (none))
end
def impl_RegisterOk.f (k : Nat) (l0_0 : List (S122)) (l0_1 : List (S53)) : Option (Bool) := if (l0_0.length : Int) > 20 then (impl_RegisterOk.j0 k true l0_0 l0_1) else (impl_RegisterOk.j0 k (decide ((l0_1.length : Int) > 400)) l0_0 l0_1)
theorem impl_RegisterOk.mono_l : ∀ k, (∀ y0 y1 y2, LeO (impl_RegisterOk.j0 k y0 y1 y2) (impl_RegisterOk.j0 (k + 1) y0 y1 y2)) ∧ (∀ y0 y1 y2 y3 y4 y5, LeO (impl_RegisterOk.l0 k y0 y1 y2 y3 y4 y5) (impl_RegisterOk.l0 (k + 1) y0 y1 y2 y3 y4 y5)) ∧ (∀ y0 y1 y2 y3 y4 y5 y6 y7 y8, LeO (impl_RegisterOk.j2 k y0 y1 y2 y3 y4 y5 y6 y7 y8) (impl_RegisterOk.j2 (k + 1) y0 y1 y2 y3 y4 y5 y6 y7 y8)) ∧ (∀ y0 y1 y2 y3 y4 y5 y6, LeO (impl_RegisterOk.l1 k y0 y1 y2 y3 y4 y5 y6) (impl_RegisterOk.l1 (k + 1) y0 y1 y2 y3 y4 y5 y6)) ∧ (∀ y0 y1 y2 y3 y4 y5 y6 y7 y8 y9 y10 y11, LeO (impl_RegisterOk.j4 k y0 y1 y2 y3 y4 y5 y6 y7 y8 y9 y10 y11) (impl_RegisterOk.j4 (k + 1) y0 y1 y2 y3 y4 y5 y6 y7 y8 y9 y10 y11))
 | 0 => ⟨fun _ _ _ r h => by simp [impl_RegisterOk.j0] at h, fun _ _ _ _ _ _ r h => by simp [impl_RegisterOk.l0] at h, fun _ _ _ _ _ _ _ _ _ r h => by simp [impl_RegisterOk.j2] at h, fun _ _ _ _ _ _ _ r h => by simp [impl_RegisterOk.l1] at h, fun _ _ _ _ _ _ _ _ _ _ _ _ r h => by simp [impl_RegisterOk.j4] at h⟩
 | k + 1 => by
  obtain ⟨ih0, ih1, ih2, ih3, ih4⟩ := impl_RegisterOk.mono_l k
  refine ⟨?_, ?_, ?_, ?_, ?_⟩
  ·intro y0 y1 y2
   unfold impl_RegisterOk.j0
   repeat' first
   | (with_reducible exact ih0 _ _ _)
   | (with_reducible exact ih1 _ _ _ _ _ _)
   | (with_reducible exact ih2 _ _ _ _ _ _ _ _ _)
   | (with_reducible exact ih3 _ _ _ _ _ _ _)
   | (with_reducible exact ih4 _ _ _ _ _ _ _ _ _ _ _ _)
   | (with_reducible exact impl_NameOk.mono _ _)
   | (with_reducible exact impl_digitsIn.mono _ _)
   | (with_reducible exact LeO.refl _)
   | (with_reducible exact LeO.none _)
   | (with_reducible refine LeO.ite ?_ ?_)
   | (with_reducible refine LeO.bind ?_ (fun _ => ?_))
   | exact ih0 _ _ _
   | exact ih1 _ _ _ _ _ _
   | exact ih2 _ _ _ _ _ _ _ _ _
   | exact ih3 _ _ _ _ _ _ _
   | exact ih4 _ _ _ _ _ _ _ _ _ _ _ _
   | exact impl_NameOk.mono _ _
   | exact impl_digitsIn.mono _ _
   | exact LeO.none _
   | refine LeO.ite ?_ ?_
   | refine LeO.bind ?_ (fun _ => ?_)
  ·intro y0 y1 y2 y3 y4 y5
   unfold impl_RegisterOk.l0
   repeat' first
   | (with_reducible exact ih0 _ _ _)
   | (with_reducible exact ih1 _ _ _ _ _ _)
   | (with_reducible exact ih2 _ _ _ _ _ _ _ _ _)
   | (with_reducible exact ih3 _ _ _ _ _ _ _)
   | (with_reducible exact ih4 _ _ _ _ _ _ _ _ _ _ _ _)
   | (with_reducible exact impl_NameOk.mono _ _)
   | (with_reducible exact impl_digitsIn.mono _ _)
   | (with_reducible exact LeO.refl _)
   | (with_reducible exact LeO.none _)
   | (with_reducible refine LeO.ite ?_ ?_)
   | (with_reducible refine LeO.bind ?_ (fun _ => ?_))
   | exact ih0 _ _ _
   | exact ih1 _ _ _ _ _ _
   | exact ih2 _ _ _ _ _ _ _ _ _
   | exact ih3 _ _ _ _ _ _ _
   | exact ih4 _ _ _ _ _ _ _ _ _ _ _ _
   | exact impl_NameOk.mono _ _
   | exact impl_digitsIn.mono _ _
   | exact LeO.none _
   | refine LeO.ite ?_ ?_
   | refine LeO.bind ?_ (fun _ => ?_)
  ·intro y0 y1 y2 y3 y4 y5 y6 y7 y8
   unfold impl_RegisterOk.j2
   repeat' first
   | (with_reducible exact ih0 _ _ _)
   | (with_reducible exact ih1 _ _ _ _ _ _)
   | (with_reducible exact ih2 _ _ _ _ _ _ _ _ _)
   | (with_reducible exact ih3 _ _ _ _ _ _ _)
   | (with_reducible exact ih4 _ _ _ _ _ _ _ _ _ _ _ _)
   | (with_reducible exact impl_NameOk.mono _ _)
   | (with_reducible exact impl_digitsIn.mono _ _)
   | (with_reducible exact LeO.refl _)
   | (with_reducible exact LeO.none _)
   | (with_reducible refine LeO.ite ?_ ?_)
   | (with_reducible refine LeO.bind ?_ (fun _ => ?_))
   | exact ih0 _ _ _
   | exact ih1 _ _ _ _ _ _
   | exact ih2 _ _ _ _ _ _ _ _ _
   | exact ih3 _ _ _ _ _ _ _
   | exact ih4 _ _ _ _ _ _ _ _ _ _ _ _
   | exact impl_NameOk.mono _ _
   | exact impl_digitsIn.mono _ _
   | exact LeO.none _
   | refine LeO.ite ?_ ?_
   | refine LeO.bind ?_ (fun _ => ?_)
  ·intro y0 y1 y2 y3 y4 y5 y6
   unfold impl_RegisterOk.l1
   repeat' first
   | (with_reducible exact ih0 _ _ _)
   | (with_reducible exact ih1 _ _ _ _ _ _)
   | (with_reducible exact ih2 _ _ _ _ _ _ _ _ _)
   | (with_reducible exact ih3 _ _ _ _ _ _ _)
   | (with_reducible exact ih4 _ _ _ _ _ _ _ _ _ _ _ _)
   | (with_reducible exact impl_NameOk.mono _ _)
   | (with_reducible exact impl_digitsIn.mono _ _)
   | (with_reducible exact LeO.refl _)
   | (with_reducible exact LeO.none _)
   | (with_reducible refine LeO.ite ?_ ?_)
   | (with_reducible refine LeO.bind ?_ (fun _ => ?_))
   | exact ih0 _ _ _
   | exact ih1 _ _ _ _ _ _
   | exact ih2 _ _ _ _ _ _ _ _ _
   | exact ih3 _ _ _ _ _ _ _
   | exact ih4 _ _ _ _ _ _ _ _ _ _ _ _
   | exact impl_NameOk.mono _ _
   | exact impl_digitsIn.mono _ _
   | exact LeO.none _
   | refine LeO.ite ?_ ?_
   | refine LeO.bind ?_ (fun _ => ?_)
  ·intro y0 y1 y2 y3 y4 y5 y6 y7 y8 y9 y10 y11
   unfold impl_RegisterOk.j4
   repeat' first
   | (with_reducible exact ih0 _ _ _)
   | (with_reducible exact ih1 _ _ _ _ _ _)
   | (with_reducible exact ih2 _ _ _ _ _ _ _ _ _)
   | (with_reducible exact ih3 _ _ _ _ _ _ _)
   | (with_reducible exact ih4 _ _ _ _ _ _ _ _ _ _ _ _)
   | (with_reducible exact impl_NameOk.mono _ _)
   | (with_reducible exact impl_digitsIn.mono _ _)
   | (with_reducible exact LeO.refl _)
   | (with_reducible exact LeO.none _)
   | (with_reducible refine LeO.ite ?_ ?_)
   | (with_reducible refine LeO.bind ?_ (fun _ => ?_))
   | exact ih0 _ _ _
   | exact ih1 _ _ _ _ _ _
   | exact ih2 _ _ _ _ _ _ _ _ _
   | exact ih3 _ _ _ _ _ _ _
   | exact ih4 _ _ _ _ _ _ _ _ _ _ _ _
   | exact impl_NameOk.mono _ _
   | exact impl_digitsIn.mono _ _
   | exact LeO.none _
   | refine LeO.ite ?_ ?_
   | refine LeO.bind ?_ (fun _ => ?_)
theorem impl_RegisterOk.mono : ∀ a0 a1 k, LeO (impl_RegisterOk.f k a0 a1) (impl_RegisterOk.f (k + 1) a0 a1) := by
 intro a0 a1 k
 obtain ⟨ih0, ih1, ih2, ih3, ih4⟩ := impl_RegisterOk.mono_l k
 unfold impl_RegisterOk.f
 repeat' first
   | (with_reducible exact ih0 _ _ _)
   | (with_reducible exact ih1 _ _ _ _ _ _)
   | (with_reducible exact ih2 _ _ _ _ _ _ _ _ _)
   | (with_reducible exact ih3 _ _ _ _ _ _ _)
   | (with_reducible exact ih4 _ _ _ _ _ _ _ _ _ _ _ _)
   | (with_reducible exact impl_NameOk.mono _ _)
   | (with_reducible exact impl_digitsIn.mono _ _)
   | (with_reducible exact LeO.refl _)
   | (with_reducible exact LeO.none _)
   | (with_reducible refine LeO.ite ?_ ?_)
   | (with_reducible refine LeO.bind ?_ (fun _ => ?_))
   | exact ih0 _ _ _
   | exact ih1 _ _ _ _ _ _
   | exact ih2 _ _ _ _ _ _ _ _ _
   | exact ih3 _ _ _ _ _ _ _
   | exact ih4 _ _ _ _ _ _ _ _ _ _ _ _
   | exact impl_NameOk.mono _ _
   | exact impl_digitsIn.mono _ _
   | exact LeO.none _
   | refine LeO.ite ?_ ?_
   | refine LeO.bind ?_ (fun _ => ?_)
def impl_RegisterOk.T16 : Bool × List (List Nat × List Nat) := (true, [([], []), ([0], [0]), ([1], [1]), ([2], [2]), ([3], [3]), ([4, 3], [3, 4]), ([3], [3]), ([6, 3], [3, 6]), ([7, 3], [3, 7]), ([5, 8, 3], [3, 5, 8]), ([3, 9], [3, 9]), ([10, 3], [10]), ([11], [11]), ([12, 11], [11, 12]), ([11], [11]), ([11], [11]), ([15, 11], [11, 15]), ([14, 16, 11], [11, 14, 16]), ([17, 11], [11, 17]), ([13, 18, 11], [11, 13, 18]), ([11, 19], [11, 19]), ([20, 11], [20]), ([21], [21]), ([22, 21], [21, 22]), ([23, 21, 21], [21, 23]), ([21], [21]), ([25, 21], [21, 25]), ([21], [21]), ([27, 21], [21, 27]), ([26, 28, 21], [21, 26, 28]), ([29, 21], [21, 29]), ([30, 21], [21, 30]), ([24, 31, 21], [21, 24, 31]), ([21, 32], [21, 32]), ([33, 24], [33]), ([34], [34]), ([35, 34], [34, 35]), ([36, 34, 34], [34, 36]), ([37, 34], [34, 37]), ([34, 38], [34, 38]), ([39, 37], [39]), ([40], [40]), ([41, 40], [40, 41]), ([40], [40]), ([40], [40]), ([44, 40], [40, 44]), ([43, 45, 40], [40, 43, 45]), ([42, 46, 40], [40, 42, 46]), ([40, 47], [40, 47])])
def impl_RegisterOk.B16 : List Nat := [0, 1, 3, 7, 15, 31, 15, 79, 207, 511, 1023, 2047, 4095, 8191, 4095, 4095, 36863, 118783, 249855, 524287, 1048575, 2097151, 4194303, 8388607, 16777215, 4194303, 37748735, 4194303, 138412031, 507510783, 1044381695, 2118123519, 4294967295, 8589934591, 17179869183, 34359738367, 68719476735, 137438953471, 274877906943, 549755813887, 1099511627775, 2199023255551, 4398046511103, 2199023255551, 2199023255551, 19791209299967, 63771674411007, 140737488355327, 281474976710655]
theorem impl_RegisterOk.tab16 : rtab .any (opsOf Try.f24 16) = impl_RegisterOk.T16 := by kernel_rfl
theorem impl_RegisterOk.bits16 : waitsOk impl_RegisterOk.T16.2 impl_RegisterOk.B16 = true := by kernel_rfl
set_option maxHeartbeats 8000000 in
set_option maxRecDepth 100000 in
theorem impl_RegisterOk.calls (k : Nat) (A0_0 : Option Addr) (c0_0 : Nat) (l0_0 : List (S122)) (A0_1 : Option Addr) (c0_1 : Nat) (l0_1 : List (S53)) (r : Bool) (w : World) (hr0_0 : Kd.C k122 w A0_0 l0_0.length l0_0) (hc0_0 : l0_0.length ≤ c0_0) (hr0_1 : Kd.C k53 w A0_1 l0_1.length l0_1) (hc0_1 : l0_1.length ≤ c0_1) (h : impl_RegisterOk.f k l0_0 l0_1 = some r) :
  Calls Try.prog 24 #[.agg #[.slice A0_0 l0_0.length c0_0, .slice A0_1 l0_1.length c0_1]] w fun e w' => e = .returned (.bool r) ∧ Below w.heap.size w w' := by
 have hu42 := Try.underlying42
 have hu122 := Try.underlying122
 have hu53 := Try.underlying53
 have HR0_0 := Aside0.mk hr0_0
 have HC0_0 := Aside0.mk hc0_0
 clear hr0_0 hc0_0
 have HR0_1 := Aside0.mk hr0_1
 have HC0_1 := Aside0.mk hc0_1
 clear hr0_1 hc0_1
 have HB := Aside0.mk (Below.refl w.heap.size w)
 have H : (if (l0_0.length : Int) > 20 then (impl_RegisterOk.j0 k true l0_0 l0_1) else (impl_RegisterOk.j0 k (decide ((l0_1.length : Int) > 400)) l0_0 l0_1)) = some r := h
 clear h
 have HC2 := Aside0.mk H
 clear H
 go_enter Try.func24, Try.ntmps24
 go_upto_region 1 with (first | ((with_reducible refine qs0 (N := 1) rfl ?_); (try (refine gate_guard (by rfl) ?_; dsimp only)); refine qr0 ?hg (N := 1) ?hd (cs := #[.slice A0_0 l0_0.length c0_0, .slice A0_1 l0_1.length c0_1]) (t := 42) ?hr ?_; (case hd => rfl); (case hg => rfl); (case hr => first | (go_simp; done) | (go_simp; rfl)); intro gb192 hg w3 hbox hb; have n0_ := Aside0.mk (ql0 (by repeat (first | (with_reducible first | exact HB.out | apply qc0 | apply qa0 | apply qb0) | exact HB.out)) hb); have n1_ := Aside0.mk (hbox); have n2_ := Aside0.mk ((by rw [hg]; exact (qk0 (by repeat (first | (with_reducible first | exact HB.out | apply qc0 | apply qa0 | apply qb0) | exact HB.out))) : w.heap.size ≤ gb192)); have n3_ := Aside0.mk ((by rw [hg]; exact (qk0 (by repeat (first | (with_reducible first | exact HB.out | apply qc0 | apply qa0 | apply qb0) | exact HB.out))) : w.heap.size ≤ gb192)); clear HB; have HB := n0_; have BK192 := n1_; have GW192 := n2_; have GE192 := n3_; clear n0_ n1_ n2_ n3_; clear hb hbox hg))
 (try simp only [Act.put, List.setIfInBounds_toArray, List.set_cons_zero, List.set_cons_succ])
 go_cut [19] (fun v19 wc => ∃ (kq : Nat) (x19_1 : Bool), v19 = .bool x19_1 ∧ Aside0 (impl_RegisterOk.j0 kq x19_1 l0_0 l0_1 = some r) ∧ Aside0 (kq ≤ k) ∧ Aside0 (wc.heap[gb192]? = some (.cells #[(.slice A0_0 l0_0.length c0_0), (.slice A0_1 l0_1.length c0_1)] 42 (0, 0))) ∧ Aside0 (Below w.heap.size w wc))
 case first => as_aux_lemma =>
  have H := HC2.out
  clear HC2
  by_cases c4 : (l0_0.length : Int) > 20
  ·rw [if_pos c4] at H
   have c4b0 : decide (20 < (l0_0.length : Int)) = true := decide_eq_true c4
   have c4b1 : decide (20 < l0_0.length) = true := decide_eq_true (by omega)
   clear c4
   (first | rw [c4b0] | (simp only [i64_w, i32_w]; rw [c4b0]) | skip)
   have H' := Aside0.mk H
   clear H
   have hcz5_0 : w3.cell? ⟨gb192, 0, none⟩ = some (.slice A0_0 l0_0.length c0_0) := (qg0 BK192.out 0).trans rfl
   have hcz5_1 : w3.cell? ⟨gb192, 1, none⟩ = some (.slice A0_1 l0_1.length c0_1) := (qg0 BK192.out 1).trans rfl
   have hfz5_0 := qi0 BK192.out 0
   have hfz5_1 := qi0 BK192.out 1
   go_wp2
   go_meet
   case rel => exact ⟨_, (true), (by first | rfl | (simp; done) | (simp [*]; done)), H', ⟨by first | omega | exact Nat.le_refl _⟩, ⟨by (with_reducible repeat (first | refine qd0 ?_ _ | refine qh0 ?_ | refine qe0 ?_ _)); exact BK192.out⟩, ⟨by repeat (first | (with_reducible first | exact HB.out | apply qc0 | apply qa0 | apply qb0 | refine qf0 ?_ GE192.out) | exact HB.out)⟩⟩
  rw [if_neg c4] at H
  have c4b0 : decide (20 < (l0_0.length : Int)) = false := decide_eq_false c4
  have c4b1 : decide (20 < l0_0.length) = false := decide_eq_false (by omega)
  clear c4
  (first | rw [c4b0] | (simp only [i64_w, i32_w]; rw [c4b0]) | skip)
  have H' := Aside0.mk H
  clear H
  have hcz6_0 : w3.cell? ⟨gb192, 0, none⟩ = some (.slice A0_0 l0_0.length c0_0) := (qg0 BK192.out 0).trans rfl
  have hcz6_1 : w3.cell? ⟨gb192, 1, none⟩ = some (.slice A0_1 l0_1.length c0_1) := (qg0 BK192.out 1).trans rfl
  have hfz6_0 := qi0 BK192.out 0
  have hfz6_1 := qi0 BK192.out 1
  go_wp2
  go_meet
  case rel => exact ⟨_, (decide ((l0_1.length : Int) > 400)), (by first | rfl | (simp; done) | (simp [*]; done)), H', ⟨by first | omega | exact Nat.le_refl _⟩, ⟨by (with_reducible repeat (first | refine qd0 ?_ _ | refine qh0 ?_ | refine qe0 ?_ _)); exact BK192.out⟩, ⟨by repeat (first | (with_reducible first | exact HB.out | apply qc0 | apply qa0 | apply qb0 | refine qf0 ?_ GE192.out) | exact HB.out)⟩⟩
 case rest => as_aux_lemma =>
  clear HC2
  try clear c2
  try clear p2
  try clear c4
  try clear c4b0
  try clear c4b1
  try clear hcz5_0
  try clear hcz5_1
  try clear hcz6_0
  try clear hcz6_1
  try clear hfz5_0
  try clear hfz5_1
  try clear hfz6_0
  try clear hfz6_1
  obtain ⟨kq, x19_1, rfl, HA, HJ1, BK192, HB⟩ := hcut
  cases kq with
  | zero => exact absurd HA.out (by simp [impl_RegisterOk.j0])
  | succ kj1 =>
   have H := HA.out
   clear HA
   simp only [impl_RegisterOk.j0] at H
   by_cases c7 : x19_1 = true
   ·subst c7
    have H1 : (some false) = some r := by rw [if_pos rfl] at H; exact H
    clear H
    have H := H1
    clear H1
    obtain rfl := Option.some.inj H
    go_wp2
    go_ret
    exact ⟨by first | rfl | (simp [errW_none, errW_some] <;> rfl) | (simp [*, errW_none, errW_some] <;> rfl), by repeat (first | (with_reducible first | exact HB.out | apply qc0 | apply qa0 | apply qb0 | refine qf0 ?_ GE192.out) | exact HB.out)⟩
   replace c7 := Bool.eq_false_iff.mpr c7
   subst c7
   have H1 : (impl_RegisterOk.l0 kj1 (([] : List (ByteArray × Bool))) l0_0 (l0_0.length : Int) 0 l0_0 l0_1) = some r := by rw [if_neg (show ¬ (false = true) by decide)] at H; exact H
   clear H
   have H := H1
   clear H1
   obtain ⟨y193, hy193⟩ : ∃ y_ : List (ByteArray × Bool), y_ = (([] : List (ByteArray × Bool))) := ⟨_, rfl⟩
   replace H : (impl_RegisterOk.l0 kj1 y193 l0_0 (l0_0.length : Int) 0 l0_0 l0_1) = some r := by first | (rw [hy193]; with_reducible exact H) | (have H2_ := (Option.bind_some _ _).symm.trans H; rw [hy193]; with_reducible exact H2_) | (have H2_ := (Option.bind_some _ _).symm.trans H; with_reducible exact H2_) | with_reducible exact H | (rw [hy193]; exact H) | exact H
   have Ny193 := Aside0.mk hy193
   clear hy193
   have H' := Aside0.mk H
   clear H
   go_wp2_with (first | ((with_reducible refine qs0 (N := 20) rfl ?_); (try (refine gate_guard (by rfl) ?_; dsimp only)); refine Kd.Z_make_op kz127 127 (ok := fun _ => True) rfl (N := 20) rfl rfl trivial ?_; intro mb196 hq_ w8 ho9 hb; rw [← Ny193.out] at ho9; have n0_ := Aside0.mk (qm0 (g := gb192) (o := .cells #[.slice A0_0 l0_0.length c0_0, .slice A0_1 l0_1.length c0_1] 42 (0, 0)) (by (with_reducible repeat (first | refine qd0 ?_ _ | refine qh0 ?_ | refine qe0 ?_ _)); exact BK192.out) hb); have n1_ := Aside0.mk (ql0 (by repeat (first | (with_reducible first | exact HB.out | apply qc0 | apply qa0 | apply qb0 | refine qf0 ?_ GE192.out) | exact HB.out)) hb); have n2_ := Aside0.mk (Kd.Z_lower ho9 (qk0 (by repeat (first | (with_reducible first | exact HB.out | apply qc0 | apply qa0 | apply qb0 | refine qf0 ?_ GE192.out) | exact HB.out)))); clear BK192; clear HB; have BK192 := n0_; have HB := n1_; have HO195 := n2_; clear n0_ n1_ n2_; clear hb ho9 hq_; have hcz10_0 : w8.cell? ⟨gb192, 0, none⟩ = some (.slice A0_0 l0_0.length c0_0) := (qg0 BK192.out 0).trans rfl; have hcz10_1 : w8.cell? ⟨gb192, 1, none⟩ = some (.slice A0_1 l0_1.length c0_1) := (qg0 BK192.out 1).trans rfl; have hfz10_0 := qi0 BK192.out 0; have hfz10_1 := qi0 BK192.out 1))
   go_loopg [24] kj1 (fun kq v24 w' => ∃ (x3_2 : List (ByteArray × Bool)) (x24_2 : Int), v24 = .int .i64 x24_2 ∧ Aside0 (impl_RegisterOk.l0 kq x3_2 l0_0 (l0_0.length : Int) x24_2 l0_0 l0_1 = some r) ∧ Aside0 (kq ≤ kj1) ∧ Aside0 (Kd.Z kz127 127 w' w.heap.size (fun _ => True) (.map (some mb196)) x3_2) ∧ Aside0 (w'.heap[gb192]? = some (.cells #[(.slice A0_0 l0_0.length c0_0), (.slice A0_1 l0_1.length c0_1)] 42 (0, 0))) ∧ Aside0 (Below w.heap.size w w'))
   case atStart => exact ⟨(y193), (0), (by first | rfl | (simp; done) | (simp [*]; done)), H', ⟨Nat.le_refl _⟩, ⟨by (with_reducible repeat (first | apply Kd.Z_alloc | apply Kd.Z_drewN | apply Kd.Z_drew)); exact HO195.out⟩, ⟨by (with_reducible repeat (first | refine qd0 ?_ _ | refine qh0 ?_ | refine qe0 ?_ _)); exact BK192.out⟩, ⟨by repeat (first | (with_reducible first | exact HB.out | apply qc0 | apply qa0 | apply qb0 | refine qf0 ?_ GE192.out) | exact HB.out)⟩⟩
   case round => as_aux_lemma =>
    clear H'
    try clear c2
    try clear p2
    try clear c4
    try clear c4b0
    try clear c4b1
    try clear c7
    try clear hcz10_0
    try clear hcz10_1
    try clear hcz5_0
    try clear hcz5_1
    try clear hcz6_0
    try clear hcz6_1
    try clear hfz10_0
    try clear hfz10_1
    try clear hfz5_0
    try clear hfz5_1
    try clear hfz6_0
    try clear hfz6_1
    try clear p2
    obtain ⟨x3_2, x24_2, rfl, HA, HK2, HO_3, BK192, HB⟩ := hrel
    cases gk with
    | zero => exact absurd HA.out (by simp [impl_RegisterOk.l0])
    | succ k2 =>
     have H := HA.out
     clear HA
     simp only [impl_RegisterOk.l0] at H
     by_cases c11 : x24_2 < (l0_0.length : Int)
     ·rw [if_pos c11] at H
      have c11b0 : decide (x24_2 < (l0_0.length : Int)) = true := decide_eq_true c11
      clear c11
      by_cases c12 : 0 ≤ x24_2
      case neg => rw [if_neg c12] at H; exact absurd H (by simp)
      rw [if_pos c12] at H
      have c12b0 : decide (0 ≤ x24_2) = true := decide_eq_true c12
      clear c12
      by_cases c13 : x24_2 < (l0_0.length : Int)
      case neg => rw [if_neg c13] at H; exact absurd H (by simp)
      rw [if_pos c13] at H
      have c13b0 : decide (x24_2 < (l0_0.length : Int)) = true := decide_eq_true c13
      clear c13
      have HC14 := Aside0.mk H
      clear H
      have p197 : 0 ≤ (x24_2 : Int) := of_decide_eq_true (by first | (with_reducible assumption) | assumption)
      have q197 : x24_2 < (l0_0.length : Int) := of_decide_eq_true (by first | (with_reducible assumption) | assumption)
      obtain ⟨ad197, e197, hx197_0, hx197_1⟩ := at_T122 HR0_0.out x24_2 p197 q197
      cases e197
      replace hx197_0 := (HB.out.cell (World.block_lt_of_cell? w _ hx197_0)).trans hx197_0
      replace hx197_1 := (HB.out.cell (World.block_lt_of_cell? w _ hx197_1)).trans hx197_1
      replace p197 := eq_true p197
      replace q197 := eq_true q197
      go_upto_region 7 with (first | ((with_reducible refine qs0 (N := 5) rfl ?_); (try (refine gate_guard (by rfl) ?_; dsimp only)); refine qr0 ?hg (N := 5) ?hd (cs := #[.string (⟨#[]⟩ : ByteArray), .int .i64 0]) (t := 122) ?hr ?_; (case hd => rfl); (case hg => rfl); (case hr => first | (go_simp; done) | (go_simp; rfl)); intro gb198 hg w15 hbox hb; have n0_ := Aside0.mk (Kd.Z_below (by (with_reducible repeat (first | apply Kd.Z_alloc | apply Kd.Z_drewN | apply Kd.Z_drew)); exact HO_3.out) hb); have n1_ := Aside0.mk (qm0 (g := gb192) (o := .cells #[.slice (some ad197) l0_0.length c0_0, .slice A0_1 l0_1.length c0_1] 42 (0, 0)) (by (with_reducible repeat (first | refine qd0 ?_ _ | refine qh0 ?_ | refine qe0 ?_ _)); exact BK192.out) hb); have n2_ := Aside0.mk (ql0 (by repeat (first | (with_reducible first | exact HB.out | apply qc0 | apply qa0 | apply qb0 | refine qf0 ?_ GE192.out) | exact HB.out)) hb); have n3_ := Aside0.mk (hbox); have n4_ := Aside0.mk ((by rw [hg]; exact (qk0 (by repeat (first | (with_reducible first | exact HB.out | apply qc0 | apply qa0 | apply qb0 | refine qf0 ?_ GE192.out) | exact HB.out))) : w.heap.size ≤ gb198)); have n5_ := Aside0.mk ((by rw [hg]; exact (qk0 (by repeat (first | (with_reducible first | exact HB.out | apply qc0 | apply qa0 | apply qb0 | refine qf0 ?_ GE192.out) | exact HB.out))) : w.heap.size ≤ gb198)); have n6_ := Aside0.mk ((by rw [hg]; exact Nat.ne_of_lt (qa1 (g := gb192) (o := .cells #[.slice (some ad197) l0_0.length c0_0, .slice A0_1 l0_1.length c0_1] 42 (0, 0)) (by (with_reducible repeat (first | refine qd0 ?_ _ | refine qh0 ?_ | refine qe0 ?_ _)); exact BK192.out)) : gb192 ≠ gb198)); have n7_ := Aside0.mk ((by rw [hg]; exact Nat.ne_of_gt (qa1 (g := gb192) (o := .cells #[.slice (some ad197) l0_0.length c0_0, .slice A0_1 l0_1.length c0_1] 42 (0, 0)) (by (with_reducible repeat (first | refine qd0 ?_ _ | refine qh0 ?_ | refine qe0 ?_ _)); exact BK192.out)) : gb198 ≠ gb192)); clear HO_3; clear BK192; clear HB; have HO_3 := n0_; have BK192 := n1_; have HB := n2_; have BK198 := n3_; have GW198 := n4_; have GE198 := n5_; have NB192_198 := n6_; have NB198_192 := n7_; clear n0_ n1_ n2_ n3_ n4_ n5_ n6_ n7_; clear hb hbox hg; have hnb16 := NB198_192.out; have hnc16 := NB192_198.out; have hcz17_0 : w15.cell? ⟨gb198, 0, none⟩ = some (.string (⟨#[]⟩ : ByteArray)) := (qg0 BK198.out 0).trans rfl; have hcz17_1 : w15.cell? ⟨gb198, 1, none⟩ = some (.int .i64 0) := (qg0 BK198.out 1).trans rfl; have hfz17_0 := qi0 BK198.out 0; have hfz17_1 := qi0 BK198.out 1))
      (try simp only [Act.put, List.setIfInBounds_toArray, List.set_cons_zero, List.set_cons_succ])
      go_cut [43] (fun v43 wc => ∃ (kq : Nat) (x43_13 : Bool), v43 = .bool x43_13 ∧ Aside0 (impl_RegisterOk.j2 kq x3_2 l0_0 (l0_0.length : Int) x24_2 x43_13 l0_0 l0_1 ((rd_T122 l0_0 x24_2).f0) ((rd_T122 l0_0 x24_2).f1) = some r) ∧ Aside0 (kq ≤ k2) ∧ Aside0 (Kd.Z kz127 127 wc w.heap.size (fun _ => True) (.map (some mb196)) x3_2) ∧ Aside0 (wc.heap[gb192]? = some (.cells #[(.slice (some ad197) l0_0.length c0_0), (.slice A0_1 l0_1.length c0_1)] 42 (0, 0))) ∧ Aside0 (wc.heap[gb198]? = some (.cells #[.string ((rd_T122 l0_0 x24_2).f0), .int .i64 ((rd_T122 l0_0 x24_2).f1)] 122 (0, 0))) ∧ Aside0 (Below w.heap.size w wc))
      case first => as_aux_lemma =>
       have H := HC14.out
       clear HC14
       replace H := Option.bind_eq_some_iff.mp H
       obtain ⟨t199, A180, H⟩ := H
       replace H : (if t199 = true then ((impl_between.f ((rd_T122 l0_0 x24_2).f1) 1 8).bind fun t200 => (if t200 = true then (if ((rd_T122 l0_0 x24_2).f0).size ≤ 9223372036854775807 then (impl_RegisterOk.j2 k2 x3_2 l0_0 (l0_0.length : Int) x24_2 ((mget x3_2 ((rd_T122 l0_0 x24_2).f0)).getD false) l0_0 l0_1 ((rd_T122 l0_0 x24_2).f0) ((rd_T122 l0_0 x24_2).f1)) else (none)) else (impl_RegisterOk.j2 k2 x3_2 l0_0 (l0_0.length : Int) x24_2 true l0_0 l0_1 ((rd_T122 l0_0 x24_2).f0) ((rd_T122 l0_0 x24_2).f1)))) else (impl_RegisterOk.j2 k2 x3_2 l0_0 (l0_0.length : Int) x24_2 true l0_0 l0_1 ((rd_T122 l0_0 x24_2).f0) ((rd_T122 l0_0 x24_2).f1))) = some r := H
       have A18 := Aside0.mk A180
       clear A180
       by_cases c19 : t199 = true
       ·subst c19
        have H1 : ((impl_between.f ((rd_T122 l0_0 x24_2).f1) 1 8).bind fun t200 => (if t200 = true then (if ((rd_T122 l0_0 x24_2).f0).size ≤ 9223372036854775807 then (impl_RegisterOk.j2 k2 x3_2 l0_0 (l0_0.length : Int) x24_2 ((mget x3_2 ((rd_T122 l0_0 x24_2).f0)).getD false) l0_0 l0_1 ((rd_T122 l0_0 x24_2).f0) ((rd_T122 l0_0 x24_2).f1)) else (none)) else (impl_RegisterOk.j2 k2 x3_2 l0_0 (l0_0.length : Int) x24_2 true l0_0 l0_1 ((rd_T122 l0_0 x24_2).f0) ((rd_T122 l0_0 x24_2).f1)))) = some r := by rw [if_pos rfl] at H; exact H
        clear H
        have H := H1
        clear H1
        replace H := Option.bind_eq_some_iff.mp H
        obtain ⟨t200, A200, H⟩ := H
        replace H : (if t200 = true then (if ((rd_T122 l0_0 x24_2).f0).size ≤ 9223372036854775807 then (impl_RegisterOk.j2 k2 x3_2 l0_0 (l0_0.length : Int) x24_2 ((mget x3_2 ((rd_T122 l0_0 x24_2).f0)).getD false) l0_0 l0_1 ((rd_T122 l0_0 x24_2).f0) ((rd_T122 l0_0 x24_2).f1)) else (none)) else (impl_RegisterOk.j2 k2 x3_2 l0_0 (l0_0.length : Int) x24_2 true l0_0 l0_1 ((rd_T122 l0_0 x24_2).f0) ((rd_T122 l0_0 x24_2).f1))) = some r := H
        have A20 := Aside0.mk A200
        clear A200
        by_cases c21 : t200 = true
        ·subst c21
         have H1 : (if ((rd_T122 l0_0 x24_2).f0).size ≤ 9223372036854775807 then (impl_RegisterOk.j2 k2 x3_2 l0_0 (l0_0.length : Int) x24_2 ((mget x3_2 ((rd_T122 l0_0 x24_2).f0)).getD false) l0_0 l0_1 ((rd_T122 l0_0 x24_2).f0) ((rd_T122 l0_0 x24_2).f1)) else (none)) = some r := by rw [if_pos rfl] at H; exact H
         clear H
         have H := H1
         clear H1
         by_cases c22 : ((rd_T122 l0_0 x24_2).f0).size ≤ 9223372036854775807
         case neg => rw [if_neg c22] at H; exact absurd H (by simp)
         rw [if_pos c22] at H
         have LMc22 := Aside0.mk c22
         clear c22
         have H' := Aside0.mk H
         clear H
         have hnb23 := NB198_192.out
         have hnc23 := NB192_198.out
         have hcz24_0 : w15.cell? ⟨gb198, 0, none⟩ = some (.string (⟨#[]⟩ : ByteArray)) := (qg0 BK198.out 0).trans rfl
         have hcz24_1 : w15.cell? ⟨gb198, 1, none⟩ = some (.int .i64 0) := (qg0 BK198.out 1).trans rfl
         have hfz24_0 := qi0 BK198.out 0
         have hfz24_1 := qi0 BK198.out 1
         go_wp2_with (first | ((with_reducible refine qn0 (f := 86) rfl ?_); refine qe1 (some 30) rfl rfl Try.func86 (by kernel_rfl) rfl #[.string ((rd_T122 l0_0 x24_2).f0)] rfl (by (try simp only [List.map_toArray, List.map_cons, List.map_nil]); first | done | rfl | (simp only [List.length_drop, List.length_take]; rfl)) ?_; (with_reducible refine (impl_NameOk.calls k2 ((rd_T122 l0_0 x24_2).f0) true _ A18.out).mono ?_); rintro e w' ⟨rfl, ⟨nd, rfl⟩⟩; refine ⟨_, rfl, ?_⟩) | (go_at_call 74; (with_reducible refine (impl_between.calls ((rd_T122 l0_0 x24_2).f1) 1 8 true _ A20.out).mono ?_); rintro e w' ⟨rfl, ⟨nd, rfl⟩⟩) | ((with_reducible refine qs0 (N := 42) rfl ?_); (try (refine gate_guard (by rfl) ?_; dsimp only)); refine Kd.Z_look_op (base := w.heap.size) (ok := fun _ => True) kz127 127 rfl rfl _ _ 127 rfl kz127_K kz127_inj kz127_t false kz127_z mb196 x3_2 ((rd_T122 l0_0 x24_2).f0) rfl rfl (kz127_key ((rd_T122 l0_0 x24_2).f0) LMc22.out) ?aO (.bool ((mget x3_2 ((rd_T122 l0_0 x24_2).f0)).getD false)) rfl ?_; (case aO => exact (by (with_reducible repeat (first | apply Kd.Z_alloc | apply Kd.Z_drewN | apply Kd.Z_drew)); exact (Kd.Z_mono (Kd.Z_far (p := ⟨gb198, 1, none⟩) (Kd.Z_far (p := ⟨gb198, 0, none⟩) (Kd.Z_types HO_3.out BK198.out (by decide)) (fun _ hk => hk.2) (.string ((rd_T122 l0_0 x24_2).f0))) (fun _ hk => hk.2) (.int .i64 ((rd_T122 l0_0 x24_2).f1))) (fun _ h_ => h_.1))))))
         go_meet
         case rel => exact ⟨_, ((mget x3_2 ((rd_T122 l0_0 x24_2).f0)).getD false), (by first | rfl | (simp; done) | (simp [*]; done)), H', ⟨by have := HJ1.out; have := HK2.out; first | omega | exact Nat.le_refl _⟩, ⟨by (with_reducible repeat (first | apply Kd.Z_alloc | apply Kd.Z_drewN | apply Kd.Z_drew)); exact Kd.Z_mono (Kd.Z_far (p := ⟨gb198, 1, none⟩) (Kd.Z_far (p := ⟨gb198, 0, none⟩) (Kd.Z_types HO_3.out BK198.out (by decide)) (fun _ hk => hk.2) (.string ((rd_T122 l0_0 x24_2).f0))) (fun _ hk => hk.2) (.int .i64 ((rd_T122 l0_0 x24_2).f1))) (fun _ hk => trivial)⟩, ⟨by (with_reducible repeat (first | refine qd0 ?_ _ | refine qh0 ?_ | refine qe0 ?_ _)); refine qu0 ?_ NB192_198.out _; (with_reducible repeat (first | refine qd0 ?_ _ | refine qh0 ?_ | refine qe0 ?_ _)); refine qu0 ?_ NB192_198.out _; (with_reducible repeat (first | refine qd0 ?_ _ | refine qh0 ?_ | refine qe0 ?_ _)); exact BK192.out⟩, ⟨by (with_reducible repeat (first | refine qd0 ?_ _ | refine qh0 ?_ | refine qe0 ?_ _)); refine qx0 (cs := #[.string ((rd_T122 l0_0 x24_2).f0), .int .i64 0]) ?_ 1 _ rfl; (with_reducible repeat (first | refine qd0 ?_ _ | refine qh0 ?_ | refine qe0 ?_ _)); refine qx0 (cs := #[.string (⟨#[]⟩ : ByteArray), .int .i64 0]) ?_ 0 _ rfl; (with_reducible repeat (first | refine qd0 ?_ _ | refine qh0 ?_ | refine qe0 ?_ _)); exact BK198.out⟩, ⟨by repeat (first | (with_reducible first | exact HB.out | apply qc0 | apply qa0 | apply qb0 | refine qf0 ?_ GE192.out | refine qf0 ?_ GE198.out) | exact HB.out)⟩⟩
        replace c21 := Bool.eq_false_iff.mpr c21
        subst c21
        have H1 : (impl_RegisterOk.j2 k2 x3_2 l0_0 (l0_0.length : Int) x24_2 true l0_0 l0_1 ((rd_T122 l0_0 x24_2).f0) ((rd_T122 l0_0 x24_2).f1)) = some r := by rw [if_neg (show ¬ (false = true) by decide)] at H; exact H
        clear H
        have H := H1
        clear H1
        have H' := Aside0.mk H
        clear H
        have hnb25 := NB198_192.out
        have hnc25 := NB192_198.out
        have hcz26_0 : w15.cell? ⟨gb198, 0, none⟩ = some (.string (⟨#[]⟩ : ByteArray)) := (qg0 BK198.out 0).trans rfl
        have hcz26_1 : w15.cell? ⟨gb198, 1, none⟩ = some (.int .i64 0) := (qg0 BK198.out 1).trans rfl
        have hfz26_0 := qi0 BK198.out 0
        have hfz26_1 := qi0 BK198.out 1
        go_wp2_with (first | ((with_reducible refine qn0 (f := 86) rfl ?_); refine qe1 (some 30) rfl rfl Try.func86 (by kernel_rfl) rfl #[.string ((rd_T122 l0_0 x24_2).f0)] rfl (by (try simp only [List.map_toArray, List.map_cons, List.map_nil]); first | done | rfl | (simp only [List.length_drop, List.length_take]; rfl)) ?_; (with_reducible refine (impl_NameOk.calls k2 ((rd_T122 l0_0 x24_2).f0) true _ A18.out).mono ?_); rintro e w' ⟨rfl, ⟨nd, rfl⟩⟩; refine ⟨_, rfl, ?_⟩) | (go_at_call 74; (with_reducible refine (impl_between.calls ((rd_T122 l0_0 x24_2).f1) 1 8 false _ A20.out).mono ?_); rintro e w' ⟨rfl, ⟨nd, rfl⟩⟩))
        go_meet
        case rel => exact ⟨_, (true), (by first | rfl | (simp; done) | (simp [*]; done)), H', ⟨by have := HJ1.out; have := HK2.out; first | omega | exact Nat.le_refl _⟩, ⟨by (with_reducible repeat (first | apply Kd.Z_alloc | apply Kd.Z_drewN | apply Kd.Z_drew)); exact Kd.Z_mono (Kd.Z_far (p := ⟨gb198, 1, none⟩) (Kd.Z_far (p := ⟨gb198, 0, none⟩) (Kd.Z_types HO_3.out BK198.out (by decide)) (fun _ hk => hk.2) (.string ((rd_T122 l0_0 x24_2).f0))) (fun _ hk => hk.2) (.int .i64 ((rd_T122 l0_0 x24_2).f1))) (fun _ hk => trivial)⟩, ⟨by (with_reducible repeat (first | refine qd0 ?_ _ | refine qh0 ?_ | refine qe0 ?_ _)); refine qu0 ?_ NB192_198.out _; (with_reducible repeat (first | refine qd0 ?_ _ | refine qh0 ?_ | refine qe0 ?_ _)); refine qu0 ?_ NB192_198.out _; (with_reducible repeat (first | refine qd0 ?_ _ | refine qh0 ?_ | refine qe0 ?_ _)); exact BK192.out⟩, ⟨by (with_reducible repeat (first | refine qd0 ?_ _ | refine qh0 ?_ | refine qe0 ?_ _)); refine qx0 (cs := #[.string ((rd_T122 l0_0 x24_2).f0), .int .i64 0]) ?_ 1 _ rfl; (with_reducible repeat (first | refine qd0 ?_ _ | refine qh0 ?_ | refine qe0 ?_ _)); refine qx0 (cs := #[.string (⟨#[]⟩ : ByteArray), .int .i64 0]) ?_ 0 _ rfl; (with_reducible repeat (first | refine qd0 ?_ _ | refine qh0 ?_ | refine qe0 ?_ _)); exact BK198.out⟩, ⟨by repeat (first | (with_reducible first | exact HB.out | apply qc0 | apply qa0 | apply qb0 | refine qf0 ?_ GE192.out | refine qf0 ?_ GE198.out) | exact HB.out)⟩⟩
       replace c19 := Bool.eq_false_iff.mpr c19
       subst c19
       have H1 : (impl_RegisterOk.j2 k2 x3_2 l0_0 (l0_0.length : Int) x24_2 true l0_0 l0_1 ((rd_T122 l0_0 x24_2).f0) ((rd_T122 l0_0 x24_2).f1)) = some r := by rw [if_neg (show ¬ (false = true) by decide)] at H; exact H
       clear H
       have H := H1
       clear H1
       have H' := Aside0.mk H
       clear H
       have hnb27 := NB198_192.out
       have hnc27 := NB192_198.out
       have hcz28_0 : w15.cell? ⟨gb198, 0, none⟩ = some (.string (⟨#[]⟩ : ByteArray)) := (qg0 BK198.out 0).trans rfl
       have hcz28_1 : w15.cell? ⟨gb198, 1, none⟩ = some (.int .i64 0) := (qg0 BK198.out 1).trans rfl
       have hfz28_0 := qi0 BK198.out 0
       have hfz28_1 := qi0 BK198.out 1
       go_wp2_with (first | ((with_reducible refine qn0 (f := 86) rfl ?_); refine qe1 (some 30) rfl rfl Try.func86 (by kernel_rfl) rfl #[.string ((rd_T122 l0_0 x24_2).f0)] rfl (by (try simp only [List.map_toArray, List.map_cons, List.map_nil]); first | done | rfl | (simp only [List.length_drop, List.length_take]; rfl)) ?_; (with_reducible refine (impl_NameOk.calls k2 ((rd_T122 l0_0 x24_2).f0) false _ A18.out).mono ?_); rintro e w' ⟨rfl, ⟨nd, rfl⟩⟩; refine ⟨_, rfl, ?_⟩))
       go_meet
       case rel => exact ⟨_, (true), (by first | rfl | (simp; done) | (simp [*]; done)), H', ⟨by have := HJ1.out; have := HK2.out; first | omega | exact Nat.le_refl _⟩, ⟨by (with_reducible repeat (first | apply Kd.Z_alloc | apply Kd.Z_drewN | apply Kd.Z_drew)); exact Kd.Z_mono (Kd.Z_far (p := ⟨gb198, 1, none⟩) (Kd.Z_far (p := ⟨gb198, 0, none⟩) (Kd.Z_types HO_3.out BK198.out (by decide)) (fun _ hk => hk.2) (.string ((rd_T122 l0_0 x24_2).f0))) (fun _ hk => hk.2) (.int .i64 ((rd_T122 l0_0 x24_2).f1))) (fun _ hk => trivial)⟩, ⟨by (with_reducible repeat (first | refine qd0 ?_ _ | refine qh0 ?_ | refine qe0 ?_ _)); refine qu0 ?_ NB192_198.out _; (with_reducible repeat (first | refine qd0 ?_ _ | refine qh0 ?_ | refine qe0 ?_ _)); refine qu0 ?_ NB192_198.out _; (with_reducible repeat (first | refine qd0 ?_ _ | refine qh0 ?_ | refine qe0 ?_ _)); exact BK192.out⟩, ⟨by (with_reducible repeat (first | refine qd0 ?_ _ | refine qh0 ?_ | refine qe0 ?_ _)); refine qx0 (cs := #[.string ((rd_T122 l0_0 x24_2).f0), .int .i64 0]) ?_ 1 _ rfl; (with_reducible repeat (first | refine qd0 ?_ _ | refine qh0 ?_ | refine qe0 ?_ _)); refine qx0 (cs := #[.string (⟨#[]⟩ : ByteArray), .int .i64 0]) ?_ 0 _ rfl; (with_reducible repeat (first | refine qd0 ?_ _ | refine qh0 ?_ | refine qe0 ?_ _)); exact BK198.out⟩, ⟨by repeat (first | (with_reducible first | exact HB.out | apply qc0 | apply qa0 | apply qb0 | refine qf0 ?_ GE192.out | refine qf0 ?_ GE198.out) | exact HB.out)⟩⟩
      case rest => as_aux_lemma =>
       clear HC14
       try clear c1
       try clear p1
       try clear q1
       try clear hx1
       try clear c2
       try clear p2
       try clear c4
       try clear c4b0
       try clear c4b1
       try clear c7
       try clear c8
       try clear c11
       try clear c11b0
       try clear c12
       try clear c12b0
       try clear c13
       try clear c13b0
       try clear c16
       try clear c19
       try clear p19
       try clear q19
       try clear hx19
       try clear c21
       try clear c22
       try clear c23
       try clear c24
       try clear c25
       try clear c27
       try clear hcz10_0
       try clear hcz10_1
       try clear hcz17_0
       try clear hcz17_1
       try clear hcz24_0
       try clear hcz24_1
       try clear hcz26_0
       try clear hcz26_1
       try clear hcz28_0
       try clear hcz28_1
       try clear hcz5_0
       try clear hcz5_1
       try clear hcz6_0
       try clear hcz6_1
       try clear hfz10_0
       try clear hfz10_1
       try clear hfz17_0
       try clear hfz17_1
       try clear hfz24_0
       try clear hfz24_1
       try clear hfz26_0
       try clear hfz26_1
       try clear hfz28_0
       try clear hfz28_1
       try clear hfz5_0
       try clear hfz5_1
       try clear hfz6_0
       try clear hfz6_1
       try clear hx197_0
       try clear hx197_1
       try clear p197
       try clear p2
       try clear q197
       obtain ⟨kq, x43_13, rfl, HA, HJ13, HO_3, BK192, BK198, HB⟩ := hcut
       cases kq with
       | zero => exact absurd HA.out (by simp [impl_RegisterOk.j2])
       | succ kj13 =>
        have H := HA.out
        clear HA
        simp only [impl_RegisterOk.j2] at H
        by_cases c29 : x43_13 = true
        ·subst c29
         have H1 : (some false) = some r := by rw [if_pos rfl] at H; exact H
         clear H
         have H := H1
         clear H1
         obtain rfl := Option.some.inj H
         go_wp2
         go_ret
         exact ⟨by first | rfl | (simp [errW_none, errW_some] <;> rfl) | (simp [*, errW_none, errW_some] <;> rfl), by repeat (first | (with_reducible first | exact HB.out | apply qc0 | apply qa0 | apply qb0 | refine qf0 ?_ GE192.out | refine qf0 ?_ GE198.out) | exact HB.out)⟩
        replace c29 := Bool.eq_false_iff.mpr c29
        subst c29
        have H1 : (if ((rd_T122 l0_0 x24_2).f0).size ≤ 9223372036854775807 then (impl_RegisterOk.l0 kj13 (mset x3_2 ((rd_T122 l0_0 x24_2).f0) true) l0_0 (l0_0.length : Int) (wrap64 (x24_2 + 1)) l0_0 l0_1) else (none)) = some r := by rw [if_neg (show ¬ (false = true) by decide)] at H; exact H
        clear H
        have H := H1
        clear H1
        by_cases c30 : ((rd_T122 l0_0 x24_2).f0).size ≤ 9223372036854775807
        case neg => rw [if_neg c30] at H; exact absurd H (by simp)
        rw [if_pos c30] at H
        have LMc30 := Aside0.mk c30
        clear c30
        obtain ⟨y201, hy201⟩ : ∃ y_ : List (ByteArray × Bool), y_ = (mset x3_2 ((rd_T122 l0_0 x24_2).f0) true) := ⟨_, rfl⟩
        replace H : (impl_RegisterOk.l0 kj13 y201 l0_0 (l0_0.length : Int) (wrap64 (x24_2 + 1)) l0_0 l0_1) = some r := by first | (rw [hy201]; with_reducible exact H) | (have H2_ := (Option.bind_some _ _).symm.trans H; rw [hy201]; with_reducible exact H2_) | (have H2_ := (Option.bind_some _ _).symm.trans H; with_reducible exact H2_) | with_reducible exact H | (rw [hy201]; exact H) | exact H
        have Ny201 := Aside0.mk hy201
        clear hy201
        have H' := Aside0.mk H
        clear H
        have hnb31 := NB198_192.out
        have hnc31 := NB192_198.out
        have hcz32_0 : wc.cell? ⟨gb198, 0, none⟩ = some (.string ((rd_T122 l0_0 x24_2).f0)) := (qg0 BK198.out 0).trans rfl
        have hcz32_1 : wc.cell? ⟨gb198, 1, none⟩ = some (.int .i64 ((rd_T122 l0_0 x24_2).f1)) := (qg0 BK198.out 1).trans rfl
        have hfz32_0 := qi0 BK198.out 0
        have hfz32_1 := qi0 BK198.out 1
        have TK201 := Ny201
        go_wp2_with (first | (clear TK201; (with_reducible refine gate_mapset (t := 127) rfl ?_); refine Kd.Z_set_op (base := w.heap.size) (ok := fun _ => True) kz127 127 rfl rfl _ _ _ 127 rfl rfl kz127_K kz127_inj kz127_t mb196 x3_2 ((rd_T122 l0_0 x24_2).f0) true rfl rfl rfl (kz127_key ((rd_T122 l0_0 x24_2).f0) LMc30.out) ?aO ?_; (case aO => exact (by (with_reducible repeat (first | apply Kd.Z_alloc | apply Kd.Z_drewN | apply Kd.Z_drew)); exact HO_3.out)); intro w33 ho_ hg hbb_ hz_; rw [← Ny201.out] at ho_; have n0_ := Aside0.mk (ho_); have n1_ := Aside0.mk (blk_grown (g := gb192) (o := .cells #[.slice (some ad197) l0_0.length c0_0, .slice A0_1 l0_1.length c0_1] 42 (0, 0)) (by (with_reducible repeat (first | refine qd0 ?_ _ | refine qh0 ?_ | refine qe0 ?_ _)); exact BK192.out) hg (blk_neZ (by (with_reducible repeat (first | refine qd0 ?_ _ | refine qh0 ?_ | refine qe0 ?_ _)); exact BK192.out) hz_)); have n2_ := Aside0.mk (blk_grown (g := gb198) (o := .cells #[.string ((rd_T122 l0_0 x24_2).f0), .int .i64 ((rd_T122 l0_0 x24_2).f1)] 122 (0, 0)) (by (with_reducible repeat (first | refine qd0 ?_ _ | refine qh0 ?_ | refine qe0 ?_ _)); exact BK198.out) hg (blk_neZ (by (with_reducible repeat (first | refine qd0 ?_ _ | refine qh0 ?_ | refine qe0 ?_ _)); exact BK198.out) hz_)); have n3_ := Aside0.mk (pw_below_grown (by repeat (first | (with_reducible first | exact HB.out | apply qc0 | apply qa0 | apply qb0 | refine qf0 ?_ GE192.out | refine qf0 ?_ GE198.out) | exact HB.out)) (some mb196) (qk0 (by repeat (first | (with_reducible first | exact HB.out | apply qc0 | apply qa0 | apply qb0 | refine qf0 ?_ GE192.out | refine qf0 ?_ GE198.out) | exact HB.out))) hg (fun k_ e_ => by cases e_; exact hbb_)); clear HO_3; clear BK192; clear BK198; clear HB; have HO_3 := n0_; have BK192 := n1_; have BK198 := n2_; have HB := n3_; clear n0_ n1_ n2_ n3_; clear ho_ hg hbb_ hz_))
        go_roundg kj13
        case measure => have := HJ1.out; have := HK2.out; have := HJ13.out; omega
        case rel => exact ⟨(y201), (wrap64 (x24_2 + 1)), (by first | rfl | (simp; done) | (simp [*]; done)), H', ⟨by have := HJ1.out; have := HK2.out; have := HJ13.out; omega⟩, ⟨by (with_reducible repeat (first | apply Kd.Z_alloc | apply Kd.Z_drewN | apply Kd.Z_drew)); exact HO_3.out⟩, ⟨by (with_reducible repeat (first | refine qd0 ?_ _ | refine qh0 ?_ | refine qe0 ?_ _)); exact BK192.out⟩, ⟨by repeat (first | (with_reducible first | exact HB.out | apply qc0 | apply qa0 | apply qb0 | refine qf0 ?_ GE192.out | refine qf0 ?_ GE198.out) | exact HB.out)⟩⟩
     rw [if_neg c11] at H
     have c11b0 : decide (x24_2 < (l0_0.length : Int)) = false := decide_eq_false c11
     clear c11
     obtain ⟨y202, hy202⟩ : ∃ y_ : List (Int × Int), y_ = (([] : List (Int × Int))) := ⟨_, rfl⟩
     replace H : (impl_RegisterOk.l1 k2 y202 (([] : List (Int × Int))) l0_1 (l0_1.length : Int) 0 l0_0 l0_1) = some r := by first | (rw [hy202]; with_reducible exact H) | (have H2_ := (Option.bind_some _ _).symm.trans H; rw [hy202]; with_reducible exact H2_) | (have H2_ := (Option.bind_some _ _).symm.trans H; with_reducible exact H2_) | with_reducible exact H | (rw [hy202]; exact H) | exact H
     have Ny202 := Aside0.mk hy202
     clear hy202
     obtain ⟨y206, hy206⟩ : ∃ y_ : List (Int × Int), y_ = (([] : List (Int × Int))) := ⟨_, rfl⟩
     replace H : (impl_RegisterOk.l1 k2 y202 y206 l0_1 (l0_1.length : Int) 0 l0_0 l0_1) = some r := by first | (rw [hy206]; with_reducible exact H) | (have H2_ := (Option.bind_some _ _).symm.trans H; rw [hy206]; with_reducible exact H2_) | (have H2_ := (Option.bind_some _ _).symm.trans H; with_reducible exact H2_) | with_reducible exact H | (rw [hy206]; exact H) | exact H
     have Ny206 := Aside0.mk hy206
     clear hy206
     have H' := Aside0.mk H
     clear H
     go_wp2_with (first | ((with_reducible refine qs0 (N := 48) rfl ?_); (try (refine gate_guard (by rfl) ?_; dsimp only)); refine Kd.Z_make_op kz128 128 (ok := fun _ => True) rfl (N := 48) rfl rfl trivial ?_; intro mb205 hq_ w34 ho35 hb; rw [← Ny202.out] at ho35; have n0_ := Aside0.mk (Kd.Z_below (by (with_reducible repeat (first | apply Kd.Z_alloc | apply Kd.Z_drewN | apply Kd.Z_drew)); exact HO_3.out) hb); have n1_ := Aside0.mk (qm0 (g := gb192) (o := .cells #[.slice A0_0 l0_0.length c0_0, .slice A0_1 l0_1.length c0_1] 42 (0, 0)) (by (with_reducible repeat (first | refine qd0 ?_ _ | refine qh0 ?_ | refine qe0 ?_ _)); exact BK192.out) hb); have n2_ := Aside0.mk (ql0 (by repeat (first | (with_reducible first | exact HB.out | apply qc0 | apply qa0 | apply qb0 | refine qf0 ?_ GE192.out) | exact HB.out)) hb); have n3_ := Aside0.mk (Kd.Z_lower ho35 (qk0 (by repeat (first | (with_reducible first | exact HB.out | apply qc0 | apply qa0 | apply qb0 | refine qf0 ?_ GE192.out) | exact HB.out)))); have n4_ := Aside0.mk ((by rw [hq_]; exact Nat.ne_of_lt (Kd.Z_lt (show Kd.Z kz127 127 _ _ _ (.map (some mb196)) x3_2 from by (with_reducible repeat (first | apply Kd.Z_alloc | apply Kd.Z_drewN | apply Kd.Z_drew)); exact HO_3.out)) : mb196 ≠ mb205)); have n5_ := Aside0.mk ((by rw [hq_]; exact Nat.ne_of_gt (Kd.Z_lt (show Kd.Z kz127 127 _ _ _ (.map (some mb196)) x3_2 from by (with_reducible repeat (first | apply Kd.Z_alloc | apply Kd.Z_drewN | apply Kd.Z_drew)); exact HO_3.out)) : mb205 ≠ mb196)); clear HO_3; clear BK192; clear HB; have HO_3 := n0_; have BK192 := n1_; have HB := n2_; have HO204 := n3_; have HZmb196_mb205 := n4_; have HZmb205_mb196 := n5_; clear n0_ n1_ n2_ n3_ n4_ n5_; clear hb ho35 hq_) | ((with_reducible refine qs0 (N := 49) rfl ?_); (try (refine gate_guard (by rfl) ?_; dsimp only)); refine Kd.Z_make_op kz128 128 (ok := fun _ => True) rfl (N := 49) rfl rfl trivial ?_; intro mb209 hq_ w36 ho37 hb; rw [← Ny206.out] at ho37; have n0_ := Aside0.mk (Kd.Z_below (by (with_reducible repeat (first | apply Kd.Z_alloc | apply Kd.Z_drewN | apply Kd.Z_drew)); exact HO_3.out) hb); have n1_ := Aside0.mk (Kd.Z_below (by (with_reducible repeat (first | apply Kd.Z_alloc | apply Kd.Z_drewN | apply Kd.Z_drew)); exact HO204.out) hb); have n2_ := Aside0.mk (qm0 (g := gb192) (o := .cells #[.slice A0_0 l0_0.length c0_0, .slice A0_1 l0_1.length c0_1] 42 (0, 0)) (by (with_reducible repeat (first | refine qd0 ?_ _ | refine qh0 ?_ | refine qe0 ?_ _)); exact BK192.out) hb); have n3_ := Aside0.mk (ql0 (by repeat (first | (with_reducible first | exact HB.out | apply qc0 | apply qa0 | apply qb0 | refine qf0 ?_ GE192.out) | exact HB.out)) hb); have n4_ := Aside0.mk (Kd.Z_lower ho37 (qk0 (by repeat (first | (with_reducible first | exact HB.out | apply qc0 | apply qa0 | apply qb0 | refine qf0 ?_ GE192.out) | exact HB.out)))); have n5_ := Aside0.mk ((by rw [hq_]; exact Nat.ne_of_lt (Kd.Z_lt (show Kd.Z kz127 127 _ _ _ (.map (some mb196)) x3_2 from by (with_reducible repeat (first | apply Kd.Z_alloc | apply Kd.Z_drewN | apply Kd.Z_drew)); exact HO_3.out)) : mb196 ≠ mb209)); have n6_ := Aside0.mk ((by rw [hq_]; exact Nat.ne_of_gt (Kd.Z_lt (show Kd.Z kz127 127 _ _ _ (.map (some mb196)) x3_2 from by (with_reducible repeat (first | apply Kd.Z_alloc | apply Kd.Z_drewN | apply Kd.Z_drew)); exact HO_3.out)) : mb209 ≠ mb196)); have n7_ := Aside0.mk ((by rw [hq_]; exact Nat.ne_of_lt (Kd.Z_lt (show Kd.Z kz128 128 _ _ _ (.map (some mb205)) y202 from by (with_reducible repeat (first | apply Kd.Z_alloc | apply Kd.Z_drewN | apply Kd.Z_drew)); exact HO204.out)) : mb205 ≠ mb209)); have n8_ := Aside0.mk ((by rw [hq_]; exact Nat.ne_of_gt (Kd.Z_lt (show Kd.Z kz128 128 _ _ _ (.map (some mb205)) y202 from by (with_reducible repeat (first | apply Kd.Z_alloc | apply Kd.Z_drewN | apply Kd.Z_drew)); exact HO204.out)) : mb209 ≠ mb205)); clear HO_3; clear HO204; clear BK192; clear HB; have HO_3 := n0_; have HO204 := n1_; have BK192 := n2_; have HB := n3_; have HO208 := n4_; have HZmb196_mb209 := n5_; have HZmb209_mb196 := n6_; have HZmb205_mb209 := n7_; have HZmb209_mb205 := n8_; clear n0_ n1_ n2_ n3_ n4_ n5_ n6_ n7_ n8_; clear hb ho37 hq_; have hcz38_0 : w36.cell? ⟨gb192, 0, none⟩ = some (.slice A0_0 l0_0.length c0_0) := (qg0 BK192.out 0).trans rfl; have hcz38_1 : w36.cell? ⟨gb192, 1, none⟩ = some (.slice A0_1 l0_1.length c0_1) := (qg0 BK192.out 1).trans rfl; have hfz38_0 := qi0 BK192.out 0; have hfz38_1 := qi0 BK192.out 1))
     go_loopg [53] k2 (fun kq v53 w' => ∃ (x6_3 : List (Int × Int)) (x7_3 : List (Int × Int)) (x53_3 : Int), v53 = .int .i64 x53_3 ∧ Aside0 (impl_RegisterOk.l1 kq x6_3 x7_3 l0_1 (l0_1.length : Int) x53_3 l0_0 l0_1 = some r) ∧ Aside0 (kq ≤ k2) ∧ Aside0 (Kd.Z kz128 128 w' w.heap.size (fun _ => True) (.map (some mb205)) x6_3) ∧ Aside0 (Kd.Z kz128 128 w' w.heap.size (fun _ => True) (.map (some mb209)) x7_3) ∧ Aside0 (w'.heap[gb192]? = some (.cells #[(.slice A0_0 l0_0.length c0_0), (.slice A0_1 l0_1.length c0_1)] 42 (0, 0))) ∧ Aside0 (Below w.heap.size w w'))
     case atStart => exact ⟨(y202), (y206), (0), (by first | rfl | (simp; done) | (simp [*]; done)), H', ⟨Nat.le_refl _⟩, ⟨by (with_reducible repeat (first | apply Kd.Z_alloc | apply Kd.Z_drewN | apply Kd.Z_drew)); exact HO204.out⟩, ⟨by (with_reducible repeat (first | apply Kd.Z_alloc | apply Kd.Z_drewN | apply Kd.Z_drew)); exact HO208.out⟩, ⟨by (with_reducible repeat (first | refine qd0 ?_ _ | refine qh0 ?_ | refine qe0 ?_ _)); exact BK192.out⟩, ⟨by repeat (first | (with_reducible first | exact HB.out | apply qc0 | apply qa0 | apply qb0 | refine qf0 ?_ GE192.out) | exact HB.out)⟩⟩
     case round => as_aux_lemma =>
      clear H'
      try clear c1
      try clear p1
      try clear q1
      try clear hx1
      try clear c2
      try clear p2
      try clear c3
      try clear c4
      try clear c4b0
      try clear c4b1
      try clear p6
      try clear c7
      try clear c8
      try clear c11
      try clear c11b0
      try clear c12
      try clear c12b0
      try clear c13
      try clear c13b0
      try clear c16
      try clear c19
      try clear p19
      try clear q19
      try clear hx19
      try clear c21
      try clear c22
      try clear c23
      try clear c24
      try clear c25
      try clear c27
      try clear c29
      try clear c30
      try clear c31
      try clear hcz10_0
      try clear hcz10_1
      try clear hcz17_0
      try clear hcz17_1
      try clear hcz24_0
      try clear hcz24_1
      try clear hcz26_0
      try clear hcz26_1
      try clear hcz28_0
      try clear hcz28_1
      try clear hcz32_0
      try clear hcz32_1
      try clear hcz38_0
      try clear hcz38_1
      try clear hcz5_0
      try clear hcz5_1
      try clear hcz6_0
      try clear hcz6_1
      try clear hfz10_0
      try clear hfz10_1
      try clear hfz17_0
      try clear hfz17_1
      try clear hfz24_0
      try clear hfz24_1
      try clear hfz26_0
      try clear hfz26_1
      try clear hfz28_0
      try clear hfz28_1
      try clear hfz32_0
      try clear hfz32_1
      try clear hfz38_0
      try clear hfz38_1
      try clear hfz5_0
      try clear hfz5_1
      try clear hfz6_0
      try clear hfz6_1
      try clear hx197_0
      try clear hx197_1
      try clear p1
      try clear p19
      try clear p197
      try clear p2
      try clear q1
      try clear q19
      try clear q197
      obtain ⟨x6_3, x7_3, x53_3, rfl, HA, HK3, HO_6, HO_7, BK192, HB⟩ := hrel
      cases gk with
      | zero => exact absurd HA.out (by simp [impl_RegisterOk.l1])
      | succ k3 =>
       have H := HA.out
       clear HA
       simp only [impl_RegisterOk.l1] at H
       by_cases c39 : x53_3 < (l0_1.length : Int)
       ·rw [if_pos c39] at H
        have c39b0 : decide (x53_3 < (l0_1.length : Int)) = true := decide_eq_true c39
        clear c39
        by_cases c40 : 0 ≤ x53_3
        case neg => rw [if_neg c40] at H; exact absurd H (by simp)
        rw [if_pos c40] at H
        have c40b0 : decide (0 ≤ x53_3) = true := decide_eq_true c40
        clear c40
        by_cases c41 : x53_3 < (l0_1.length : Int)
        case neg => rw [if_neg c41] at H; exact absurd H (by simp)
        rw [if_pos c41] at H
        have c41b0 : decide (x53_3 < (l0_1.length : Int)) = true := decide_eq_true c41
        clear c41
        have HC42 := Aside0.mk H
        clear H
        have p210 : 0 ≤ (x53_3 : Int) := of_decide_eq_true (by first | (with_reducible assumption) | assumption)
        have q210 : x53_3 < (l0_1.length : Int) := of_decide_eq_true (by first | (with_reducible assumption) | assumption)
        obtain ⟨ad210, e210, hx210_0, hx210_1, hx210_2, hx210_3⟩ := at_T53 HR0_1.out x53_3 p210 q210
        cases e210
        replace hx210_0 := (HB.out.cell (World.block_lt_of_cell? w _ hx210_0)).trans hx210_0
        replace hx210_1 := (HB.out.cell (World.block_lt_of_cell? w _ hx210_1)).trans hx210_1
        replace hx210_2 := (HB.out.cell (World.block_lt_of_cell? w _ hx210_2)).trans hx210_2
        replace hx210_3 := (HB.out.cell (World.block_lt_of_cell? w _ hx210_3)).trans hx210_3
        replace p210 := eq_true p210
        replace q210 := eq_true q210
        go_upto_region 16 with (first | ((with_reducible refine qs0 (N := 9) rfl ?_); (try (refine gate_guard (by rfl) ?_; dsimp only)); refine qr0 ?hg (N := 9) ?hd (cs := #[.int .i64 0, .int .i64 0, .int .i64 0, .bool false]) (t := 53) ?hr ?_; (case hd => rfl); (case hg => rfl); (case hr => first | (go_simp; done) | (go_simp; rfl)); intro gb211 hg w43 hbox hb; have n0_ := Aside0.mk (Kd.Z_below (by (with_reducible repeat (first | apply Kd.Z_alloc | apply Kd.Z_drewN | apply Kd.Z_drew)); exact HO_6.out) hb); have n1_ := Aside0.mk (Kd.Z_below (by (with_reducible repeat (first | apply Kd.Z_alloc | apply Kd.Z_drewN | apply Kd.Z_drew)); exact HO_7.out) hb); have n2_ := Aside0.mk (qm0 (g := gb192) (o := .cells #[.slice A0_0 l0_0.length c0_0, .slice (some ad210) l0_1.length c0_1] 42 (0, 0)) (by (with_reducible repeat (first | refine qd0 ?_ _ | refine qh0 ?_ | refine qe0 ?_ _)); exact BK192.out) hb); have n3_ := Aside0.mk (ql0 (by repeat (first | (with_reducible first | exact HB.out | apply qc0 | apply qa0 | apply qb0 | refine qf0 ?_ GE192.out) | exact HB.out)) hb); have n4_ := Aside0.mk (hbox); have n5_ := Aside0.mk ((by rw [hg]; exact (qk0 (by repeat (first | (with_reducible first | exact HB.out | apply qc0 | apply qa0 | apply qb0 | refine qf0 ?_ GE192.out) | exact HB.out))) : w.heap.size ≤ gb211)); have n6_ := Aside0.mk ((by rw [hg]; exact (qk0 (by repeat (first | (with_reducible first | exact HB.out | apply qc0 | apply qa0 | apply qb0 | refine qf0 ?_ GE192.out) | exact HB.out))) : w.heap.size ≤ gb211)); have n7_ := Aside0.mk ((by rw [hg]; exact Nat.ne_of_lt (qa1 (g := gb192) (o := .cells #[.slice A0_0 l0_0.length c0_0, .slice (some ad210) l0_1.length c0_1] 42 (0, 0)) (by (with_reducible repeat (first | refine qd0 ?_ _ | refine qh0 ?_ | refine qe0 ?_ _)); exact BK192.out)) : gb192 ≠ gb211)); have n8_ := Aside0.mk ((by rw [hg]; exact Nat.ne_of_gt (qa1 (g := gb192) (o := .cells #[.slice A0_0 l0_0.length c0_0, .slice (some ad210) l0_1.length c0_1] 42 (0, 0)) (by (with_reducible repeat (first | refine qd0 ?_ _ | refine qh0 ?_ | refine qe0 ?_ _)); exact BK192.out)) : gb211 ≠ gb192)); clear HO_6; clear HO_7; clear BK192; clear HB; have HO_6 := n0_; have HO_7 := n1_; have BK192 := n2_; have HB := n3_; have BK211 := n4_; have GW211 := n5_; have GE211 := n6_; have NB192_211 := n7_; have NB211_192 := n8_; clear n0_ n1_ n2_ n3_ n4_ n5_ n6_ n7_ n8_; clear hb hbox hg; have hnb44 := NB211_192.out; have hnc44 := NB192_211.out; have hcz45_0 : w43.cell? ⟨gb211, 0, none⟩ = some (.int .i64 0) := (qg0 BK211.out 0).trans rfl; have hcz45_1 : w43.cell? ⟨gb211, 1, none⟩ = some (.int .i64 0) := (qg0 BK211.out 1).trans rfl; have hcz45_2 : w43.cell? ⟨gb211, 2, none⟩ = some (.int .i64 0) := (qg0 BK211.out 2).trans rfl; have hcz45_3 : w43.cell? ⟨gb211, 3, none⟩ = some (.bool false) := (qg0 BK211.out 3).trans rfl; have hfz45_0 := qi0 BK211.out 0; have hfz45_1 := qi0 BK211.out 1; have hfz45_2 := qi0 BK211.out 2; have hfz45_3 := qi0 BK211.out 3))
        (try simp only [Act.put, List.setIfInBounds_toArray, List.set_cons_zero, List.set_cons_succ])
        go_cut [105] (fun v105 wc => ∃ (kq : Nat) (x105_41 : Bool), v105 = .bool x105_41 ∧ Aside0 (impl_RegisterOk.j4 kq x6_3 x7_3 l0_1 (l0_1.length : Int) x53_3 x105_41 l0_0 l0_1 ((rd_T53 l0_1 x53_3).f0) ((rd_T53 l0_1 x53_3).f1) ((rd_T53 l0_1 x53_3).f2) ((rd_T53 l0_1 x53_3).f3) = some r) ∧ Aside0 (kq ≤ k3) ∧ Aside0 (Kd.Z kz128 128 wc w.heap.size (fun _ => True) (.map (some mb205)) x6_3) ∧ Aside0 (Kd.Z kz128 128 wc w.heap.size (fun _ => True) (.map (some mb209)) x7_3) ∧ Aside0 (wc.heap[gb192]? = some (.cells #[(.slice A0_0 l0_0.length c0_0), (.slice (some ad210) l0_1.length c0_1)] 42 (0, 0))) ∧ Aside0 (wc.heap[gb211]? = some (.cells #[.int .i64 ((rd_T53 l0_1 x53_3).f0), .int .i64 ((rd_T53 l0_1 x53_3).f1), .int .i64 ((rd_T53 l0_1 x53_3).f2), .bool ((rd_T53 l0_1 x53_3).f3)] 53 (0, 0))) ∧ Aside0 (Below w.heap.size w wc))
        case first => as_aux_lemma =>
         have H := HC42.out
         clear HC42
         by_cases c46 : ((rd_T53 l0_1 x53_3).f0) < 0
         ·rw [if_pos c46] at H
          have c46b0 : decide (((rd_T53 l0_1 x53_3).f0) < 0) = true := decide_eq_true c46
          clear c46
          (first | rw [c46b0] | (simp only [i64_w, i32_w]; rw [c46b0]) | skip)
          have H' := Aside0.mk H
          clear H
          try go_wp2
          have n0_ : Aside0 (Kd.Z kz128 128 ((((w43.setCell ⟨gb211, 0, none⟩ (.int .i64 ((rd_T53 l0_1 x53_3).f0))).setCell ⟨gb211, 1, none⟩ (.int .i64 ((rd_T53 l0_1 x53_3).f1))).setCell ⟨gb211, 2, none⟩ (.int .i64 ((rd_T53 l0_1 x53_3).f2))).setCell ⟨gb211, 3, none⟩ (.bool ((rd_T53 l0_1 x53_3).f3))) w.heap.size (fun _ => True) (.map (some mb205)) x6_3) := ⟨by (with_reducible repeat (first | apply Kd.Z_alloc | apply Kd.Z_drewN | apply Kd.Z_drew)); exact Kd.Z_mono (Kd.Z_far (p := ⟨gb211, 3, none⟩) (Kd.Z_far (p := ⟨gb211, 2, none⟩) (Kd.Z_far (p := ⟨gb211, 1, none⟩) (Kd.Z_far (p := ⟨gb211, 0, none⟩) (Kd.Z_types HO_6.out BK211.out (by decide)) (fun _ hk => hk.2) (.int .i64 ((rd_T53 l0_1 x53_3).f0))) (fun _ hk => hk.2) (.int .i64 ((rd_T53 l0_1 x53_3).f1))) (fun _ hk => hk.2) (.int .i64 ((rd_T53 l0_1 x53_3).f2))) (fun _ hk => hk.2) (.bool ((rd_T53 l0_1 x53_3).f3))) (fun _ hk => trivial)⟩
          have n1_ : Aside0 (Kd.Z kz128 128 ((((w43.setCell ⟨gb211, 0, none⟩ (.int .i64 ((rd_T53 l0_1 x53_3).f0))).setCell ⟨gb211, 1, none⟩ (.int .i64 ((rd_T53 l0_1 x53_3).f1))).setCell ⟨gb211, 2, none⟩ (.int .i64 ((rd_T53 l0_1 x53_3).f2))).setCell ⟨gb211, 3, none⟩ (.bool ((rd_T53 l0_1 x53_3).f3))) w.heap.size (fun _ => True) (.map (some mb209)) x7_3) := ⟨by (with_reducible repeat (first | apply Kd.Z_alloc | apply Kd.Z_drewN | apply Kd.Z_drew)); exact Kd.Z_mono (Kd.Z_far (p := ⟨gb211, 3, none⟩) (Kd.Z_far (p := ⟨gb211, 2, none⟩) (Kd.Z_far (p := ⟨gb211, 1, none⟩) (Kd.Z_far (p := ⟨gb211, 0, none⟩) (Kd.Z_types HO_7.out BK211.out (by decide)) (fun _ hk => hk.2) (.int .i64 ((rd_T53 l0_1 x53_3).f0))) (fun _ hk => hk.2) (.int .i64 ((rd_T53 l0_1 x53_3).f1))) (fun _ hk => hk.2) (.int .i64 ((rd_T53 l0_1 x53_3).f2))) (fun _ hk => hk.2) (.bool ((rd_T53 l0_1 x53_3).f3))) (fun _ hk => trivial)⟩
          have n2_ : Aside0 (((((w43.setCell ⟨gb211, 0, none⟩ (.int .i64 ((rd_T53 l0_1 x53_3).f0))).setCell ⟨gb211, 1, none⟩ (.int .i64 ((rd_T53 l0_1 x53_3).f1))).setCell ⟨gb211, 2, none⟩ (.int .i64 ((rd_T53 l0_1 x53_3).f2))).setCell ⟨gb211, 3, none⟩ (.bool ((rd_T53 l0_1 x53_3).f3))).heap[gb192]? = some (.cells #[.slice A0_0 l0_0.length c0_0, .slice (some ad210) l0_1.length c0_1] 42 (0, 0))) := ⟨by (with_reducible repeat (first | refine qd0 ?_ _ | refine qh0 ?_ | refine qe0 ?_ _)); refine qu0 ?_ NB192_211.out _; (with_reducible repeat (first | refine qd0 ?_ _ | refine qh0 ?_ | refine qe0 ?_ _)); refine qu0 ?_ NB192_211.out _; (with_reducible repeat (first | refine qd0 ?_ _ | refine qh0 ?_ | refine qe0 ?_ _)); refine qu0 ?_ NB192_211.out _; (with_reducible repeat (first | refine qd0 ?_ _ | refine qh0 ?_ | refine qe0 ?_ _)); refine qu0 ?_ NB192_211.out _; (with_reducible repeat (first | refine qd0 ?_ _ | refine qh0 ?_ | refine qe0 ?_ _)); exact BK192.out⟩
          have n3_ : Aside0 (((((w43.setCell ⟨gb211, 0, none⟩ (.int .i64 ((rd_T53 l0_1 x53_3).f0))).setCell ⟨gb211, 1, none⟩ (.int .i64 ((rd_T53 l0_1 x53_3).f1))).setCell ⟨gb211, 2, none⟩ (.int .i64 ((rd_T53 l0_1 x53_3).f2))).setCell ⟨gb211, 3, none⟩ (.bool ((rd_T53 l0_1 x53_3).f3))).heap[gb211]? = some (.cells #[.int .i64 ((rd_T53 l0_1 x53_3).f0), .int .i64 ((rd_T53 l0_1 x53_3).f1), .int .i64 ((rd_T53 l0_1 x53_3).f2), .bool ((rd_T53 l0_1 x53_3).f3)] 53 (0, 0))) := ⟨by (with_reducible repeat (first | refine qd0 ?_ _ | refine qh0 ?_ | refine qe0 ?_ _)); refine qx0 (cs := #[.int .i64 ((rd_T53 l0_1 x53_3).f0), .int .i64 ((rd_T53 l0_1 x53_3).f1), .int .i64 ((rd_T53 l0_1 x53_3).f2), .bool false]) ?_ 3 _ rfl; (with_reducible repeat (first | refine qd0 ?_ _ | refine qh0 ?_ | refine qe0 ?_ _)); refine qx0 (cs := #[.int .i64 ((rd_T53 l0_1 x53_3).f0), .int .i64 ((rd_T53 l0_1 x53_3).f1), .int .i64 0, .bool false]) ?_ 2 _ rfl; (with_reducible repeat (first | refine qd0 ?_ _ | refine qh0 ?_ | refine qe0 ?_ _)); refine qx0 (cs := #[.int .i64 ((rd_T53 l0_1 x53_3).f0), .int .i64 0, .int .i64 0, .bool false]) ?_ 1 _ rfl; (with_reducible repeat (first | refine qd0 ?_ _ | refine qh0 ?_ | refine qe0 ?_ _)); refine qx0 (cs := #[.int .i64 0, .int .i64 0, .int .i64 0, .bool false]) ?_ 0 _ rfl; (with_reducible repeat (first | refine qd0 ?_ _ | refine qh0 ?_ | refine qe0 ?_ _)); exact BK211.out⟩
          have n4_ : Aside0 (Below w.heap.size w ((((w43.setCell ⟨gb211, 0, none⟩ (.int .i64 ((rd_T53 l0_1 x53_3).f0))).setCell ⟨gb211, 1, none⟩ (.int .i64 ((rd_T53 l0_1 x53_3).f1))).setCell ⟨gb211, 2, none⟩ (.int .i64 ((rd_T53 l0_1 x53_3).f2))).setCell ⟨gb211, 3, none⟩ (.bool ((rd_T53 l0_1 x53_3).f3)))) := ⟨by repeat (first | (with_reducible first | exact HB.out | apply qc0 | apply qa0 | apply qb0 | refine qf0 ?_ GE192.out | refine qf0 ?_ GE211.out) | exact HB.out)⟩
          (try clear HO_6)
          (try clear HO_7)
          (try clear BK192)
          (try clear BK211)
          (try clear HB)
          generalize ((((w43.setCell ⟨gb211, 0, none⟩ (.int .i64 ((rd_T53 l0_1 x53_3).f0))).setCell ⟨gb211, 1, none⟩ (.int .i64 ((rd_T53 l0_1 x53_3).f1))).setCell ⟨gb211, 2, none⟩ (.int .i64 ((rd_T53 l0_1 x53_3).f2))).setCell ⟨gb211, 3, none⟩ (.bool ((rd_T53 l0_1 x53_3).f3))) = w47 at n0_ n1_ n2_ n3_ n4_ ⊢
          have HO_6 := n0_
          have HO_7 := n1_
          have BK192 := n2_
          have BK211 := n3_
          have HB := n4_
          clear n0_ n1_ n2_ n3_ n4_
          have n0_ := Aside0.mk (Kd.Z_drew HO_6.out)
          have n1_ := Aside0.mk (Kd.Z_drew HO_7.out)
          have n2_ := Aside0.mk (qh0 BK192.out)
          have n3_ := Aside0.mk (qh0 BK211.out)
          have n4_ := Aside0.mk (qb0 HB.out)
          clear HO_6
          clear HO_7
          clear BK192
          clear BK211
          clear HB
          have HO_6 := n0_
          have HO_7 := n1_
          have BK192 := n2_
          have BK211 := n3_
          have HB := n4_
          clear n0_ n1_ n2_ n3_ n4_
          refine qo1 (n := 49) (S := fun w' => w'.cell? ⟨gb211, 0, none⟩ = some (.int .i64 ((rd_T53 l0_1 x53_3).f0)) ∧ w'.cell? ⟨gb211, 1, none⟩ = some (.int .i64 ((rd_T53 l0_1 x53_3).f1)) ∧ w'.cell? ⟨gb211, 2, none⟩ = some (.int .i64 ((rd_T53 l0_1 x53_3).f2)) ∧ w'.cell? ⟨gb211, 3, none⟩ = some (.bool ((rd_T53 l0_1 x53_3).f3))) (ds := []) (rb8 [0, 49]) (by kernel_rfl) rfl rfl ⟨(qg0 BK211.out 0).trans rfl, (qg0 BK211.out 1).trans rfl, (qg0 BK211.out 2).trans rfl, (qg0 BK211.out 3).trans rfl⟩ (fun hHeld => ?_); refine qf1 impl_RegisterOk.tab16 impl_RegisterOk.bits16 (fun HT_ HW_ => ?_)
          generalize w47.drew = w48 at HO_6 HO_7 BK192 BK211 HB hHeld ⊢
          refine pure_ (i := 0) (N := some 57) (v := ?_) (a' := ?_) (rb8 [1, 48]) rfl rfl (qj0 HT_.out (by kernel_rfl)) (fun _ _ _ h => h) (Or.inl ⟨by rfl, ?_⟩) ?_ ?_
          rotate_left
          ·intro w'
           go_simp
           with_reducible rfl
          rotate_left
          ·simp only [Act.put, List.setIfInBounds_toArray, List.set_cons_zero, List.set_cons_succ, i64_w, i32_w]
           rfl
          refine take_ (i := 1) (N := some 58) (v := ?_) (a' := ?_) (rb8 [2, 47]) rfl rfl (qo0 HT_.out HW_.out (by kernel_rfl)) (fun _ _ _ h => h) (Or.inl ⟨by rfl, ?_⟩) hHeld ?_ ?_
          rotate_left
          ·rintro w' ⟨s0, s1, s2, s3⟩
           go_simp
           with_reducible rfl
          rotate_left
          ·simp only [Act.put, List.setIfInBounds_toArray, List.set_cons_zero, List.set_cons_succ, i64_w, i32_w]
           rfl
          refine pure_ (i := 2) (N := some 59) (v := ?_) (a' := ?_) (rb8 [3, 46]) rfl rfl (qj0 HT_.out (by kernel_rfl)) (fun _ _ _ h => h) (Or.inl ⟨by rfl, ?_⟩) ?_ ?_
          rotate_left
          ·intro w'
           go_simp
           with_reducible rfl
          rotate_left
          ·simp only [Act.put, List.setIfInBounds_toArray, List.set_cons_zero, List.set_cons_succ, i64_w, i32_w]
           rfl
          refine pure_ (i := 3) (N := some 60) (v := ?_) (a' := ?_) (rb8 [4, 45]) rfl rfl (qj0 HT_.out (by kernel_rfl)) (fun _ _ _ h => h) (Or.inl ⟨by rfl, ?_⟩) ?_ ?_
          rotate_left
          ·intro w'
           go_simp
           with_reducible rfl
          rotate_left
          ·simp only [Act.put, List.setIfInBounds_toArray, List.set_cons_zero, List.set_cons_succ, i64_w, i32_w]
           rfl
          refine pure_ (i := 4) (N := some 61) (v := undef) (a' := ?_) (rb8 [5, 44]) rfl rfl (qj0 HT_.out (by kernel_rfl)) (fun _ _ _ h => h) (Or.inr ⟨by rfl, rfl⟩) ?_ ?_
          rotate_left
          ·simp only [Act.put, List.setIfInBounds_toArray, List.set_cons_zero, List.set_cons_succ, i64_w, i32_w]
           rfl
          refine pure_ (i := 5) (N := some 62) (v := undef) (a' := ?_) (rb8 [6, 43]) rfl rfl (qj0 HT_.out (by kernel_rfl)) (fun _ _ _ h => h) (Or.inr ⟨by rfl, rfl⟩) ?_ ?_
          rotate_left
          ·simp only [Act.put, List.setIfInBounds_toArray, List.set_cons_zero, List.set_cons_succ, i64_w, i32_w]
           rfl
          refine pure_ (i := 6) (N := some 63) (v := undef) (a' := ?_) (rb8 [7, 42]) rfl rfl (qj0 HT_.out (by kernel_rfl)) (fun _ _ _ h => h) (Or.inr ⟨by rfl, rfl⟩) ?_ ?_
          rotate_left
          ·simp only [Act.put, List.setIfInBounds_toArray, List.set_cons_zero, List.set_cons_succ, i64_w, i32_w]
           rfl
          refine pure_ (i := 7) (N := some 64) (v := undef) (a' := ?_) (rb8 [8, 41]) rfl rfl (qj0 HT_.out (by kernel_rfl)) (fun _ _ _ h => h) (Or.inr ⟨by rfl, rfl⟩) ?_ ?_
          rotate_left
          ·simp only [Act.put, List.setIfInBounds_toArray, List.set_cons_zero, List.set_cons_succ, i64_w, i32_w]
           rfl
          refine pure_ (i := 8) (N := some 65) (v := undef) (a' := ?_) (rb8 [9, 40]) rfl rfl (qj0 HT_.out (by kernel_rfl)) (fun _ _ _ h => h) (Or.inr ⟨by rfl, rfl⟩) ?_ ?_
          rotate_left
          ·simp only [Act.put, List.setIfInBounds_toArray, List.set_cons_zero, List.set_cons_succ, i64_w, i32_w]
           rfl
          refine pure_ (i := 9) (N := some 66) (v := undef) (a' := ?_) (rb8 [10, 39]) rfl rfl (qj0 HT_.out (by kernel_rfl)) (fun _ _ _ h => h) (Or.inr ⟨by rfl, rfl⟩) ?_ ?_
          rotate_left
          ·simp only [Act.put, List.setIfInBounds_toArray, List.set_cons_zero, List.set_cons_succ, i64_w, i32_w]
           rfl
          refine pure_ (i := 10) (N := some 67) (v := ?_) (a' := ?_) (rb8 [11, 38]) rfl rfl (qj0 HT_.out (by kernel_rfl)) (fun _ _ _ h => h) (Or.inl ⟨by rfl, ?_⟩) ?_ ?_
          rotate_left
          ·intro w'
           go_simp
           with_reducible rfl
          rotate_left
          ·simp only [Act.put, List.setIfInBounds_toArray, List.set_cons_zero, List.set_cons_succ, i64_w, i32_w]
           rfl
          refine pure_ (i := 11) (N := some 68) (v := ?_) (a' := ?_) (rb8 [12, 37]) rfl rfl (qj0 HT_.out (by kernel_rfl)) (fun _ _ _ h => h) (Or.inl ⟨by rfl, ?_⟩) ?_ ?_
          rotate_left
          ·intro w'
           go_simp
           with_reducible rfl
          rotate_left
          ·simp only [Act.put, List.setIfInBounds_toArray, List.set_cons_zero, List.set_cons_succ, i64_w, i32_w]
           rfl
          refine pure_ (i := 12) (N := some 69) (v := undef) (a' := ?_) (rb8 [13, 36]) rfl rfl (qj0 HT_.out (by kernel_rfl)) (fun _ _ _ h => h) (Or.inr ⟨by rfl, rfl⟩) ?_ ?_
          rotate_left
          ·simp only [Act.put, List.setIfInBounds_toArray, List.set_cons_zero, List.set_cons_succ, i64_w, i32_w]
           rfl
          refine pure_ (i := 13) (N := some 70) (v := undef) (a' := ?_) (rb8 [14, 35]) rfl rfl (qj0 HT_.out (by kernel_rfl)) (fun _ _ _ h => h) (Or.inr ⟨by rfl, rfl⟩) ?_ ?_
          rotate_left
          ·simp only [Act.put, List.setIfInBounds_toArray, List.set_cons_zero, List.set_cons_succ, i64_w, i32_w]
           rfl
          refine pure_ (i := 14) (N := some 71) (v := undef) (a' := ?_) (rb8 [15, 34]) rfl rfl (qj0 HT_.out (by kernel_rfl)) (fun _ _ _ h => h) (Or.inr ⟨by rfl, rfl⟩) ?_ ?_
          rotate_left
          ·simp only [Act.put, List.setIfInBounds_toArray, List.set_cons_zero, List.set_cons_succ, i64_w, i32_w]
           rfl
          refine pure_ (i := 15) (N := some 72) (v := undef) (a' := ?_) (rb8 [16, 33]) rfl rfl (qj0 HT_.out (by kernel_rfl)) (fun _ _ _ h => h) (Or.inr ⟨by rfl, rfl⟩) ?_ ?_
          rotate_left
          ·simp only [Act.put, List.setIfInBounds_toArray, List.set_cons_zero, List.set_cons_succ, i64_w, i32_w]
           rfl
          refine pure_ (i := 16) (N := some 73) (v := undef) (a' := ?_) (rb8 [17, 32]) rfl rfl (qj0 HT_.out (by kernel_rfl)) (fun _ _ _ h => h) (Or.inr ⟨by rfl, rfl⟩) ?_ ?_
          rotate_left
          ·simp only [Act.put, List.setIfInBounds_toArray, List.set_cons_zero, List.set_cons_succ, i64_w, i32_w]
           rfl
          refine pure_ (i := 17) (N := some 74) (v := undef) (a' := ?_) (rb8 [18, 31]) rfl rfl (qj0 HT_.out (by kernel_rfl)) (fun _ _ _ h => h) (Or.inr ⟨by rfl, rfl⟩) ?_ ?_
          rotate_left
          ·simp only [Act.put, List.setIfInBounds_toArray, List.set_cons_zero, List.set_cons_succ, i64_w, i32_w]
           rfl
          refine pure_ (i := 18) (N := some 75) (v := undef) (a' := ?_) (rb8 [19, 30]) rfl rfl (qj0 HT_.out (by kernel_rfl)) (fun _ _ _ h => h) (Or.inr ⟨by rfl, rfl⟩) ?_ ?_
          rotate_left
          ·simp only [Act.put, List.setIfInBounds_toArray, List.set_cons_zero, List.set_cons_succ, i64_w, i32_w]
           rfl
          refine pure_ (i := 19) (N := some 76) (v := undef) (a' := ?_) (rb8 [20, 29]) rfl rfl (qj0 HT_.out (by kernel_rfl)) (fun _ _ _ h => h) (Or.inr ⟨by rfl, rfl⟩) ?_ ?_
          rotate_left
          ·simp only [Act.put, List.setIfInBounds_toArray, List.set_cons_zero, List.set_cons_succ, i64_w, i32_w]
           rfl
          refine pure_ (i := 20) (N := some 77) (v := ?_) (a' := ?_) (rb8 [21, 28]) rfl rfl (qj0 HT_.out (by kernel_rfl)) (fun _ _ _ h => h) (Or.inl ⟨by rfl, ?_⟩) ?_ ?_
          rotate_left
          ·intro w'
           go_simp
           with_reducible rfl
          rotate_left
          ·simp only [Act.put, List.setIfInBounds_toArray, List.set_cons_zero, List.set_cons_succ, i64_w, i32_w]
           rfl
          refine pure_ (i := 21) (N := some 78) (v := ?_) (a' := ?_) (rb8 [22, 27]) rfl rfl (qj0 HT_.out (by kernel_rfl)) (fun _ _ _ h => h) (Or.inl ⟨by rfl, ?_⟩) ?_ ?_
          rotate_left
          ·intro w'
           go_simp
           with_reducible rfl
          rotate_left
          ·simp only [Act.put, List.setIfInBounds_toArray, List.set_cons_zero, List.set_cons_succ, i64_w, i32_w]
           rfl
          refine pure_ (i := 22) (N := some 79) (v := undef) (a' := ?_) (rb8 [23, 26]) rfl rfl (qj0 HT_.out (by kernel_rfl)) (fun _ _ _ h => h) (Or.inr ⟨by rfl, rfl⟩) ?_ ?_
          rotate_left
          ·simp only [Act.put, List.setIfInBounds_toArray, List.set_cons_zero, List.set_cons_succ, i64_w, i32_w]
           rfl
          refine pure_ (i := 23) (N := some 80) (v := undef) (a' := ?_) (rb8 [24, 25]) rfl rfl (qj0 HT_.out (by kernel_rfl)) (fun _ _ _ h => h) (Or.inr ⟨by rfl, rfl⟩) ?_ ?_
          rotate_left
          ·simp only [Act.put, List.setIfInBounds_toArray, List.set_cons_zero, List.set_cons_succ, i64_w, i32_w]
           rfl
          refine pure_ (i := 24) (N := some 81) (v := undef) (a' := ?_) (rb8 [25, 24]) rfl rfl (qj0 HT_.out (by kernel_rfl)) (fun _ _ _ h => h) (Or.inr ⟨by rfl, rfl⟩) ?_ ?_
          rotate_left
          ·simp only [Act.put, List.setIfInBounds_toArray, List.set_cons_zero, List.set_cons_succ, i64_w, i32_w]
           rfl
          refine pure_ (i := 25) (N := some 82) (v := undef) (a' := ?_) (rb8 [26, 23]) rfl rfl (qj0 HT_.out (by kernel_rfl)) (fun _ _ _ h => h) (Or.inr ⟨by rfl, rfl⟩) ?_ ?_
          rotate_left
          ·simp only [Act.put, List.setIfInBounds_toArray, List.set_cons_zero, List.set_cons_succ, i64_w, i32_w]
           rfl
          refine pure_ (i := 26) (N := some 83) (v := undef) (a' := ?_) (rb8 [27, 22]) rfl rfl (qj0 HT_.out (by kernel_rfl)) (fun _ _ _ h => h) (Or.inr ⟨by rfl, rfl⟩) ?_ ?_
          rotate_left
          ·simp only [Act.put, List.setIfInBounds_toArray, List.set_cons_zero, List.set_cons_succ, i64_w, i32_w]
           rfl
          refine pure_ (i := 27) (N := some 84) (v := undef) (a' := ?_) (rb8 [28, 21]) rfl rfl (qj0 HT_.out (by kernel_rfl)) (fun _ _ _ h => h) (Or.inr ⟨by rfl, rfl⟩) ?_ ?_
          rotate_left
          ·simp only [Act.put, List.setIfInBounds_toArray, List.set_cons_zero, List.set_cons_succ, i64_w, i32_w]
           rfl
          refine pure_ (i := 28) (N := some 85) (v := undef) (a' := ?_) (rb8 [29, 20]) rfl rfl (qj0 HT_.out (by kernel_rfl)) (fun _ _ _ h => h) (Or.inr ⟨by rfl, rfl⟩) ?_ ?_
          rotate_left
          ·simp only [Act.put, List.setIfInBounds_toArray, List.set_cons_zero, List.set_cons_succ, i64_w, i32_w]
           rfl
          refine pure_ (i := 29) (N := some 86) (v := undef) (a' := ?_) (rb8 [30, 19]) rfl rfl (qj0 HT_.out (by kernel_rfl)) (fun _ _ _ h => h) (Or.inr ⟨by rfl, rfl⟩) ?_ ?_
          rotate_left
          ·simp only [Act.put, List.setIfInBounds_toArray, List.set_cons_zero, List.set_cons_succ, i64_w, i32_w]
           rfl
          refine pure_ (i := 30) (N := some 87) (v := undef) (a' := ?_) (rb8 [31, 18]) rfl rfl (qj0 HT_.out (by kernel_rfl)) (fun _ _ _ h => h) (Or.inr ⟨by rfl, rfl⟩) ?_ ?_
          rotate_left
          ·simp only [Act.put, List.setIfInBounds_toArray, List.set_cons_zero, List.set_cons_succ, i64_w, i32_w]
           rfl
          refine pure_ (i := 31) (N := some 88) (v := undef) (a' := ?_) (rb8 [32, 17]) rfl rfl (qj0 HT_.out (by kernel_rfl)) (fun _ _ _ h => h) (Or.inr ⟨by rfl, rfl⟩) ?_ ?_
          rotate_left
          ·simp only [Act.put, List.setIfInBounds_toArray, List.set_cons_zero, List.set_cons_succ, i64_w, i32_w]
           rfl
          refine pure_ (i := 32) (N := some 89) (v := undef) (a' := ?_) (rb8 [33, 16]) rfl rfl (qj0 HT_.out (by kernel_rfl)) (fun _ _ _ h => h) (Or.inr ⟨by rfl, rfl⟩) ?_ ?_
          rotate_left
          ·simp only [Act.put, List.setIfInBounds_toArray, List.set_cons_zero, List.set_cons_succ, i64_w, i32_w]
           rfl
          refine pure_ (i := 33) (N := some 90) (v := ?_) (a' := ?_) (rb8 [34, 15]) rfl rfl (qj0 HT_.out (by kernel_rfl)) (fun _ _ _ h => h) (Or.inl ⟨by rfl, ?_⟩) ?_ ?_
          rotate_left
          ·intro w'
           go_simp
           with_reducible rfl
          rotate_left
          ·simp only [Act.put, List.setIfInBounds_toArray, List.set_cons_zero, List.set_cons_succ, i64_w, i32_w]
           rfl
          refine pure_ (i := 34) (N := some 91) (v := ?_) (a' := ?_) (rb8 [35, 14]) rfl rfl (qj0 HT_.out (by kernel_rfl)) (fun _ _ _ h => h) (Or.inl ⟨by rfl, ?_⟩) ?_ ?_
          rotate_left
          ·intro w'
           go_simp
           with_reducible rfl
          rotate_left
          ·simp only [Act.put, List.setIfInBounds_toArray, List.set_cons_zero, List.set_cons_succ, i64_w, i32_w]
           rfl
          refine pure_ (i := 35) (N := some 92) (v := undef) (a' := ?_) (rb8 [36, 13]) rfl rfl (qj0 HT_.out (by kernel_rfl)) (fun _ _ _ h => h) (Or.inr ⟨by rfl, rfl⟩) ?_ ?_
          rotate_left
          ·simp only [Act.put, List.setIfInBounds_toArray, List.set_cons_zero, List.set_cons_succ, i64_w, i32_w]
           rfl
          refine pure_ (i := 36) (N := some 93) (v := undef) (a' := ?_) (rb8 [37, 12]) rfl rfl (qj0 HT_.out (by kernel_rfl)) (fun _ _ _ h => h) (Or.inr ⟨by rfl, rfl⟩) ?_ ?_
          rotate_left
          ·simp only [Act.put, List.setIfInBounds_toArray, List.set_cons_zero, List.set_cons_succ, i64_w, i32_w]
           rfl
          refine pure_ (i := 37) (N := some 94) (v := undef) (a' := ?_) (rb8 [38, 11]) rfl rfl (qj0 HT_.out (by kernel_rfl)) (fun _ _ _ h => h) (Or.inr ⟨by rfl, rfl⟩) ?_ ?_
          rotate_left
          ·simp only [Act.put, List.setIfInBounds_toArray, List.set_cons_zero, List.set_cons_succ, i64_w, i32_w]
           rfl
          refine pure_ (i := 38) (N := some 95) (v := undef) (a' := ?_) (rb8 [39, 10]) rfl rfl (qj0 HT_.out (by kernel_rfl)) (fun _ _ _ h => h) (Or.inr ⟨by rfl, rfl⟩) ?_ ?_
          rotate_left
          ·simp only [Act.put, List.setIfInBounds_toArray, List.set_cons_zero, List.set_cons_succ, i64_w, i32_w]
           rfl
          refine pure_ (i := 39) (N := some 96) (v := ?_) (a' := ?_) (rb8 [40, 9]) rfl rfl (qj0 HT_.out (by kernel_rfl)) (fun _ _ _ h => h) (Or.inl ⟨by rfl, ?_⟩) ?_ ?_
          rotate_left
          ·intro w'
           go_simp
           with_reducible rfl
          rotate_left
          ·simp only [Act.put, List.setIfInBounds_toArray, List.set_cons_zero, List.set_cons_succ, i64_w, i32_w]
           rfl
          refine pure_ (i := 40) (N := some 97) (v := ?_) (a' := ?_) (rb8 [41, 8]) rfl rfl (qj0 HT_.out (by kernel_rfl)) (fun _ _ _ h => h) (Or.inl ⟨by rfl, ?_⟩) ?_ ?_
          rotate_left
          ·intro w'
           go_simp
           with_reducible rfl
          rotate_left
          ·simp only [Act.put, List.setIfInBounds_toArray, List.set_cons_zero, List.set_cons_succ, i64_w, i32_w]
           rfl
          refine pure_ (i := 41) (N := some 98) (v := undef) (a' := ?_) (rb8 [42, 7]) rfl rfl (qj0 HT_.out (by kernel_rfl)) (fun _ _ _ h => h) (Or.inr ⟨by rfl, rfl⟩) ?_ ?_
          rotate_left
          ·simp only [Act.put, List.setIfInBounds_toArray, List.set_cons_zero, List.set_cons_succ, i64_w, i32_w]
           rfl
          refine pure_ (i := 42) (N := some 99) (v := undef) (a' := ?_) (rb8 [43, 6]) rfl rfl (qj0 HT_.out (by kernel_rfl)) (fun _ _ _ h => h) (Or.inr ⟨by rfl, rfl⟩) ?_ ?_
          rotate_left
          ·simp only [Act.put, List.setIfInBounds_toArray, List.set_cons_zero, List.set_cons_succ, i64_w, i32_w]
           rfl
          refine pure_ (i := 43) (N := some 100) (v := undef) (a' := ?_) (rb8 [44, 5]) rfl rfl (qj0 HT_.out (by kernel_rfl)) (fun _ _ _ h => h) (Or.inr ⟨by rfl, rfl⟩) ?_ ?_
          rotate_left
          ·simp only [Act.put, List.setIfInBounds_toArray, List.set_cons_zero, List.set_cons_succ, i64_w, i32_w]
           rfl
          refine pure_ (i := 44) (N := some 101) (v := undef) (a' := ?_) (rb8 [45, 4]) rfl rfl (qj0 HT_.out (by kernel_rfl)) (fun _ _ _ h => h) (Or.inr ⟨by rfl, rfl⟩) ?_ ?_
          rotate_left
          ·simp only [Act.put, List.setIfInBounds_toArray, List.set_cons_zero, List.set_cons_succ, i64_w, i32_w]
           rfl
          refine pure_ (i := 45) (N := some 102) (v := undef) (a' := ?_) (rb8 [46, 3]) rfl rfl (qj0 HT_.out (by kernel_rfl)) (fun _ _ _ h => h) (Or.inr ⟨by rfl, rfl⟩) ?_ ?_
          rotate_left
          ·simp only [Act.put, List.setIfInBounds_toArray, List.set_cons_zero, List.set_cons_succ, i64_w, i32_w]
           rfl
          refine pure_ (i := 46) (N := some 103) (v := undef) (a' := ?_) (rb8 [47, 2]) rfl rfl (qj0 HT_.out (by kernel_rfl)) (fun _ _ _ h => h) (Or.inr ⟨by rfl, rfl⟩) ?_ ?_
          rotate_left
          ·simp only [Act.put, List.setIfInBounds_toArray, List.set_cons_zero, List.set_cons_succ, i64_w, i32_w]
           rfl
          refine pure_ (i := 47) (N := some 104) (v := undef) (a' := ?_) (rb8 [48, 1]) rfl rfl (qj0 HT_.out (by kernel_rfl)) (fun _ _ _ h => h) (Or.inr ⟨by rfl, rfl⟩) ?_ ?_
          rotate_left
          ·simp only [Act.put, List.setIfInBounds_toArray, List.set_cons_zero, List.set_cons_succ, i64_w, i32_w]
           rfl
          refine pure_ (i := 48) (N := some 105) (v := ?_) (a' := ?_) (rb8 [49]) rfl rfl (qj0 HT_.out (by kernel_rfl)) (fun _ _ _ h => h) (Or.inl ⟨by rfl, ?_⟩) ?_ ?_
          rotate_left
          ·intro w'
           go_simp
           with_reducible rfl
          rotate_left
          ·simp only [Act.put, List.setIfInBounds_toArray, List.set_cons_zero, List.set_cons_succ, i64_w, i32_w]
           rfl
          refine done_ (ql1 HT_.out (by kernel_rfl)) ?_
          try go_wp2
          go_meet
          case rel => exact ⟨_, (true), (by first | rfl | (simp; done) | (simp [*]; done)), H', ⟨by have := HJ1.out; have := HK2.out; have := HK3.out; first | omega | exact Nat.le_refl _⟩, ⟨by (with_reducible repeat (first | apply Kd.Z_alloc | apply Kd.Z_drewN | apply Kd.Z_drew)); exact HO_6.out⟩, ⟨by (with_reducible repeat (first | apply Kd.Z_alloc | apply Kd.Z_drewN | apply Kd.Z_drew)); exact HO_7.out⟩, ⟨by (with_reducible repeat (first | refine qd0 ?_ _ | refine qh0 ?_ | refine qe0 ?_ _)); exact BK192.out⟩, ⟨by (with_reducible repeat (first | refine qd0 ?_ _ | refine qh0 ?_ | refine qe0 ?_ _)); exact BK211.out⟩, ⟨by repeat (first | (with_reducible first | exact HB.out | apply qc0 | apply qa0 | apply qb0 | refine qf0 ?_ GE192.out | refine qf0 ?_ GE211.out) | exact HB.out)⟩⟩
         rw [if_neg c46] at H
         have c46b0 : decide (((rd_T53 l0_1 x53_3).f0) < 0) = false := decide_eq_false c46
         clear c46
         (first | rw [c46b0] | (simp only [i64_w, i32_w]; rw [c46b0]) | skip)
         by_cases c49 : ((rd_T53 l0_1 x53_3).f0) ≥ (l0_0.length : Int)
         ·rw [if_pos c49] at H
          have c49b0 : decide ((l0_0.length : Int) ≤ ((rd_T53 l0_1 x53_3).f0)) = true := decide_eq_true c49
          clear c49
          have H' := Aside0.mk H
          clear H
          try go_wp2
          have n0_ : Aside0 (Kd.Z kz128 128 ((((w43.setCell ⟨gb211, 0, none⟩ (.int .i64 ((rd_T53 l0_1 x53_3).f0))).setCell ⟨gb211, 1, none⟩ (.int .i64 ((rd_T53 l0_1 x53_3).f1))).setCell ⟨gb211, 2, none⟩ (.int .i64 ((rd_T53 l0_1 x53_3).f2))).setCell ⟨gb211, 3, none⟩ (.bool ((rd_T53 l0_1 x53_3).f3))) w.heap.size (fun _ => True) (.map (some mb205)) x6_3) := ⟨by (with_reducible repeat (first | apply Kd.Z_alloc | apply Kd.Z_drewN | apply Kd.Z_drew)); exact Kd.Z_mono (Kd.Z_far (p := ⟨gb211, 3, none⟩) (Kd.Z_far (p := ⟨gb211, 2, none⟩) (Kd.Z_far (p := ⟨gb211, 1, none⟩) (Kd.Z_far (p := ⟨gb211, 0, none⟩) (Kd.Z_types HO_6.out BK211.out (by decide)) (fun _ hk => hk.2) (.int .i64 ((rd_T53 l0_1 x53_3).f0))) (fun _ hk => hk.2) (.int .i64 ((rd_T53 l0_1 x53_3).f1))) (fun _ hk => hk.2) (.int .i64 ((rd_T53 l0_1 x53_3).f2))) (fun _ hk => hk.2) (.bool ((rd_T53 l0_1 x53_3).f3))) (fun _ hk => trivial)⟩
          have n1_ : Aside0 (Kd.Z kz128 128 ((((w43.setCell ⟨gb211, 0, none⟩ (.int .i64 ((rd_T53 l0_1 x53_3).f0))).setCell ⟨gb211, 1, none⟩ (.int .i64 ((rd_T53 l0_1 x53_3).f1))).setCell ⟨gb211, 2, none⟩ (.int .i64 ((rd_T53 l0_1 x53_3).f2))).setCell ⟨gb211, 3, none⟩ (.bool ((rd_T53 l0_1 x53_3).f3))) w.heap.size (fun _ => True) (.map (some mb209)) x7_3) := ⟨by (with_reducible repeat (first | apply Kd.Z_alloc | apply Kd.Z_drewN | apply Kd.Z_drew)); exact Kd.Z_mono (Kd.Z_far (p := ⟨gb211, 3, none⟩) (Kd.Z_far (p := ⟨gb211, 2, none⟩) (Kd.Z_far (p := ⟨gb211, 1, none⟩) (Kd.Z_far (p := ⟨gb211, 0, none⟩) (Kd.Z_types HO_7.out BK211.out (by decide)) (fun _ hk => hk.2) (.int .i64 ((rd_T53 l0_1 x53_3).f0))) (fun _ hk => hk.2) (.int .i64 ((rd_T53 l0_1 x53_3).f1))) (fun _ hk => hk.2) (.int .i64 ((rd_T53 l0_1 x53_3).f2))) (fun _ hk => hk.2) (.bool ((rd_T53 l0_1 x53_3).f3))) (fun _ hk => trivial)⟩
          have n2_ : Aside0 (((((w43.setCell ⟨gb211, 0, none⟩ (.int .i64 ((rd_T53 l0_1 x53_3).f0))).setCell ⟨gb211, 1, none⟩ (.int .i64 ((rd_T53 l0_1 x53_3).f1))).setCell ⟨gb211, 2, none⟩ (.int .i64 ((rd_T53 l0_1 x53_3).f2))).setCell ⟨gb211, 3, none⟩ (.bool ((rd_T53 l0_1 x53_3).f3))).heap[gb192]? = some (.cells #[.slice A0_0 l0_0.length c0_0, .slice (some ad210) l0_1.length c0_1] 42 (0, 0))) := ⟨by (with_reducible repeat (first | refine qd0 ?_ _ | refine qh0 ?_ | refine qe0 ?_ _)); refine qu0 ?_ NB192_211.out _; (with_reducible repeat (first | refine qd0 ?_ _ | refine qh0 ?_ | refine qe0 ?_ _)); refine qu0 ?_ NB192_211.out _; (with_reducible repeat (first | refine qd0 ?_ _ | refine qh0 ?_ | refine qe0 ?_ _)); refine qu0 ?_ NB192_211.out _; (with_reducible repeat (first | refine qd0 ?_ _ | refine qh0 ?_ | refine qe0 ?_ _)); refine qu0 ?_ NB192_211.out _; (with_reducible repeat (first | refine qd0 ?_ _ | refine qh0 ?_ | refine qe0 ?_ _)); exact BK192.out⟩
          have n3_ : Aside0 (((((w43.setCell ⟨gb211, 0, none⟩ (.int .i64 ((rd_T53 l0_1 x53_3).f0))).setCell ⟨gb211, 1, none⟩ (.int .i64 ((rd_T53 l0_1 x53_3).f1))).setCell ⟨gb211, 2, none⟩ (.int .i64 ((rd_T53 l0_1 x53_3).f2))).setCell ⟨gb211, 3, none⟩ (.bool ((rd_T53 l0_1 x53_3).f3))).heap[gb211]? = some (.cells #[.int .i64 ((rd_T53 l0_1 x53_3).f0), .int .i64 ((rd_T53 l0_1 x53_3).f1), .int .i64 ((rd_T53 l0_1 x53_3).f2), .bool ((rd_T53 l0_1 x53_3).f3)] 53 (0, 0))) := ⟨by (with_reducible repeat (first | refine qd0 ?_ _ | refine qh0 ?_ | refine qe0 ?_ _)); refine qx0 (cs := #[.int .i64 ((rd_T53 l0_1 x53_3).f0), .int .i64 ((rd_T53 l0_1 x53_3).f1), .int .i64 ((rd_T53 l0_1 x53_3).f2), .bool false]) ?_ 3 _ rfl; (with_reducible repeat (first | refine qd0 ?_ _ | refine qh0 ?_ | refine qe0 ?_ _)); refine qx0 (cs := #[.int .i64 ((rd_T53 l0_1 x53_3).f0), .int .i64 ((rd_T53 l0_1 x53_3).f1), .int .i64 0, .bool false]) ?_ 2 _ rfl; (with_reducible repeat (first | refine qd0 ?_ _ | refine qh0 ?_ | refine qe0 ?_ _)); refine qx0 (cs := #[.int .i64 ((rd_T53 l0_1 x53_3).f0), .int .i64 0, .int .i64 0, .bool false]) ?_ 1 _ rfl; (with_reducible repeat (first | refine qd0 ?_ _ | refine qh0 ?_ | refine qe0 ?_ _)); refine qx0 (cs := #[.int .i64 0, .int .i64 0, .int .i64 0, .bool false]) ?_ 0 _ rfl; (with_reducible repeat (first | refine qd0 ?_ _ | refine qh0 ?_ | refine qe0 ?_ _)); exact BK211.out⟩
          have n4_ : Aside0 (Below w.heap.size w ((((w43.setCell ⟨gb211, 0, none⟩ (.int .i64 ((rd_T53 l0_1 x53_3).f0))).setCell ⟨gb211, 1, none⟩ (.int .i64 ((rd_T53 l0_1 x53_3).f1))).setCell ⟨gb211, 2, none⟩ (.int .i64 ((rd_T53 l0_1 x53_3).f2))).setCell ⟨gb211, 3, none⟩ (.bool ((rd_T53 l0_1 x53_3).f3)))) := ⟨by repeat (first | (with_reducible first | exact HB.out | apply qc0 | apply qa0 | apply qb0 | refine qf0 ?_ GE192.out | refine qf0 ?_ GE211.out) | exact HB.out)⟩
          (try clear HO_6)
          (try clear HO_7)
          (try clear BK192)
          (try clear BK211)
          (try clear HB)
          generalize ((((w43.setCell ⟨gb211, 0, none⟩ (.int .i64 ((rd_T53 l0_1 x53_3).f0))).setCell ⟨gb211, 1, none⟩ (.int .i64 ((rd_T53 l0_1 x53_3).f1))).setCell ⟨gb211, 2, none⟩ (.int .i64 ((rd_T53 l0_1 x53_3).f2))).setCell ⟨gb211, 3, none⟩ (.bool ((rd_T53 l0_1 x53_3).f3))) = w50 at n0_ n1_ n2_ n3_ n4_ ⊢
          have HO_6 := n0_
          have HO_7 := n1_
          have BK192 := n2_
          have BK211 := n3_
          have HB := n4_
          clear n0_ n1_ n2_ n3_ n4_
          have n0_ := Aside0.mk (Kd.Z_drew HO_6.out)
          have n1_ := Aside0.mk (Kd.Z_drew HO_7.out)
          have n2_ := Aside0.mk (qh0 BK192.out)
          have n3_ := Aside0.mk (qh0 BK211.out)
          have n4_ := Aside0.mk (qb0 HB.out)
          clear HO_6
          clear HO_7
          clear BK192
          clear BK211
          clear HB
          have HO_6 := n0_
          have HO_7 := n1_
          have BK192 := n2_
          have BK211 := n3_
          have HB := n4_
          clear n0_ n1_ n2_ n3_ n4_
          refine qo1 (n := 49) (S := fun w' => w'.cell? ⟨gb211, 0, none⟩ = some (.int .i64 ((rd_T53 l0_1 x53_3).f0)) ∧ w'.cell? ⟨gb211, 1, none⟩ = some (.int .i64 ((rd_T53 l0_1 x53_3).f1)) ∧ w'.cell? ⟨gb211, 2, none⟩ = some (.int .i64 ((rd_T53 l0_1 x53_3).f2)) ∧ w'.cell? ⟨gb211, 3, none⟩ = some (.bool ((rd_T53 l0_1 x53_3).f3)) ∧ w'.cell? ⟨gb192, 0, none⟩ = some (.slice A0_0 l0_0.length c0_0) ∧ w'.cell? ⟨gb192, 1, none⟩ = some (.slice (some ad210) l0_1.length c0_1)) (ds := []) (rb8 [0, 49]) (by kernel_rfl) rfl rfl ⟨(qg0 BK211.out 0).trans rfl, (qg0 BK211.out 1).trans rfl, (qg0 BK211.out 2).trans rfl, (qg0 BK211.out 3).trans rfl, (qg0 BK192.out 0).trans rfl, (qg0 BK192.out 1).trans rfl⟩ (fun hHeld => ?_); refine qf1 impl_RegisterOk.tab16 impl_RegisterOk.bits16 (fun HT_ HW_ => ?_)
          generalize w50.drew = w51 at HO_6 HO_7 BK192 BK211 HB hHeld ⊢
          refine pure_ (i := 0) (N := some 57) (v := ?_) (a' := ?_) (rb8 [1, 48]) rfl rfl (qj0 HT_.out (by kernel_rfl)) (fun _ _ _ h => h) (Or.inl ⟨by rfl, ?_⟩) ?_ ?_
          rotate_left
          ·intro w'
           go_simp
           with_reducible rfl
          rotate_left
          ·simp only [Act.put, List.setIfInBounds_toArray, List.set_cons_zero, List.set_cons_succ, i64_w, i32_w]
           rfl
          refine take_ (i := 1) (N := some 58) (v := ?_) (a' := ?_) (rb8 [2, 47]) rfl rfl (qo0 HT_.out HW_.out (by kernel_rfl)) (fun _ _ _ h => h) (Or.inl ⟨by rfl, ?_⟩) hHeld ?_ ?_
          rotate_left
          ·rintro w' ⟨s0, s1, s2, s3, s4, s5⟩
           go_simp
           with_reducible rfl
          rotate_left
          ·simp only [Act.put, List.setIfInBounds_toArray, List.set_cons_zero, List.set_cons_succ, i64_w, i32_w]
           rfl
          refine pure_ (i := 2) (N := some 59) (v := ?_) (a' := ?_) (rb8 [3, 46]) rfl rfl (qj0 HT_.out (by kernel_rfl)) (fun _ _ _ h => h) (Or.inl ⟨by rfl, ?_⟩) ?_ ?_
          rotate_left
          ·intro w'
           go_simp
           with_reducible rfl
          rotate_left
          ·simp only [Act.put, List.setIfInBounds_toArray, List.set_cons_zero, List.set_cons_succ, i64_w, i32_w]
           rfl
          refine pure_ (i := 3) (N := some 60) (v := ?_) (a' := ?_) (rb8 [4, 45]) rfl rfl (qj0 HT_.out (by kernel_rfl)) (fun _ _ _ h => h) (Or.inl ⟨by rfl, ?_⟩) ?_ ?_
          rotate_left
          ·intro w'
           go_simp
           with_reducible rfl
          rotate_left
          ·simp only [Act.put, List.setIfInBounds_toArray, List.set_cons_zero, List.set_cons_succ, i64_w, i32_w]
           rfl
          refine pure_ (i := 4) (N := some 61) (v := ?_) (a' := ?_) (rb8 [5, 44]) rfl rfl (qj0 HT_.out (by kernel_rfl)) (fun _ _ _ h => h) (Or.inl ⟨by rfl, ?_⟩) ?_ ?_
          rotate_left
          ·intro w'
           go_simp
           with_reducible rfl
          rotate_left
          ·simp only [Act.put, List.setIfInBounds_toArray, List.set_cons_zero, List.set_cons_succ, i64_w, i32_w]
           rfl
          refine pure_ (i := 6) (N := some 63) (v := ?_) (a' := ?_) (rb8 [5, 1, 1, 42]) rfl rfl (qj0 HT_.out (by kernel_rfl)) (fun _ _ _ h => h) (Or.inl ⟨by rfl, ?_⟩) ?_ ?_
          rotate_left
          ·intro w'
           go_simp
           with_reducible rfl
          rotate_left
          ·simp only [Act.put, List.setIfInBounds_toArray, List.set_cons_zero, List.set_cons_succ, i64_w, i32_w]
           rfl
          refine take_ (i := 5) (N := some 62) (v := ?_) (a' := ?_) (rb8 [7, 42]) rfl rfl (qo0 HT_.out HW_.out (by kernel_rfl)) (fun _ _ _ h => h) (Or.inl ⟨by rfl, ?_⟩) hHeld ?_ ?_
          rotate_left
          ·rintro w' ⟨s0, s1, s2, s3, s4, s5⟩
           go_simp
           with_reducible rfl
          rotate_left
          ·simp only [Act.put, List.setIfInBounds_toArray, List.set_cons_zero, List.set_cons_succ, i64_w, i32_w]
           rfl
          refine take_ (i := 7) (N := some 64) (v := ?_) (a' := ?_) (rb8 [8, 41]) rfl rfl (qo0 HT_.out HW_.out (by kernel_rfl)) (fun _ _ _ h => h) (Or.inl ⟨by rfl, ?_⟩) hHeld ?_ ?_
          rotate_left
          ·rintro w' ⟨s0, s1, s2, s3, s4, s5⟩
           go_simp
           with_reducible rfl
          rotate_left
          ·simp only [Act.put, List.setIfInBounds_toArray, List.set_cons_zero, List.set_cons_succ, i64_w, i32_w]
           rfl
          refine pure_ (i := 8) (N := some 65) (v := ?_) (a' := ?_) (rb8 [9, 40]) rfl rfl (qj0 HT_.out (by kernel_rfl)) (fun _ _ _ h => h) (Or.inl ⟨by rfl, ?_⟩) ?_ ?_
          rotate_left
          ·intro w'
           go_simp
           with_reducible rfl
          rotate_left
          ·simp only [Act.put, List.setIfInBounds_toArray, List.set_cons_zero, List.set_cons_succ, i64_w, i32_w]
           rfl
          refine pure_ (i := 9) (N := some 66) (v := ?_) (a' := ?_) (rb8 [10, 39]) rfl rfl (qj0 HT_.out (by kernel_rfl)) (fun _ _ _ h => h) (Or.inl ⟨by rfl, ?_⟩) ?_ ?_
          rotate_left
          ·intro w'
           go_simp
           with_reducible rfl
          rotate_left
          ·simp only [Act.put, List.setIfInBounds_toArray, List.set_cons_zero, List.set_cons_succ, i64_w, i32_w]
           rfl
          refine pure_ (i := 10) (N := some 67) (v := ?_) (a' := ?_) (rb8 [11, 38]) rfl rfl (qj0 HT_.out (by kernel_rfl)) (fun _ _ _ h => h) (Or.inl ⟨by rfl, ?_⟩) ?_ ?_
          rotate_left
          ·intro w'
           go_simp
           with_reducible rfl
          rotate_left
          ·simp only [Act.put, List.setIfInBounds_toArray, List.set_cons_zero, List.set_cons_succ, i64_w, i32_w]
           rfl
          refine pure_ (i := 11) (N := some 68) (v := ?_) (a' := ?_) (rb8 [12, 37]) rfl rfl (qj0 HT_.out (by kernel_rfl)) (fun _ _ _ h => h) (Or.inl ⟨by rfl, ?_⟩) ?_ ?_
          rotate_left
          ·intro w'
           go_simp
           with_reducible rfl
          rotate_left
          ·simp only [Act.put, List.setIfInBounds_toArray, List.set_cons_zero, List.set_cons_succ, i64_w, i32_w]
           rfl
          refine pure_ (i := 12) (N := some 69) (v := undef) (a' := ?_) (rb8 [13, 36]) rfl rfl (qj0 HT_.out (by kernel_rfl)) (fun _ _ _ h => h) (Or.inr ⟨by rfl, rfl⟩) ?_ ?_
          rotate_left
          ·simp only [Act.put, List.setIfInBounds_toArray, List.set_cons_zero, List.set_cons_succ, i64_w, i32_w]
           rfl
          refine pure_ (i := 13) (N := some 70) (v := undef) (a' := ?_) (rb8 [14, 35]) rfl rfl (qj0 HT_.out (by kernel_rfl)) (fun _ _ _ h => h) (Or.inr ⟨by rfl, rfl⟩) ?_ ?_
          rotate_left
          ·simp only [Act.put, List.setIfInBounds_toArray, List.set_cons_zero, List.set_cons_succ, i64_w, i32_w]
           rfl
          refine pure_ (i := 14) (N := some 71) (v := undef) (a' := ?_) (rb8 [15, 34]) rfl rfl (qj0 HT_.out (by kernel_rfl)) (fun _ _ _ h => h) (Or.inr ⟨by rfl, rfl⟩) ?_ ?_
          rotate_left
          ·simp only [Act.put, List.setIfInBounds_toArray, List.set_cons_zero, List.set_cons_succ, i64_w, i32_w]
           rfl
          refine pure_ (i := 15) (N := some 72) (v := undef) (a' := ?_) (rb8 [16, 33]) rfl rfl (qj0 HT_.out (by kernel_rfl)) (fun _ _ _ h => h) (Or.inr ⟨by rfl, rfl⟩) ?_ ?_
          rotate_left
          ·simp only [Act.put, List.setIfInBounds_toArray, List.set_cons_zero, List.set_cons_succ, i64_w, i32_w]
           rfl
          refine pure_ (i := 16) (N := some 73) (v := undef) (a' := ?_) (rb8 [17, 32]) rfl rfl (qj0 HT_.out (by kernel_rfl)) (fun _ _ _ h => h) (Or.inr ⟨by rfl, rfl⟩) ?_ ?_
          rotate_left
          ·simp only [Act.put, List.setIfInBounds_toArray, List.set_cons_zero, List.set_cons_succ, i64_w, i32_w]
           rfl
          refine pure_ (i := 17) (N := some 74) (v := undef) (a' := ?_) (rb8 [18, 31]) rfl rfl (qj0 HT_.out (by kernel_rfl)) (fun _ _ _ h => h) (Or.inr ⟨by rfl, rfl⟩) ?_ ?_
          rotate_left
          ·simp only [Act.put, List.setIfInBounds_toArray, List.set_cons_zero, List.set_cons_succ, i64_w, i32_w]
           rfl
          refine pure_ (i := 18) (N := some 75) (v := undef) (a' := ?_) (rb8 [19, 30]) rfl rfl (qj0 HT_.out (by kernel_rfl)) (fun _ _ _ h => h) (Or.inr ⟨by rfl, rfl⟩) ?_ ?_
          rotate_left
          ·simp only [Act.put, List.setIfInBounds_toArray, List.set_cons_zero, List.set_cons_succ, i64_w, i32_w]
           rfl
          refine pure_ (i := 19) (N := some 76) (v := undef) (a' := ?_) (rb8 [20, 29]) rfl rfl (qj0 HT_.out (by kernel_rfl)) (fun _ _ _ h => h) (Or.inr ⟨by rfl, rfl⟩) ?_ ?_
          rotate_left
          ·simp only [Act.put, List.setIfInBounds_toArray, List.set_cons_zero, List.set_cons_succ, i64_w, i32_w]
           rfl
          refine pure_ (i := 20) (N := some 77) (v := ?_) (a' := ?_) (rb8 [21, 28]) rfl rfl (qj0 HT_.out (by kernel_rfl)) (fun _ _ _ h => h) (Or.inl ⟨by rfl, ?_⟩) ?_ ?_
          rotate_left
          ·intro w'
           go_simp
           with_reducible rfl
          rotate_left
          ·simp only [Act.put, List.setIfInBounds_toArray, List.set_cons_zero, List.set_cons_succ, i64_w, i32_w]
           rfl
          refine pure_ (i := 21) (N := some 78) (v := ?_) (a' := ?_) (rb8 [22, 27]) rfl rfl (qj0 HT_.out (by kernel_rfl)) (fun _ _ _ h => h) (Or.inl ⟨by rfl, ?_⟩) ?_ ?_
          rotate_left
          ·intro w'
           go_simp
           with_reducible rfl
          rotate_left
          ·simp only [Act.put, List.setIfInBounds_toArray, List.set_cons_zero, List.set_cons_succ, i64_w, i32_w]
           rfl
          refine pure_ (i := 22) (N := some 79) (v := undef) (a' := ?_) (rb8 [23, 26]) rfl rfl (qj0 HT_.out (by kernel_rfl)) (fun _ _ _ h => h) (Or.inr ⟨by rfl, rfl⟩) ?_ ?_
          rotate_left
          ·simp only [Act.put, List.setIfInBounds_toArray, List.set_cons_zero, List.set_cons_succ, i64_w, i32_w]
           rfl
          refine pure_ (i := 23) (N := some 80) (v := undef) (a' := ?_) (rb8 [24, 25]) rfl rfl (qj0 HT_.out (by kernel_rfl)) (fun _ _ _ h => h) (Or.inr ⟨by rfl, rfl⟩) ?_ ?_
          rotate_left
          ·simp only [Act.put, List.setIfInBounds_toArray, List.set_cons_zero, List.set_cons_succ, i64_w, i32_w]
           rfl
          refine pure_ (i := 24) (N := some 81) (v := undef) (a' := ?_) (rb8 [25, 24]) rfl rfl (qj0 HT_.out (by kernel_rfl)) (fun _ _ _ h => h) (Or.inr ⟨by rfl, rfl⟩) ?_ ?_
          rotate_left
          ·simp only [Act.put, List.setIfInBounds_toArray, List.set_cons_zero, List.set_cons_succ, i64_w, i32_w]
           rfl
          refine pure_ (i := 25) (N := some 82) (v := undef) (a' := ?_) (rb8 [26, 23]) rfl rfl (qj0 HT_.out (by kernel_rfl)) (fun _ _ _ h => h) (Or.inr ⟨by rfl, rfl⟩) ?_ ?_
          rotate_left
          ·simp only [Act.put, List.setIfInBounds_toArray, List.set_cons_zero, List.set_cons_succ, i64_w, i32_w]
           rfl
          refine pure_ (i := 26) (N := some 83) (v := undef) (a' := ?_) (rb8 [27, 22]) rfl rfl (qj0 HT_.out (by kernel_rfl)) (fun _ _ _ h => h) (Or.inr ⟨by rfl, rfl⟩) ?_ ?_
          rotate_left
          ·simp only [Act.put, List.setIfInBounds_toArray, List.set_cons_zero, List.set_cons_succ, i64_w, i32_w]
           rfl
          refine pure_ (i := 27) (N := some 84) (v := undef) (a' := ?_) (rb8 [28, 21]) rfl rfl (qj0 HT_.out (by kernel_rfl)) (fun _ _ _ h => h) (Or.inr ⟨by rfl, rfl⟩) ?_ ?_
          rotate_left
          ·simp only [Act.put, List.setIfInBounds_toArray, List.set_cons_zero, List.set_cons_succ, i64_w, i32_w]
           rfl
          refine pure_ (i := 28) (N := some 85) (v := undef) (a' := ?_) (rb8 [29, 20]) rfl rfl (qj0 HT_.out (by kernel_rfl)) (fun _ _ _ h => h) (Or.inr ⟨by rfl, rfl⟩) ?_ ?_
          rotate_left
          ·simp only [Act.put, List.setIfInBounds_toArray, List.set_cons_zero, List.set_cons_succ, i64_w, i32_w]
           rfl
          refine pure_ (i := 29) (N := some 86) (v := undef) (a' := ?_) (rb8 [30, 19]) rfl rfl (qj0 HT_.out (by kernel_rfl)) (fun _ _ _ h => h) (Or.inr ⟨by rfl, rfl⟩) ?_ ?_
          rotate_left
          ·simp only [Act.put, List.setIfInBounds_toArray, List.set_cons_zero, List.set_cons_succ, i64_w, i32_w]
           rfl
          refine pure_ (i := 30) (N := some 87) (v := undef) (a' := ?_) (rb8 [31, 18]) rfl rfl (qj0 HT_.out (by kernel_rfl)) (fun _ _ _ h => h) (Or.inr ⟨by rfl, rfl⟩) ?_ ?_
          rotate_left
          ·simp only [Act.put, List.setIfInBounds_toArray, List.set_cons_zero, List.set_cons_succ, i64_w, i32_w]
           rfl
          refine pure_ (i := 31) (N := some 88) (v := undef) (a' := ?_) (rb8 [32, 17]) rfl rfl (qj0 HT_.out (by kernel_rfl)) (fun _ _ _ h => h) (Or.inr ⟨by rfl, rfl⟩) ?_ ?_
          rotate_left
          ·simp only [Act.put, List.setIfInBounds_toArray, List.set_cons_zero, List.set_cons_succ, i64_w, i32_w]
           rfl
          refine pure_ (i := 32) (N := some 89) (v := undef) (a' := ?_) (rb8 [33, 16]) rfl rfl (qj0 HT_.out (by kernel_rfl)) (fun _ _ _ h => h) (Or.inr ⟨by rfl, rfl⟩) ?_ ?_
          rotate_left
          ·simp only [Act.put, List.setIfInBounds_toArray, List.set_cons_zero, List.set_cons_succ, i64_w, i32_w]
           rfl
          refine pure_ (i := 33) (N := some 90) (v := ?_) (a' := ?_) (rb8 [34, 15]) rfl rfl (qj0 HT_.out (by kernel_rfl)) (fun _ _ _ h => h) (Or.inl ⟨by rfl, ?_⟩) ?_ ?_
          rotate_left
          ·intro w'
           go_simp
           with_reducible rfl
          rotate_left
          ·simp only [Act.put, List.setIfInBounds_toArray, List.set_cons_zero, List.set_cons_succ, i64_w, i32_w]
           rfl
          refine pure_ (i := 34) (N := some 91) (v := ?_) (a' := ?_) (rb8 [35, 14]) rfl rfl (qj0 HT_.out (by kernel_rfl)) (fun _ _ _ h => h) (Or.inl ⟨by rfl, ?_⟩) ?_ ?_
          rotate_left
          ·intro w'
           go_simp
           with_reducible rfl
          rotate_left
          ·simp only [Act.put, List.setIfInBounds_toArray, List.set_cons_zero, List.set_cons_succ, i64_w, i32_w]
           rfl
          refine pure_ (i := 35) (N := some 92) (v := undef) (a' := ?_) (rb8 [36, 13]) rfl rfl (qj0 HT_.out (by kernel_rfl)) (fun _ _ _ h => h) (Or.inr ⟨by rfl, rfl⟩) ?_ ?_
          rotate_left
          ·simp only [Act.put, List.setIfInBounds_toArray, List.set_cons_zero, List.set_cons_succ, i64_w, i32_w]
           rfl
          refine pure_ (i := 36) (N := some 93) (v := undef) (a' := ?_) (rb8 [37, 12]) rfl rfl (qj0 HT_.out (by kernel_rfl)) (fun _ _ _ h => h) (Or.inr ⟨by rfl, rfl⟩) ?_ ?_
          rotate_left
          ·simp only [Act.put, List.setIfInBounds_toArray, List.set_cons_zero, List.set_cons_succ, i64_w, i32_w]
           rfl
          refine pure_ (i := 37) (N := some 94) (v := undef) (a' := ?_) (rb8 [38, 11]) rfl rfl (qj0 HT_.out (by kernel_rfl)) (fun _ _ _ h => h) (Or.inr ⟨by rfl, rfl⟩) ?_ ?_
          rotate_left
          ·simp only [Act.put, List.setIfInBounds_toArray, List.set_cons_zero, List.set_cons_succ, i64_w, i32_w]
           rfl
          refine pure_ (i := 38) (N := some 95) (v := undef) (a' := ?_) (rb8 [39, 10]) rfl rfl (qj0 HT_.out (by kernel_rfl)) (fun _ _ _ h => h) (Or.inr ⟨by rfl, rfl⟩) ?_ ?_
          rotate_left
          ·simp only [Act.put, List.setIfInBounds_toArray, List.set_cons_zero, List.set_cons_succ, i64_w, i32_w]
           rfl
          refine pure_ (i := 39) (N := some 96) (v := ?_) (a' := ?_) (rb8 [40, 9]) rfl rfl (qj0 HT_.out (by kernel_rfl)) (fun _ _ _ h => h) (Or.inl ⟨by rfl, ?_⟩) ?_ ?_
          rotate_left
          ·intro w'
           go_simp
           with_reducible rfl
          rotate_left
          ·simp only [Act.put, List.setIfInBounds_toArray, List.set_cons_zero, List.set_cons_succ, i64_w, i32_w]
           rfl
          refine pure_ (i := 40) (N := some 97) (v := ?_) (a' := ?_) (rb8 [41, 8]) rfl rfl (qj0 HT_.out (by kernel_rfl)) (fun _ _ _ h => h) (Or.inl ⟨by rfl, ?_⟩) ?_ ?_
          rotate_left
          ·intro w'
           go_simp
           with_reducible rfl
          rotate_left
          ·simp only [Act.put, List.setIfInBounds_toArray, List.set_cons_zero, List.set_cons_succ, i64_w, i32_w]
           rfl
          refine pure_ (i := 41) (N := some 98) (v := undef) (a' := ?_) (rb8 [42, 7]) rfl rfl (qj0 HT_.out (by kernel_rfl)) (fun _ _ _ h => h) (Or.inr ⟨by rfl, rfl⟩) ?_ ?_
          rotate_left
          ·simp only [Act.put, List.setIfInBounds_toArray, List.set_cons_zero, List.set_cons_succ, i64_w, i32_w]
           rfl
          refine pure_ (i := 42) (N := some 99) (v := undef) (a' := ?_) (rb8 [43, 6]) rfl rfl (qj0 HT_.out (by kernel_rfl)) (fun _ _ _ h => h) (Or.inr ⟨by rfl, rfl⟩) ?_ ?_
          rotate_left
          ·simp only [Act.put, List.setIfInBounds_toArray, List.set_cons_zero, List.set_cons_succ, i64_w, i32_w]
           rfl
          refine pure_ (i := 43) (N := some 100) (v := undef) (a' := ?_) (rb8 [44, 5]) rfl rfl (qj0 HT_.out (by kernel_rfl)) (fun _ _ _ h => h) (Or.inr ⟨by rfl, rfl⟩) ?_ ?_
          rotate_left
          ·simp only [Act.put, List.setIfInBounds_toArray, List.set_cons_zero, List.set_cons_succ, i64_w, i32_w]
           rfl
          refine pure_ (i := 44) (N := some 101) (v := undef) (a' := ?_) (rb8 [45, 4]) rfl rfl (qj0 HT_.out (by kernel_rfl)) (fun _ _ _ h => h) (Or.inr ⟨by rfl, rfl⟩) ?_ ?_
          rotate_left
          ·simp only [Act.put, List.setIfInBounds_toArray, List.set_cons_zero, List.set_cons_succ, i64_w, i32_w]
           rfl
          refine pure_ (i := 45) (N := some 102) (v := undef) (a' := ?_) (rb8 [46, 3]) rfl rfl (qj0 HT_.out (by kernel_rfl)) (fun _ _ _ h => h) (Or.inr ⟨by rfl, rfl⟩) ?_ ?_
          rotate_left
          ·simp only [Act.put, List.setIfInBounds_toArray, List.set_cons_zero, List.set_cons_succ, i64_w, i32_w]
           rfl
          refine pure_ (i := 46) (N := some 103) (v := undef) (a' := ?_) (rb8 [47, 2]) rfl rfl (qj0 HT_.out (by kernel_rfl)) (fun _ _ _ h => h) (Or.inr ⟨by rfl, rfl⟩) ?_ ?_
          rotate_left
          ·simp only [Act.put, List.setIfInBounds_toArray, List.set_cons_zero, List.set_cons_succ, i64_w, i32_w]
           rfl
          refine pure_ (i := 47) (N := some 104) (v := undef) (a' := ?_) (rb8 [48, 1]) rfl rfl (qj0 HT_.out (by kernel_rfl)) (fun _ _ _ h => h) (Or.inr ⟨by rfl, rfl⟩) ?_ ?_
          rotate_left
          ·simp only [Act.put, List.setIfInBounds_toArray, List.set_cons_zero, List.set_cons_succ, i64_w, i32_w]
           rfl
          refine pure_ (i := 48) (N := some 105) (v := ?_) (a' := ?_) (rb8 [49]) rfl rfl (qj0 HT_.out (by kernel_rfl)) (fun _ _ _ h => h) (Or.inl ⟨by rfl, ?_⟩) ?_ ?_
          rotate_left
          ·intro w'
           go_simp
           with_reducible rfl
          rotate_left
          ·simp only [Act.put, List.setIfInBounds_toArray, List.set_cons_zero, List.set_cons_succ, i64_w, i32_w]
           rfl
          refine done_ (ql1 HT_.out (by kernel_rfl)) ?_
          try go_wp2
          go_meet
          case rel => exact ⟨_, (true), (by first | rfl | (simp; done) | (simp [*]; done)), H', ⟨by have := HJ1.out; have := HK2.out; have := HK3.out; first | omega | exact Nat.le_refl _⟩, ⟨by (with_reducible repeat (first | apply Kd.Z_alloc | apply Kd.Z_drewN | apply Kd.Z_drew)); exact HO_6.out⟩, ⟨by (with_reducible repeat (first | apply Kd.Z_alloc | apply Kd.Z_drewN | apply Kd.Z_drew)); exact HO_7.out⟩, ⟨by (with_reducible repeat (first | refine qd0 ?_ _ | refine qh0 ?_ | refine qe0 ?_ _)); exact BK192.out⟩, ⟨by (with_reducible repeat (first | refine qd0 ?_ _ | refine qh0 ?_ | refine qe0 ?_ _)); exact BK211.out⟩, ⟨by repeat (first | (with_reducible first | exact HB.out | apply qc0 | apply qa0 | apply qb0 | refine qf0 ?_ GE192.out | refine qf0 ?_ GE211.out) | exact HB.out)⟩⟩
         rw [if_neg c49] at H
         have c49b0 : decide ((l0_0.length : Int) ≤ ((rd_T53 l0_1 x53_3).f0)) = false := decide_eq_false c49
         clear c49
         by_cases c52 : (-9223372036854775808) ≤ ((rd_T53 l0_1 x53_3).f0)
         case neg => rw [if_neg c52] at H; exact absurd H (by simp)
         rw [if_pos c52] at H
         have LMc52 := Aside0.mk c52
         clear c52
         by_cases c53 : ((rd_T53 l0_1 x53_3).f0) ≤ 9223372036854775807
         case neg => rw [if_neg c53] at H; exact absurd H (by simp)
         rw [if_pos c53] at H
         have LMc53 := Aside0.mk c53
         clear c53
         by_cases c54 : ((rd_T53 l0_1 x53_3).f1) = (wrap64 (((mget x6_3 ((rd_T53 l0_1 x53_3).f0)).getD 0) + 1))
         ·rw [if_pos c54] at H
          have c54b0 : (((rd_T53 l0_1 x53_3).f1) == (wrap64 (((mget x6_3 ((rd_T53 l0_1 x53_3).f0)).getD 0) + 1))) = true := beq_iff_eq.mpr c54
          have c54b1 : (((rd_T53 l0_1 x53_3).f1) != (wrap64 (((mget x6_3 ((rd_T53 l0_1 x53_3).f0)).getD 0) + 1))) = false := bne_eq_false_iff_eq.mpr c54
          clear c54
          replace H := Option.bind_eq_some_iff.mp H
          obtain ⟨t212, A550, H⟩ := H
          replace H : (if 0 ≤ ((rd_T53 l0_1 x53_3).f0) then (if ((rd_T53 l0_1 x53_3).f0) < (l0_0.length : Int) then (if t212 > ((rd_T122 l0_0 ((rd_T53 l0_1 x53_3).f0)).f1) then (impl_RegisterOk.j4 k3 x6_3 x7_3 l0_1 (l0_1.length : Int) x53_3 true l0_0 l0_1 ((rd_T53 l0_1 x53_3).f0) ((rd_T53 l0_1 x53_3).f1) ((rd_T53 l0_1 x53_3).f2) ((rd_T53 l0_1 x53_3).f3)) else ((impl_isDay.f ((rd_T53 l0_1 x53_3).f2)).bind fun t214 => (if t214 = true then (impl_RegisterOk.j4 k3 x6_3 x7_3 l0_1 (l0_1.length : Int) x53_3 (decide (((rd_T53 l0_1 x53_3).f2) < ((mget x7_3 ((rd_T53 l0_1 x53_3).f0)).getD 0))) l0_0 l0_1 ((rd_T53 l0_1 x53_3).f0) ((rd_T53 l0_1 x53_3).f1) ((rd_T53 l0_1 x53_3).f2) ((rd_T53 l0_1 x53_3).f3)) else (impl_RegisterOk.j4 k3 x6_3 x7_3 l0_1 (l0_1.length : Int) x53_3 true l0_0 l0_1 ((rd_T53 l0_1 x53_3).f0) ((rd_T53 l0_1 x53_3).f1) ((rd_T53 l0_1 x53_3).f2) ((rd_T53 l0_1 x53_3).f3))))) else (none)) else (none)) = some r := H
          have A55 := Aside0.mk A550
          clear A550
          by_cases c56 : 0 ≤ ((rd_T53 l0_1 x53_3).f0)
          case neg => rw [if_neg c56] at H; exact absurd H (by simp)
          rw [if_pos c56] at H
          have c56b0 : decide (0 ≤ ((rd_T53 l0_1 x53_3).f0)) = true := decide_eq_true c56
          clear c56
          by_cases c57 : ((rd_T53 l0_1 x53_3).f0) < (l0_0.length : Int)
          case neg => rw [if_neg c57] at H; exact absurd H (by simp)
          rw [if_pos c57] at H
          have c57b0 : decide (((rd_T53 l0_1 x53_3).f0) < (l0_0.length : Int)) = true := decide_eq_true c57
          clear c57
          by_cases c58 : t212 > ((rd_T122 l0_0 ((rd_T53 l0_1 x53_3).f0)).f1)
          ·rw [if_pos c58] at H
           have c58b0 : decide (((rd_T122 l0_0 ((rd_T53 l0_1 x53_3).f0)).f1) < t212) = true := decide_eq_true c58
           clear c58
           have H' := Aside0.mk H
           clear H
           try go_wp2
           have n0_ : Aside0 (Kd.Z kz128 128 ((((w43.setCell ⟨gb211, 0, none⟩ (.int .i64 ((rd_T53 l0_1 x53_3).f0))).setCell ⟨gb211, 1, none⟩ (.int .i64 ((rd_T53 l0_1 x53_3).f1))).setCell ⟨gb211, 2, none⟩ (.int .i64 ((rd_T53 l0_1 x53_3).f2))).setCell ⟨gb211, 3, none⟩ (.bool ((rd_T53 l0_1 x53_3).f3))) w.heap.size (fun _ => True) (.map (some mb205)) x6_3) := ⟨by (with_reducible repeat (first | apply Kd.Z_alloc | apply Kd.Z_drewN | apply Kd.Z_drew)); exact Kd.Z_mono (Kd.Z_far (p := ⟨gb211, 3, none⟩) (Kd.Z_far (p := ⟨gb211, 2, none⟩) (Kd.Z_far (p := ⟨gb211, 1, none⟩) (Kd.Z_far (p := ⟨gb211, 0, none⟩) (Kd.Z_types HO_6.out BK211.out (by decide)) (fun _ hk => hk.2) (.int .i64 ((rd_T53 l0_1 x53_3).f0))) (fun _ hk => hk.2) (.int .i64 ((rd_T53 l0_1 x53_3).f1))) (fun _ hk => hk.2) (.int .i64 ((rd_T53 l0_1 x53_3).f2))) (fun _ hk => hk.2) (.bool ((rd_T53 l0_1 x53_3).f3))) (fun _ hk => trivial)⟩
           have n1_ : Aside0 (Kd.Z kz128 128 ((((w43.setCell ⟨gb211, 0, none⟩ (.int .i64 ((rd_T53 l0_1 x53_3).f0))).setCell ⟨gb211, 1, none⟩ (.int .i64 ((rd_T53 l0_1 x53_3).f1))).setCell ⟨gb211, 2, none⟩ (.int .i64 ((rd_T53 l0_1 x53_3).f2))).setCell ⟨gb211, 3, none⟩ (.bool ((rd_T53 l0_1 x53_3).f3))) w.heap.size (fun _ => True) (.map (some mb209)) x7_3) := ⟨by (with_reducible repeat (first | apply Kd.Z_alloc | apply Kd.Z_drewN | apply Kd.Z_drew)); exact Kd.Z_mono (Kd.Z_far (p := ⟨gb211, 3, none⟩) (Kd.Z_far (p := ⟨gb211, 2, none⟩) (Kd.Z_far (p := ⟨gb211, 1, none⟩) (Kd.Z_far (p := ⟨gb211, 0, none⟩) (Kd.Z_types HO_7.out BK211.out (by decide)) (fun _ hk => hk.2) (.int .i64 ((rd_T53 l0_1 x53_3).f0))) (fun _ hk => hk.2) (.int .i64 ((rd_T53 l0_1 x53_3).f1))) (fun _ hk => hk.2) (.int .i64 ((rd_T53 l0_1 x53_3).f2))) (fun _ hk => hk.2) (.bool ((rd_T53 l0_1 x53_3).f3))) (fun _ hk => trivial)⟩
           have n2_ : Aside0 (((((w43.setCell ⟨gb211, 0, none⟩ (.int .i64 ((rd_T53 l0_1 x53_3).f0))).setCell ⟨gb211, 1, none⟩ (.int .i64 ((rd_T53 l0_1 x53_3).f1))).setCell ⟨gb211, 2, none⟩ (.int .i64 ((rd_T53 l0_1 x53_3).f2))).setCell ⟨gb211, 3, none⟩ (.bool ((rd_T53 l0_1 x53_3).f3))).heap[gb192]? = some (.cells #[.slice A0_0 l0_0.length c0_0, .slice (some ad210) l0_1.length c0_1] 42 (0, 0))) := ⟨by (with_reducible repeat (first | refine qd0 ?_ _ | refine qh0 ?_ | refine qe0 ?_ _)); refine qu0 ?_ NB192_211.out _; (with_reducible repeat (first | refine qd0 ?_ _ | refine qh0 ?_ | refine qe0 ?_ _)); refine qu0 ?_ NB192_211.out _; (with_reducible repeat (first | refine qd0 ?_ _ | refine qh0 ?_ | refine qe0 ?_ _)); refine qu0 ?_ NB192_211.out _; (with_reducible repeat (first | refine qd0 ?_ _ | refine qh0 ?_ | refine qe0 ?_ _)); refine qu0 ?_ NB192_211.out _; (with_reducible repeat (first | refine qd0 ?_ _ | refine qh0 ?_ | refine qe0 ?_ _)); exact BK192.out⟩
           have n3_ : Aside0 (((((w43.setCell ⟨gb211, 0, none⟩ (.int .i64 ((rd_T53 l0_1 x53_3).f0))).setCell ⟨gb211, 1, none⟩ (.int .i64 ((rd_T53 l0_1 x53_3).f1))).setCell ⟨gb211, 2, none⟩ (.int .i64 ((rd_T53 l0_1 x53_3).f2))).setCell ⟨gb211, 3, none⟩ (.bool ((rd_T53 l0_1 x53_3).f3))).heap[gb211]? = some (.cells #[.int .i64 ((rd_T53 l0_1 x53_3).f0), .int .i64 ((rd_T53 l0_1 x53_3).f1), .int .i64 ((rd_T53 l0_1 x53_3).f2), .bool ((rd_T53 l0_1 x53_3).f3)] 53 (0, 0))) := ⟨by (with_reducible repeat (first | refine qd0 ?_ _ | refine qh0 ?_ | refine qe0 ?_ _)); refine qx0 (cs := #[.int .i64 ((rd_T53 l0_1 x53_3).f0), .int .i64 ((rd_T53 l0_1 x53_3).f1), .int .i64 ((rd_T53 l0_1 x53_3).f2), .bool false]) ?_ 3 _ rfl; (with_reducible repeat (first | refine qd0 ?_ _ | refine qh0 ?_ | refine qe0 ?_ _)); refine qx0 (cs := #[.int .i64 ((rd_T53 l0_1 x53_3).f0), .int .i64 ((rd_T53 l0_1 x53_3).f1), .int .i64 0, .bool false]) ?_ 2 _ rfl; (with_reducible repeat (first | refine qd0 ?_ _ | refine qh0 ?_ | refine qe0 ?_ _)); refine qx0 (cs := #[.int .i64 ((rd_T53 l0_1 x53_3).f0), .int .i64 0, .int .i64 0, .bool false]) ?_ 1 _ rfl; (with_reducible repeat (first | refine qd0 ?_ _ | refine qh0 ?_ | refine qe0 ?_ _)); refine qx0 (cs := #[.int .i64 0, .int .i64 0, .int .i64 0, .bool false]) ?_ 0 _ rfl; (with_reducible repeat (first | refine qd0 ?_ _ | refine qh0 ?_ | refine qe0 ?_ _)); exact BK211.out⟩
           have n4_ : Aside0 (Below w.heap.size w ((((w43.setCell ⟨gb211, 0, none⟩ (.int .i64 ((rd_T53 l0_1 x53_3).f0))).setCell ⟨gb211, 1, none⟩ (.int .i64 ((rd_T53 l0_1 x53_3).f1))).setCell ⟨gb211, 2, none⟩ (.int .i64 ((rd_T53 l0_1 x53_3).f2))).setCell ⟨gb211, 3, none⟩ (.bool ((rd_T53 l0_1 x53_3).f3)))) := ⟨by repeat (first | (with_reducible first | exact HB.out | apply qc0 | apply qa0 | apply qb0 | refine qf0 ?_ GE192.out | refine qf0 ?_ GE211.out) | exact HB.out)⟩
           (try clear HO_6)
           (try clear HO_7)
           (try clear BK192)
           (try clear BK211)
           (try clear HB)
           generalize ((((w43.setCell ⟨gb211, 0, none⟩ (.int .i64 ((rd_T53 l0_1 x53_3).f0))).setCell ⟨gb211, 1, none⟩ (.int .i64 ((rd_T53 l0_1 x53_3).f1))).setCell ⟨gb211, 2, none⟩ (.int .i64 ((rd_T53 l0_1 x53_3).f2))).setCell ⟨gb211, 3, none⟩ (.bool ((rd_T53 l0_1 x53_3).f3))) = w59 at n0_ n1_ n2_ n3_ n4_ ⊢
           have HO_6 := n0_
           have HO_7 := n1_
           have BK192 := n2_
           have BK211 := n3_
           have HB := n4_
           clear n0_ n1_ n2_ n3_ n4_
           have n0_ := Aside0.mk (Kd.Z_drew HO_6.out)
           have n1_ := Aside0.mk (Kd.Z_drew HO_7.out)
           have n2_ := Aside0.mk (qh0 BK192.out)
           have n3_ := Aside0.mk (qh0 BK211.out)
           have n4_ := Aside0.mk (qb0 HB.out)
           clear HO_6
           clear HO_7
           clear BK192
           clear BK211
           clear HB
           have HO_6 := n0_
           have HO_7 := n1_
           have BK192 := n2_
           have BK211 := n3_
           have HB := n4_
           clear n0_ n1_ n2_ n3_ n4_
           have p213 : 0 ≤ (((rd_T53 l0_1 x53_3).f0) : Int) := of_decide_eq_true (by first | (with_reducible assumption) | assumption)
           have q213 : ((rd_T53 l0_1 x53_3).f0) < (l0_0.length : Int) := of_decide_eq_true (by first | (with_reducible assumption) | assumption)
           obtain ⟨ad213, e213, hx213_0, hx213_1⟩ := at_T122 HR0_0.out ((rd_T53 l0_1 x53_3).f0) p213 q213
           have hw213_1 := hx213_1
           have hw213_0 := hx213_0
           cases e213
           replace hx213_0 := (HB.out.cell (World.block_lt_of_cell? w _ hx213_0)).trans hx213_0
           replace hx213_1 := (HB.out.cell (World.block_lt_of_cell? w _ hx213_1)).trans hx213_1
           replace p213 := eq_true p213
           replace q213 := eq_true q213
           refine qo1 (n := 49) (S := fun w' => w'.cell? ⟨gb211, 0, none⟩ = some (.int .i64 ((rd_T53 l0_1 x53_3).f0)) ∧ w'.cell? ⟨gb211, 1, none⟩ = some (.int .i64 ((rd_T53 l0_1 x53_3).f1)) ∧ w'.cell? ⟨gb211, 2, none⟩ = some (.int .i64 ((rd_T53 l0_1 x53_3).f2)) ∧ w'.cell? ⟨gb211, 3, none⟩ = some (.bool ((rd_T53 l0_1 x53_3).f3)) ∧ w'.cell? ⟨gb192, 0, none⟩ = some (.slice (some ad213) l0_0.length c0_0) ∧ w'.cell? ⟨gb192, 1, none⟩ = some (.slice (some ad210) l0_1.length c0_1) ∧ w'.cell? (ad213.add ((((rd_T53 l0_1 x53_3).f0)).toNat * 2)) = some (.string ((rd_T122 l0_0 ((rd_T53 l0_1 x53_3).f0)).f0)) ∧ w'.cell? ⟨(ad213.add ((((rd_T53 l0_1 x53_3).f0)).toNat * 2)).block, (ad213.add ((((rd_T53 l0_1 x53_3).f0)).toNat * 2)).off + 1, none⟩ = some (.int .i64 ((rd_T122 l0_0 ((rd_T53 l0_1 x53_3).f0)).f1))) (ds := []) (rb8 [0, 49]) (by kernel_rfl) rfl rfl ⟨(qg0 BK211.out 0).trans rfl, (qg0 BK211.out 1).trans rfl, (qg0 BK211.out 2).trans rfl, (qg0 BK211.out 3).trans rfl, (qg0 BK192.out 0).trans rfl, (qg0 BK192.out 1).trans rfl, ((HB.out.cell (World.block_lt_of_cell? w _ hw213_0)).trans hw213_0), ((HB.out.cell (World.block_lt_of_cell? w _ hw213_1)).trans hw213_1)⟩ (fun hHeld => ?_); refine qf1 impl_RegisterOk.tab16 impl_RegisterOk.bits16 (fun HT_ HW_ => ?_)
           generalize w59.drew = w60 at HO_6 HO_7 BK192 BK211 HB hx213_0 hx213_1 hHeld ⊢
           refine pure_ (i := 0) (N := some 57) (v := ?_) (a' := ?_) (rb8 [1, 48]) rfl rfl (qj0 HT_.out (by kernel_rfl)) (fun _ _ _ h => h) (Or.inl ⟨by rfl, ?_⟩) ?_ ?_
           rotate_left
           ·intro w'
            go_simp
            with_reducible rfl
           rotate_left
           ·simp only [Act.put, List.setIfInBounds_toArray, List.set_cons_zero, List.set_cons_succ, i64_w, i32_w]
            rfl
           refine take_ (i := 1) (N := some 58) (v := ?_) (a' := ?_) (rb8 [2, 47]) rfl rfl (qo0 HT_.out HW_.out (by kernel_rfl)) (fun _ _ _ h => h) (Or.inl ⟨by rfl, ?_⟩) hHeld ?_ ?_
           rotate_left
           ·rintro w' ⟨s0, s1, s2, s3, s4, s5, s6, s7⟩
            go_simp
            with_reducible rfl
           rotate_left
           ·simp only [Act.put, List.setIfInBounds_toArray, List.set_cons_zero, List.set_cons_succ, i64_w, i32_w]
            rfl
           refine pure_ (i := 2) (N := some 59) (v := ?_) (a' := ?_) (rb8 [3, 46]) rfl rfl (qj0 HT_.out (by kernel_rfl)) (fun _ _ _ h => h) (Or.inl ⟨by rfl, ?_⟩) ?_ ?_
           rotate_left
           ·intro w'
            go_simp
            with_reducible rfl
           rotate_left
           ·simp only [Act.put, List.setIfInBounds_toArray, List.set_cons_zero, List.set_cons_succ, i64_w, i32_w]
            rfl
           refine pure_ (i := 3) (N := some 60) (v := ?_) (a' := ?_) (rb8 [4, 45]) rfl rfl (qj0 HT_.out (by kernel_rfl)) (fun _ _ _ h => h) (Or.inl ⟨by rfl, ?_⟩) ?_ ?_
           rotate_left
           ·intro w'
            go_simp
            with_reducible rfl
           rotate_left
           ·simp only [Act.put, List.setIfInBounds_toArray, List.set_cons_zero, List.set_cons_succ, i64_w, i32_w]
            rfl
           refine pure_ (i := 4) (N := some 61) (v := ?_) (a' := ?_) (rb8 [5, 44]) rfl rfl (qj0 HT_.out (by kernel_rfl)) (fun _ _ _ h => h) (Or.inl ⟨by rfl, ?_⟩) ?_ ?_
           rotate_left
           ·intro w'
            go_simp
            with_reducible rfl
           rotate_left
           ·simp only [Act.put, List.setIfInBounds_toArray, List.set_cons_zero, List.set_cons_succ, i64_w, i32_w]
            rfl
           refine pure_ (i := 6) (N := some 63) (v := ?_) (a' := ?_) (rb8 [5, 1, 1, 42]) rfl rfl (qj0 HT_.out (by kernel_rfl)) (fun _ _ _ h => h) (Or.inl ⟨by rfl, ?_⟩) ?_ ?_
           rotate_left
           ·intro w'
            go_simp
            with_reducible rfl
           rotate_left
           ·simp only [Act.put, List.setIfInBounds_toArray, List.set_cons_zero, List.set_cons_succ, i64_w, i32_w]
            rfl
           refine take_ (i := 5) (N := some 62) (v := ?_) (a' := ?_) (rb8 [7, 42]) rfl rfl (qo0 HT_.out HW_.out (by kernel_rfl)) (fun _ _ _ h => h) (Or.inl ⟨by rfl, ?_⟩) hHeld ?_ ?_
           rotate_left
           ·rintro w' ⟨s0, s1, s2, s3, s4, s5, s6, s7⟩
            go_simp
            with_reducible rfl
           rotate_left
           ·simp only [Act.put, List.setIfInBounds_toArray, List.set_cons_zero, List.set_cons_succ, i64_w, i32_w]
            rfl
           refine take_ (i := 7) (N := some 64) (v := ?_) (a' := ?_) (rb8 [8, 41]) rfl rfl (qo0 HT_.out HW_.out (by kernel_rfl)) (fun _ _ _ h => h) (Or.inl ⟨by rfl, ?_⟩) hHeld ?_ ?_
           rotate_left
           ·rintro w' ⟨s0, s1, s2, s3, s4, s5, s6, s7⟩
            go_simp
            with_reducible rfl
           rotate_left
           ·simp only [Act.put, List.setIfInBounds_toArray, List.set_cons_zero, List.set_cons_succ, i64_w, i32_w]
            rfl
           refine pure_ (i := 8) (N := some 65) (v := ?_) (a' := ?_) (rb8 [9, 40]) rfl rfl (qj0 HT_.out (by kernel_rfl)) (fun _ _ _ h => h) (Or.inl ⟨by rfl, ?_⟩) ?_ ?_
           rotate_left
           ·intro w'
            go_simp
            with_reducible rfl
           rotate_left
           ·simp only [Act.put, List.setIfInBounds_toArray, List.set_cons_zero, List.set_cons_succ, i64_w, i32_w]
            rfl
           refine pure_ (i := 9) (N := some 66) (v := ?_) (a' := ?_) (rb8 [10, 39]) rfl rfl (qj0 HT_.out (by kernel_rfl)) (fun _ _ _ h => h) (Or.inl ⟨by rfl, ?_⟩) ?_ ?_
           rotate_left
           ·intro w'
            go_simp
            with_reducible rfl
           rotate_left
           ·simp only [Act.put, List.setIfInBounds_toArray, List.set_cons_zero, List.set_cons_succ, i64_w, i32_w]
            rfl
           refine pure_ (i := 10) (N := some 67) (v := ?_) (a' := ?_) (rb8 [11, 38]) rfl rfl (qj0 HT_.out (by kernel_rfl)) (fun _ _ _ h => h) (Or.inl ⟨by rfl, ?_⟩) ?_ ?_
           rotate_left
           ·intro w'
            go_simp
            with_reducible rfl
           rotate_left
           ·simp only [Act.put, List.setIfInBounds_toArray, List.set_cons_zero, List.set_cons_succ, i64_w, i32_w]
            rfl
           refine pure_ (i := 11) (N := some 68) (v := ?_) (a' := ?_) (rb8 [12, 37]) rfl rfl (qj0 HT_.out (by kernel_rfl)) (fun _ _ _ h => h) (Or.inl ⟨by rfl, ?_⟩) ?_ ?_
           rotate_left
           ·intro w'
            go_simp
            with_reducible rfl
           rotate_left
           ·simp only [Act.put, List.setIfInBounds_toArray, List.set_cons_zero, List.set_cons_succ, i64_w, i32_w]
            rfl
           refine pure_ (i := 12) (N := some 69) (v := ?_) (a' := ?_) (rb8 [13, 36]) rfl rfl (qj0 HT_.out (by kernel_rfl)) (fun _ _ _ h => h) (Or.inl ⟨by rfl, ?_⟩) ?_ ?_
           rotate_left
           ·intro w'
            go_simp
            with_reducible rfl
           rotate_left
           ·simp only [Act.put, List.setIfInBounds_toArray, List.set_cons_zero, List.set_cons_succ, i64_w, i32_w]
            rfl
           refine pure_ (i := 14) (N := some 71) (v := ?_) (a' := ?_) (rb8 [13, 1, 1, 34]) rfl rfl (qj0 HT_.out (by kernel_rfl)) (fun _ _ _ h => h) (Or.inl ⟨by rfl, ?_⟩) ?_ ?_
           rotate_left
           ·intro w'
            go_simp
            with_reducible rfl
           rotate_left
           ·simp only [Act.put, List.setIfInBounds_toArray, List.set_cons_zero, List.set_cons_succ, i64_w, i32_w]
            rfl
           refine pure_ (i := 15) (N := some 72) (v := ?_) (a' := ?_) (rb8 [13, 1, 2, 33]) rfl rfl (qj0 HT_.out (by kernel_rfl)) (fun _ _ _ h => h) (Or.inl ⟨by rfl, ?_⟩) ?_ ?_
           rotate_left
           ·intro w'
            go_simp
            with_reducible rfl
           rotate_left
           ·simp only [Act.put, List.setIfInBounds_toArray, List.set_cons_zero, List.set_cons_succ, i64_w, i32_w]
            rfl
           refine take_ (i := 13) (N := some 70) (v := ?_) (a' := ?_) (rb8 [16, 33]) rfl rfl (qo0 HT_.out HW_.out (by kernel_rfl)) (fun _ _ _ h => h) (Or.inl ⟨by rfl, ?_⟩) hHeld ?_ ?_
           rotate_left
           ·rintro w' ⟨s0, s1, s2, s3, s4, s5, s6, s7⟩
            go_simp
            with_reducible rfl
           rotate_left
           ·simp only [Act.put, List.setIfInBounds_toArray, List.set_cons_zero, List.set_cons_succ, i64_w, i32_w]
            rfl
           refine take_ (i := 16) (N := some 73) (v := ?_) (a' := ?_) (rb8 [17, 32]) rfl rfl (qo0 HT_.out HW_.out (by kernel_rfl)) (fun _ _ _ h => h) (Or.inl ⟨by rfl, ?_⟩) hHeld ?_ ?_
           rotate_left
           ·rintro w' ⟨s0, s1, s2, s3, s4, s5, s6, s7⟩
            go_simp
            with_reducible rfl
           rotate_left
           ·simp only [Act.put, List.setIfInBounds_toArray, List.set_cons_zero, List.set_cons_succ, i64_w, i32_w]
            rfl
           refine one_ (i := 17) (N := some 74) (rb8 [18, 31]) rfl rfl (qn1 HT_.out (by kernel_rfl)) (by decide) (fun K hK => ?_)
           (have hcv61 := Kd.Z_run (d := kz128) (k := ((rd_T53 l0_1 x53_3).f0)) kz128_K kz128_inj kz128_t 0 kz128_z HO_6.out (kz128_key ((rd_T53 l0_1 x53_3).f0) LMc52.out LMc53.out) false; simp only [kz128, ↓reduceIte, Bool.false_eq_true] at hcv61)
           (have hcvd := fun (n_ : Nat) => Kd.Z_run (d := kz128) (k := ((rd_T53 l0_1 x53_3).f0)) kz128_K kz128_inj kz128_t 0 kz128_z (Kd.Z_drewN HO_6.out n_) (kz128_key ((rd_T53 l0_1 x53_3).f0) LMc52.out LMc53.out) false; simp only [kz128, ↓reduceIte, Bool.false_eq_true] at hcvd)
           refine value_ (w1 := ?_) (v := ?_) (by rfl) rfl ?_ ?_
           rotate_left 2
           ·go_simp
            constructor
            ·rfl
            ·rfl
           clear hcvd
           clear hcv61
           refine hK.out _ _ ⟨(qg0 BK211.out 0).trans rfl, (qg0 BK211.out 1).trans rfl, (qg0 BK211.out 2).trans rfl, (qg0 BK211.out 3).trans rfl, (qg0 BK192.out 0).trans rfl, (qg0 BK192.out 1).trans rfl, ((HB.out.cell (World.block_lt_of_cell? w _ hw213_0)).trans hw213_0), ((HB.out.cell (World.block_lt_of_cell? w _ hw213_1)).trans hw213_1)⟩ (fun hHeld => ?_)
           clear hK K
           refine norm_ (a' := ?_) ?_ ?_
           rotate_left
           ·show Act.put _ (some 74) _ = _
            simp only [Act.put, List.setIfInBounds_toArray, List.set_cons_zero, List.set_cons_succ, i64_w, i32_w]
            rfl
           refine pure_ (i := 18) (N := some 75) (v := ?_) (a' := ?_) (rb8 [19, 30]) rfl rfl (qj0 HT_.out (by kernel_rfl)) (fun _ _ _ h => h) (Or.inl ⟨by rfl, ?_⟩) ?_ ?_
           rotate_left
           ·intro w'
            go_simp
            with_reducible rfl
           rotate_left
           ·simp only [Act.put, List.setIfInBounds_toArray, List.set_cons_zero, List.set_cons_succ, i64_w, i32_w]
            rfl
           refine pure_ (i := 19) (N := some 76) (v := ?_) (a' := ?_) (rb8 [20, 29]) rfl rfl (qj0 HT_.out (by kernel_rfl)) (fun _ _ _ h => h) (Or.inl ⟨by rfl, ?_⟩) ?_ ?_
           rotate_left
           ·intro w'
            go_simp
            with_reducible rfl
           rotate_left
           ·simp only [Act.put, List.setIfInBounds_toArray, List.set_cons_zero, List.set_cons_succ, i64_w, i32_w]
            rfl
           refine pure_ (i := 20) (N := some 77) (v := ?_) (a' := ?_) (rb8 [21, 28]) rfl rfl (qj0 HT_.out (by kernel_rfl)) (fun _ _ _ h => h) (Or.inl ⟨by rfl, ?_⟩) ?_ ?_
           rotate_left
           ·intro w'
            go_simp
            with_reducible rfl
           rotate_left
           ·simp only [Act.put, List.setIfInBounds_toArray, List.set_cons_zero, List.set_cons_succ, i64_w, i32_w]
            rfl
           refine pure_ (i := 21) (N := some 78) (v := ?_) (a' := ?_) (rb8 [22, 27]) rfl rfl (qj0 HT_.out (by kernel_rfl)) (fun _ _ _ h => h) (Or.inl ⟨by rfl, ?_⟩) ?_ ?_
           rotate_left
           ·intro w'
            go_simp
            with_reducible rfl
           rotate_left
           ·simp only [Act.put, List.setIfInBounds_toArray, List.set_cons_zero, List.set_cons_succ, i64_w, i32_w]
            rfl
           refine pure_ (i := 22) (N := some 79) (v := ?_) (a' := ?_) (rb8 [23, 26]) rfl rfl (qj0 HT_.out (by kernel_rfl)) (fun _ _ _ h => h) (Or.inl ⟨by rfl, ?_⟩) ?_ ?_
           rotate_left
           ·intro w'
            go_simp
            with_reducible rfl
           rotate_left
           ·simp only [Act.put, List.setIfInBounds_toArray, List.set_cons_zero, List.set_cons_succ, i64_w, i32_w]
            rfl
           refine pure_ (i := 25) (N := some 82) (v := ?_) (a' := ?_) (rb8 [23, 2, 1, 23]) rfl rfl (qj0 HT_.out (by kernel_rfl)) (fun _ _ _ h => h) (Or.inl ⟨by rfl, ?_⟩) ?_ ?_
           rotate_left
           ·intro w'
            go_simp
            with_reducible rfl
           rotate_left
           ·simp only [Act.put, List.setIfInBounds_toArray, List.set_cons_zero, List.set_cons_succ, i64_w, i32_w]
            rfl
           refine pure_ (i := 27) (N := some 84) (v := ?_) (a' := ?_) (rb8 [23, 2, 1, 1, 1, 21]) rfl rfl (qj0 HT_.out (by kernel_rfl)) (fun _ _ _ h => h) (Or.inl ⟨by rfl, ?_⟩) ?_ ?_
           rotate_left
           ·intro w'
            go_simp
            with_reducible rfl
           rotate_left
           ·simp only [Act.put, List.setIfInBounds_toArray, List.set_cons_zero, List.set_cons_succ, i64_w, i32_w]
            rfl
           refine take_ (i := 23) (N := some 80) (v := ?_) (a' := ?_) (rb8 [24, 1, 1, 1, 1, 21]) rfl rfl (qo0 HT_.out HW_.out (by kernel_rfl)) (fun _ _ _ h => h) (Or.inl ⟨by rfl, ?_⟩) hHeld ?_ ?_
           rotate_left
           ·rintro w' ⟨s0, s1, s2, s3, s4, s5, s6, s7⟩
            go_simp
            with_reducible rfl
           rotate_left
           ·simp only [Act.put, List.setIfInBounds_toArray, List.set_cons_zero, List.set_cons_succ, i64_w, i32_w]
            rfl
           refine take_ (i := 26) (N := some 83) (v := ?_) (a' := ?_) (rb8 [24, 1, 3, 21]) rfl rfl (qo0 HT_.out HW_.out (by kernel_rfl)) (fun _ _ _ h => h) (Or.inl ⟨by rfl, ?_⟩) hHeld ?_ ?_
           rotate_left
           ·rintro w' ⟨s0, s1, s2, s3, s4, s5, s6, s7⟩
            go_simp
            with_reducible rfl
           rotate_left
           ·simp only [Act.put, List.setIfInBounds_toArray, List.set_cons_zero, List.set_cons_succ, i64_w, i32_w]
            rfl
           refine take_ (i := 28) (N := some 85) (v := ?_) (a' := ?_) (rb8 [24, 1, 4, 20]) rfl rfl (qo0 HT_.out HW_.out (by kernel_rfl)) (fun _ _ _ h => h) (Or.inl ⟨by rfl, ?_⟩) hHeld ?_ ?_
           rotate_left
           ·rintro w' ⟨s0, s1, s2, s3, s4, s5, s6, s7⟩
            go_simp
            with_reducible rfl
           rotate_left
           ·simp only [Act.put, List.setIfInBounds_toArray, List.set_cons_zero, List.set_cons_succ, i64_w, i32_w]
            rfl
           refine pure_ (i := 29) (N := some 86) (v := ?_) (a' := ?_) (rb8 [24, 1, 5, 19]) rfl rfl (qj0 HT_.out (by kernel_rfl)) (fun _ _ _ h => h) (Or.inl ⟨by rfl, ?_⟩) ?_ ?_
           rotate_left
           ·intro w'
            go_simp
            with_reducible rfl
           rotate_left
           ·simp only [Act.put, List.setIfInBounds_toArray, List.set_cons_zero, List.set_cons_succ, i64_w, i32_w]
            rfl
           refine pure_ (i := 30) (N := some 87) (v := ?_) (a' := ?_) (rb8 [24, 1, 6, 18]) rfl rfl (qj0 HT_.out (by kernel_rfl)) (fun _ _ _ h => h) (Or.inl ⟨by rfl, ?_⟩) ?_ ?_
           rotate_left
           ·intro w'
            go_simp
            with_reducible rfl
           rotate_left
           ·simp only [Act.put, List.setIfInBounds_toArray, List.set_cons_zero, List.set_cons_succ, i64_w, i32_w]
            rfl
           refine take_ (i := 31) (N := some 88) (v := ?_) (a' := ?_) (rb8 [24, 1, 7, 17]) rfl rfl (qo0 HT_.out HW_.out (by kernel_rfl)) (fun _ _ _ h => h) (Or.inl ⟨by rfl, ?_⟩) hHeld ?_ ?_
           rotate_left
           ·rintro w' ⟨s0, s1, s2, s3, s4, s5, s6, s7⟩
            go_simp
            with_reducible rfl
           rotate_left
           ·simp only [Act.put, List.setIfInBounds_toArray, List.set_cons_zero, List.set_cons_succ, i64_w, i32_w]
            rfl
           refine one_ (i := 24) (N := some 81) (rb8 [32, 17]) rfl rfl (qn1 HT_.out (by kernel_rfl)) (by decide) (fun K hK => ?_)
           refine goes_ Try.func87 (by kernel_rfl) rfl #[.int .i64 ((rd_T53 l0_1 x53_3).f1)] (by rfl) rfl rfl (by (try simp only [List.map_toArray, List.map_cons, List.map_nil]); first | done | rfl | (simp only [List.length_drop, List.length_take]; rfl)) ?_
           with_reducible refine (impl_digitsIn.calls k3 ((rd_T53 l0_1 x53_3).f1) t212 _ A55.out).mono ?_
           rintro e w62 ⟨rfl, hb⟩
           refine ⟨_, rfl, ?_⟩
           have n0_ := Aside0.mk (Kd.Z_below (by (with_reducible repeat (first | apply Kd.Z_alloc | apply Kd.Z_drewN | apply Kd.Z_drew)); exact HO_6.out) hb)
           have n1_ := Aside0.mk (Kd.Z_below (by (with_reducible repeat (first | apply Kd.Z_alloc | apply Kd.Z_drewN | apply Kd.Z_drew)); exact HO_7.out) hb)
           have n2_ := Aside0.mk (qm0 (g := gb192) (o := .cells #[.slice (some ad213) l0_0.length c0_0, .slice (some ad210) l0_1.length c0_1] 42 (0, 0)) (by (with_reducible repeat (first | refine qd0 ?_ _ | refine qh0 ?_ | refine qe0 ?_ _)); exact BK192.out) hb)
           have n3_ := Aside0.mk (qm0 (g := gb211) (o := .cells #[.int .i64 ((rd_T53 l0_1 x53_3).f0), .int .i64 ((rd_T53 l0_1 x53_3).f1), .int .i64 ((rd_T53 l0_1 x53_3).f2), .bool ((rd_T53 l0_1 x53_3).f3)] 53 (0, 0)) (by (with_reducible repeat (first | refine qd0 ?_ _ | refine qh0 ?_ | refine qe0 ?_ _)); exact BK211.out) hb)
           have n4_ := Aside0.mk (ql0 (by repeat (first | (with_reducible first | exact HB.out | apply qc0 | apply qa0 | apply qb0 | refine qf0 ?_ GE192.out | refine qf0 ?_ GE211.out) | exact HB.out)) hb)
           clear HO_6
           clear HO_7
           clear BK192
           clear BK211
           clear HB
           have HO_6 := n0_
           have HO_7 := n1_
           have BK192 := n2_
           have BK211 := n3_
           have HB := n4_
           clear n0_ n1_ n2_ n3_ n4_
           (try clear hb)
           (try clear hb2)
           (try clear hk)
           (try clear hi)
           refine hK.out _ _ ⟨(qg0 BK211.out 0).trans rfl, (qg0 BK211.out 1).trans rfl, (qg0 BK211.out 2).trans rfl, (qg0 BK211.out 3).trans rfl, (qg0 BK192.out 0).trans rfl, (qg0 BK192.out 1).trans rfl, ((HB.out.cell (World.block_lt_of_cell? w _ hw213_0)).trans hw213_0), ((HB.out.cell (World.block_lt_of_cell? w _ hw213_1)).trans hw213_1)⟩ (fun hHeld => ?_)
           clear hK K
           refine norm_ (a' := ?_) ?_ ?_
           rotate_left
           ·show Act.put _ (some 81) _ = _
            simp only [Act.put, List.setIfInBounds_toArray, List.set_cons_zero, List.set_cons_succ, i64_w, i32_w]
            rfl
           refine pure_ (i := 32) (N := some 89) (v := ?_) (a' := ?_) (rb8 [33, 16]) rfl rfl (qj0 HT_.out (by kernel_rfl)) (fun _ _ _ h => h) (Or.inl ⟨by rfl, ?_⟩) ?_ ?_
           rotate_left
           ·intro w'
            go_simp
            with_reducible rfl
           rotate_left
           ·simp only [Act.put, List.setIfInBounds_toArray, List.set_cons_zero, List.set_cons_succ, i64_w, i32_w]
            rfl
           refine pure_ (i := 33) (N := some 90) (v := ?_) (a' := ?_) (rb8 [34, 15]) rfl rfl (qj0 HT_.out (by kernel_rfl)) (fun _ _ _ h => h) (Or.inl ⟨by rfl, ?_⟩) ?_ ?_
           rotate_left
           ·intro w'
            go_simp
            with_reducible rfl
           rotate_left
           ·simp only [Act.put, List.setIfInBounds_toArray, List.set_cons_zero, List.set_cons_succ, i64_w, i32_w]
            rfl
           refine pure_ (i := 34) (N := some 91) (v := ?_) (a' := ?_) (rb8 [35, 14]) rfl rfl (qj0 HT_.out (by kernel_rfl)) (fun _ _ _ h => h) (Or.inl ⟨by rfl, ?_⟩) ?_ ?_
           rotate_left
           ·intro w'
            go_simp
            with_reducible rfl
           rotate_left
           ·simp only [Act.put, List.setIfInBounds_toArray, List.set_cons_zero, List.set_cons_succ, i64_w, i32_w]
            rfl
           refine pure_ (i := 35) (N := some 92) (v := undef) (a' := ?_) (rb8 [36, 13]) rfl rfl (qj0 HT_.out (by kernel_rfl)) (fun _ _ _ h => h) (Or.inr ⟨by rfl, rfl⟩) ?_ ?_
           rotate_left
           ·simp only [Act.put, List.setIfInBounds_toArray, List.set_cons_zero, List.set_cons_succ, i64_w, i32_w]
            rfl
           refine pure_ (i := 36) (N := some 93) (v := undef) (a' := ?_) (rb8 [37, 12]) rfl rfl (qj0 HT_.out (by kernel_rfl)) (fun _ _ _ h => h) (Or.inr ⟨by rfl, rfl⟩) ?_ ?_
           rotate_left
           ·simp only [Act.put, List.setIfInBounds_toArray, List.set_cons_zero, List.set_cons_succ, i64_w, i32_w]
            rfl
           refine pure_ (i := 37) (N := some 94) (v := undef) (a' := ?_) (rb8 [38, 11]) rfl rfl (qj0 HT_.out (by kernel_rfl)) (fun _ _ _ h => h) (Or.inr ⟨by rfl, rfl⟩) ?_ ?_
           rotate_left
           ·simp only [Act.put, List.setIfInBounds_toArray, List.set_cons_zero, List.set_cons_succ, i64_w, i32_w]
            rfl
           refine pure_ (i := 38) (N := some 95) (v := undef) (a' := ?_) (rb8 [39, 10]) rfl rfl (qj0 HT_.out (by kernel_rfl)) (fun _ _ _ h => h) (Or.inr ⟨by rfl, rfl⟩) ?_ ?_
           rotate_left
           ·simp only [Act.put, List.setIfInBounds_toArray, List.set_cons_zero, List.set_cons_succ, i64_w, i32_w]
            rfl
           refine pure_ (i := 39) (N := some 96) (v := ?_) (a' := ?_) (rb8 [40, 9]) rfl rfl (qj0 HT_.out (by kernel_rfl)) (fun _ _ _ h => h) (Or.inl ⟨by rfl, ?_⟩) ?_ ?_
           rotate_left
           ·intro w'
            go_simp
            with_reducible rfl
           rotate_left
           ·simp only [Act.put, List.setIfInBounds_toArray, List.set_cons_zero, List.set_cons_succ, i64_w, i32_w]
            rfl
           refine pure_ (i := 40) (N := some 97) (v := ?_) (a' := ?_) (rb8 [41, 8]) rfl rfl (qj0 HT_.out (by kernel_rfl)) (fun _ _ _ h => h) (Or.inl ⟨by rfl, ?_⟩) ?_ ?_
           rotate_left
           ·intro w'
            go_simp
            with_reducible rfl
           rotate_left
           ·simp only [Act.put, List.setIfInBounds_toArray, List.set_cons_zero, List.set_cons_succ, i64_w, i32_w]
            rfl
           refine pure_ (i := 41) (N := some 98) (v := undef) (a' := ?_) (rb8 [42, 7]) rfl rfl (qj0 HT_.out (by kernel_rfl)) (fun _ _ _ h => h) (Or.inr ⟨by rfl, rfl⟩) ?_ ?_
           rotate_left
           ·simp only [Act.put, List.setIfInBounds_toArray, List.set_cons_zero, List.set_cons_succ, i64_w, i32_w]
            rfl
           refine pure_ (i := 42) (N := some 99) (v := undef) (a' := ?_) (rb8 [43, 6]) rfl rfl (qj0 HT_.out (by kernel_rfl)) (fun _ _ _ h => h) (Or.inr ⟨by rfl, rfl⟩) ?_ ?_
           rotate_left
           ·simp only [Act.put, List.setIfInBounds_toArray, List.set_cons_zero, List.set_cons_succ, i64_w, i32_w]
            rfl
           refine pure_ (i := 43) (N := some 100) (v := undef) (a' := ?_) (rb8 [44, 5]) rfl rfl (qj0 HT_.out (by kernel_rfl)) (fun _ _ _ h => h) (Or.inr ⟨by rfl, rfl⟩) ?_ ?_
           rotate_left
           ·simp only [Act.put, List.setIfInBounds_toArray, List.set_cons_zero, List.set_cons_succ, i64_w, i32_w]
            rfl
           refine pure_ (i := 44) (N := some 101) (v := undef) (a' := ?_) (rb8 [45, 4]) rfl rfl (qj0 HT_.out (by kernel_rfl)) (fun _ _ _ h => h) (Or.inr ⟨by rfl, rfl⟩) ?_ ?_
           rotate_left
           ·simp only [Act.put, List.setIfInBounds_toArray, List.set_cons_zero, List.set_cons_succ, i64_w, i32_w]
            rfl
           refine pure_ (i := 45) (N := some 102) (v := undef) (a' := ?_) (rb8 [46, 3]) rfl rfl (qj0 HT_.out (by kernel_rfl)) (fun _ _ _ h => h) (Or.inr ⟨by rfl, rfl⟩) ?_ ?_
           rotate_left
           ·simp only [Act.put, List.setIfInBounds_toArray, List.set_cons_zero, List.set_cons_succ, i64_w, i32_w]
            rfl
           refine pure_ (i := 46) (N := some 103) (v := undef) (a' := ?_) (rb8 [47, 2]) rfl rfl (qj0 HT_.out (by kernel_rfl)) (fun _ _ _ h => h) (Or.inr ⟨by rfl, rfl⟩) ?_ ?_
           rotate_left
           ·simp only [Act.put, List.setIfInBounds_toArray, List.set_cons_zero, List.set_cons_succ, i64_w, i32_w]
            rfl
           refine pure_ (i := 47) (N := some 104) (v := undef) (a' := ?_) (rb8 [48, 1]) rfl rfl (qj0 HT_.out (by kernel_rfl)) (fun _ _ _ h => h) (Or.inr ⟨by rfl, rfl⟩) ?_ ?_
           rotate_left
           ·simp only [Act.put, List.setIfInBounds_toArray, List.set_cons_zero, List.set_cons_succ, i64_w, i32_w]
            rfl
           refine pure_ (i := 48) (N := some 105) (v := ?_) (a' := ?_) (rb8 [49]) rfl rfl (qj0 HT_.out (by kernel_rfl)) (fun _ _ _ h => h) (Or.inl ⟨by rfl, ?_⟩) ?_ ?_
           rotate_left
           ·intro w'
            go_simp
            with_reducible rfl
           rotate_left
           ·simp only [Act.put, List.setIfInBounds_toArray, List.set_cons_zero, List.set_cons_succ, i64_w, i32_w]
            rfl
           refine done_ (ql1 HT_.out (by kernel_rfl)) ?_
           try go_wp2
           go_meet
           case rel => exact ⟨_, (true), (by first | rfl | (simp; done) | (simp [*]; done)), H', ⟨by have := HJ1.out; have := HK2.out; have := HK3.out; first | omega | exact Nat.le_refl _⟩, ⟨by (with_reducible repeat (first | apply Kd.Z_alloc | apply Kd.Z_drewN | apply Kd.Z_drew)); exact HO_6.out⟩, ⟨by (with_reducible repeat (first | apply Kd.Z_alloc | apply Kd.Z_drewN | apply Kd.Z_drew)); exact HO_7.out⟩, ⟨by (with_reducible repeat (first | refine qd0 ?_ _ | refine qh0 ?_ | refine qe0 ?_ _)); exact BK192.out⟩, ⟨by (with_reducible repeat (first | refine qd0 ?_ _ | refine qh0 ?_ | refine qe0 ?_ _)); exact BK211.out⟩, ⟨by repeat (first | (with_reducible first | exact HB.out | apply qc0 | apply qa0 | apply qb0 | refine qf0 ?_ GE192.out | refine qf0 ?_ GE211.out) | exact HB.out)⟩⟩
          rw [if_neg c58] at H
          have c58b0 : decide (((rd_T122 l0_0 ((rd_T53 l0_1 x53_3).f0)).f1) < t212) = false := decide_eq_false c58
          clear c58
          replace H := Option.bind_eq_some_iff.mp H
          obtain ⟨t214, A630, H⟩ := H
          replace H : (if t214 = true then (impl_RegisterOk.j4 k3 x6_3 x7_3 l0_1 (l0_1.length : Int) x53_3 (decide (((rd_T53 l0_1 x53_3).f2) < ((mget x7_3 ((rd_T53 l0_1 x53_3).f0)).getD 0))) l0_0 l0_1 ((rd_T53 l0_1 x53_3).f0) ((rd_T53 l0_1 x53_3).f1) ((rd_T53 l0_1 x53_3).f2) ((rd_T53 l0_1 x53_3).f3)) else (impl_RegisterOk.j4 k3 x6_3 x7_3 l0_1 (l0_1.length : Int) x53_3 true l0_0 l0_1 ((rd_T53 l0_1 x53_3).f0) ((rd_T53 l0_1 x53_3).f1) ((rd_T53 l0_1 x53_3).f2) ((rd_T53 l0_1 x53_3).f3))) = some r := H
          have A63 := Aside0.mk A630
          clear A630
          by_cases c64 : t214 = true
          ·subst c64
           have H1 : (impl_RegisterOk.j4 k3 x6_3 x7_3 l0_1 (l0_1.length : Int) x53_3 (decide (((rd_T53 l0_1 x53_3).f2) < ((mget x7_3 ((rd_T53 l0_1 x53_3).f0)).getD 0))) l0_0 l0_1 ((rd_T53 l0_1 x53_3).f0) ((rd_T53 l0_1 x53_3).f1) ((rd_T53 l0_1 x53_3).f2) ((rd_T53 l0_1 x53_3).f3)) = some r := by rw [if_pos rfl] at H; exact H
           clear H
           have H := H1
           clear H1
           have H' := Aside0.mk H
           clear H
           try go_wp2
           have n0_ : Aside0 (Kd.Z kz128 128 ((((w43.setCell ⟨gb211, 0, none⟩ (.int .i64 ((rd_T53 l0_1 x53_3).f0))).setCell ⟨gb211, 1, none⟩ (.int .i64 ((rd_T53 l0_1 x53_3).f1))).setCell ⟨gb211, 2, none⟩ (.int .i64 ((rd_T53 l0_1 x53_3).f2))).setCell ⟨gb211, 3, none⟩ (.bool ((rd_T53 l0_1 x53_3).f3))) w.heap.size (fun _ => True) (.map (some mb205)) x6_3) := ⟨by (with_reducible repeat (first | apply Kd.Z_alloc | apply Kd.Z_drewN | apply Kd.Z_drew)); exact Kd.Z_mono (Kd.Z_far (p := ⟨gb211, 3, none⟩) (Kd.Z_far (p := ⟨gb211, 2, none⟩) (Kd.Z_far (p := ⟨gb211, 1, none⟩) (Kd.Z_far (p := ⟨gb211, 0, none⟩) (Kd.Z_types HO_6.out BK211.out (by decide)) (fun _ hk => hk.2) (.int .i64 ((rd_T53 l0_1 x53_3).f0))) (fun _ hk => hk.2) (.int .i64 ((rd_T53 l0_1 x53_3).f1))) (fun _ hk => hk.2) (.int .i64 ((rd_T53 l0_1 x53_3).f2))) (fun _ hk => hk.2) (.bool ((rd_T53 l0_1 x53_3).f3))) (fun _ hk => trivial)⟩
           have n1_ : Aside0 (Kd.Z kz128 128 ((((w43.setCell ⟨gb211, 0, none⟩ (.int .i64 ((rd_T53 l0_1 x53_3).f0))).setCell ⟨gb211, 1, none⟩ (.int .i64 ((rd_T53 l0_1 x53_3).f1))).setCell ⟨gb211, 2, none⟩ (.int .i64 ((rd_T53 l0_1 x53_3).f2))).setCell ⟨gb211, 3, none⟩ (.bool ((rd_T53 l0_1 x53_3).f3))) w.heap.size (fun _ => True) (.map (some mb209)) x7_3) := ⟨by (with_reducible repeat (first | apply Kd.Z_alloc | apply Kd.Z_drewN | apply Kd.Z_drew)); exact Kd.Z_mono (Kd.Z_far (p := ⟨gb211, 3, none⟩) (Kd.Z_far (p := ⟨gb211, 2, none⟩) (Kd.Z_far (p := ⟨gb211, 1, none⟩) (Kd.Z_far (p := ⟨gb211, 0, none⟩) (Kd.Z_types HO_7.out BK211.out (by decide)) (fun _ hk => hk.2) (.int .i64 ((rd_T53 l0_1 x53_3).f0))) (fun _ hk => hk.2) (.int .i64 ((rd_T53 l0_1 x53_3).f1))) (fun _ hk => hk.2) (.int .i64 ((rd_T53 l0_1 x53_3).f2))) (fun _ hk => hk.2) (.bool ((rd_T53 l0_1 x53_3).f3))) (fun _ hk => trivial)⟩
           have n2_ : Aside0 (((((w43.setCell ⟨gb211, 0, none⟩ (.int .i64 ((rd_T53 l0_1 x53_3).f0))).setCell ⟨gb211, 1, none⟩ (.int .i64 ((rd_T53 l0_1 x53_3).f1))).setCell ⟨gb211, 2, none⟩ (.int .i64 ((rd_T53 l0_1 x53_3).f2))).setCell ⟨gb211, 3, none⟩ (.bool ((rd_T53 l0_1 x53_3).f3))).heap[gb192]? = some (.cells #[.slice A0_0 l0_0.length c0_0, .slice (some ad210) l0_1.length c0_1] 42 (0, 0))) := ⟨by (with_reducible repeat (first | refine qd0 ?_ _ | refine qh0 ?_ | refine qe0 ?_ _)); refine qu0 ?_ NB192_211.out _; (with_reducible repeat (first | refine qd0 ?_ _ | refine qh0 ?_ | refine qe0 ?_ _)); refine qu0 ?_ NB192_211.out _; (with_reducible repeat (first | refine qd0 ?_ _ | refine qh0 ?_ | refine qe0 ?_ _)); refine qu0 ?_ NB192_211.out _; (with_reducible repeat (first | refine qd0 ?_ _ | refine qh0 ?_ | refine qe0 ?_ _)); refine qu0 ?_ NB192_211.out _; (with_reducible repeat (first | refine qd0 ?_ _ | refine qh0 ?_ | refine qe0 ?_ _)); exact BK192.out⟩
           have n3_ : Aside0 (((((w43.setCell ⟨gb211, 0, none⟩ (.int .i64 ((rd_T53 l0_1 x53_3).f0))).setCell ⟨gb211, 1, none⟩ (.int .i64 ((rd_T53 l0_1 x53_3).f1))).setCell ⟨gb211, 2, none⟩ (.int .i64 ((rd_T53 l0_1 x53_3).f2))).setCell ⟨gb211, 3, none⟩ (.bool ((rd_T53 l0_1 x53_3).f3))).heap[gb211]? = some (.cells #[.int .i64 ((rd_T53 l0_1 x53_3).f0), .int .i64 ((rd_T53 l0_1 x53_3).f1), .int .i64 ((rd_T53 l0_1 x53_3).f2), .bool ((rd_T53 l0_1 x53_3).f3)] 53 (0, 0))) := ⟨by (with_reducible repeat (first | refine qd0 ?_ _ | refine qh0 ?_ | refine qe0 ?_ _)); refine qx0 (cs := #[.int .i64 ((rd_T53 l0_1 x53_3).f0), .int .i64 ((rd_T53 l0_1 x53_3).f1), .int .i64 ((rd_T53 l0_1 x53_3).f2), .bool false]) ?_ 3 _ rfl; (with_reducible repeat (first | refine qd0 ?_ _ | refine qh0 ?_ | refine qe0 ?_ _)); refine qx0 (cs := #[.int .i64 ((rd_T53 l0_1 x53_3).f0), .int .i64 ((rd_T53 l0_1 x53_3).f1), .int .i64 0, .bool false]) ?_ 2 _ rfl; (with_reducible repeat (first | refine qd0 ?_ _ | refine qh0 ?_ | refine qe0 ?_ _)); refine qx0 (cs := #[.int .i64 ((rd_T53 l0_1 x53_3).f0), .int .i64 0, .int .i64 0, .bool false]) ?_ 1 _ rfl; (with_reducible repeat (first | refine qd0 ?_ _ | refine qh0 ?_ | refine qe0 ?_ _)); refine qx0 (cs := #[.int .i64 0, .int .i64 0, .int .i64 0, .bool false]) ?_ 0 _ rfl; (with_reducible repeat (first | refine qd0 ?_ _ | refine qh0 ?_ | refine qe0 ?_ _)); exact BK211.out⟩
           have n4_ : Aside0 (Below w.heap.size w ((((w43.setCell ⟨gb211, 0, none⟩ (.int .i64 ((rd_T53 l0_1 x53_3).f0))).setCell ⟨gb211, 1, none⟩ (.int .i64 ((rd_T53 l0_1 x53_3).f1))).setCell ⟨gb211, 2, none⟩ (.int .i64 ((rd_T53 l0_1 x53_3).f2))).setCell ⟨gb211, 3, none⟩ (.bool ((rd_T53 l0_1 x53_3).f3)))) := ⟨by repeat (first | (with_reducible first | exact HB.out | apply qc0 | apply qa0 | apply qb0 | refine qf0 ?_ GE192.out | refine qf0 ?_ GE211.out) | exact HB.out)⟩
           (try clear HO_6)
           (try clear HO_7)
           (try clear BK192)
           (try clear BK211)
           (try clear HB)
           generalize ((((w43.setCell ⟨gb211, 0, none⟩ (.int .i64 ((rd_T53 l0_1 x53_3).f0))).setCell ⟨gb211, 1, none⟩ (.int .i64 ((rd_T53 l0_1 x53_3).f1))).setCell ⟨gb211, 2, none⟩ (.int .i64 ((rd_T53 l0_1 x53_3).f2))).setCell ⟨gb211, 3, none⟩ (.bool ((rd_T53 l0_1 x53_3).f3))) = w65 at n0_ n1_ n2_ n3_ n4_ ⊢
           have HO_6 := n0_
           have HO_7 := n1_
           have BK192 := n2_
           have BK211 := n3_
           have HB := n4_
           clear n0_ n1_ n2_ n3_ n4_
           have n0_ := Aside0.mk (Kd.Z_drew HO_6.out)
           have n1_ := Aside0.mk (Kd.Z_drew HO_7.out)
           have n2_ := Aside0.mk (qh0 BK192.out)
           have n3_ := Aside0.mk (qh0 BK211.out)
           have n4_ := Aside0.mk (qb0 HB.out)
           clear HO_6
           clear HO_7
           clear BK192
           clear BK211
           clear HB
           have HO_6 := n0_
           have HO_7 := n1_
           have BK192 := n2_
           have BK211 := n3_
           have HB := n4_
           clear n0_ n1_ n2_ n3_ n4_
           have p213 : 0 ≤ (((rd_T53 l0_1 x53_3).f0) : Int) := of_decide_eq_true (by first | (with_reducible assumption) | assumption)
           have q213 : ((rd_T53 l0_1 x53_3).f0) < (l0_0.length : Int) := of_decide_eq_true (by first | (with_reducible assumption) | assumption)
           obtain ⟨ad213, e213, hx213_0, hx213_1⟩ := at_T122 HR0_0.out ((rd_T53 l0_1 x53_3).f0) p213 q213
           have hw213_1 := hx213_1
           have hw213_0 := hx213_0
           cases e213
           replace hx213_0 := (HB.out.cell (World.block_lt_of_cell? w _ hx213_0)).trans hx213_0
           replace hx213_1 := (HB.out.cell (World.block_lt_of_cell? w _ hx213_1)).trans hx213_1
           replace p213 := eq_true p213
           replace q213 := eq_true q213
           refine qo1 (n := 49) (S := fun w' => w'.cell? ⟨gb211, 0, none⟩ = some (.int .i64 ((rd_T53 l0_1 x53_3).f0)) ∧ w'.cell? ⟨gb211, 1, none⟩ = some (.int .i64 ((rd_T53 l0_1 x53_3).f1)) ∧ w'.cell? ⟨gb211, 2, none⟩ = some (.int .i64 ((rd_T53 l0_1 x53_3).f2)) ∧ w'.cell? ⟨gb211, 3, none⟩ = some (.bool ((rd_T53 l0_1 x53_3).f3)) ∧ w'.cell? ⟨gb192, 0, none⟩ = some (.slice (some ad213) l0_0.length c0_0) ∧ w'.cell? ⟨gb192, 1, none⟩ = some (.slice (some ad210) l0_1.length c0_1) ∧ w'.cell? (ad213.add ((((rd_T53 l0_1 x53_3).f0)).toNat * 2)) = some (.string ((rd_T122 l0_0 ((rd_T53 l0_1 x53_3).f0)).f0)) ∧ w'.cell? ⟨(ad213.add ((((rd_T53 l0_1 x53_3).f0)).toNat * 2)).block, (ad213.add ((((rd_T53 l0_1 x53_3).f0)).toNat * 2)).off + 1, none⟩ = some (.int .i64 ((rd_T122 l0_0 ((rd_T53 l0_1 x53_3).f0)).f1))) (ds := []) (rb8 [0, 49]) (by kernel_rfl) rfl rfl ⟨(qg0 BK211.out 0).trans rfl, (qg0 BK211.out 1).trans rfl, (qg0 BK211.out 2).trans rfl, (qg0 BK211.out 3).trans rfl, (qg0 BK192.out 0).trans rfl, (qg0 BK192.out 1).trans rfl, ((HB.out.cell (World.block_lt_of_cell? w _ hw213_0)).trans hw213_0), ((HB.out.cell (World.block_lt_of_cell? w _ hw213_1)).trans hw213_1)⟩ (fun hHeld => ?_); refine qf1 impl_RegisterOk.tab16 impl_RegisterOk.bits16 (fun HT_ HW_ => ?_)
           generalize w65.drew = w66 at HO_6 HO_7 BK192 BK211 HB hx213_0 hx213_1 hHeld ⊢
           refine pure_ (i := 0) (N := some 57) (v := ?_) (a' := ?_) (rb8 [1, 48]) rfl rfl (qj0 HT_.out (by kernel_rfl)) (fun _ _ _ h => h) (Or.inl ⟨by rfl, ?_⟩) ?_ ?_
           rotate_left
           ·intro w'
            go_simp
            with_reducible rfl
           rotate_left
           ·simp only [Act.put, List.setIfInBounds_toArray, List.set_cons_zero, List.set_cons_succ, i64_w, i32_w]
            rfl
           refine take_ (i := 1) (N := some 58) (v := ?_) (a' := ?_) (rb8 [2, 47]) rfl rfl (qo0 HT_.out HW_.out (by kernel_rfl)) (fun _ _ _ h => h) (Or.inl ⟨by rfl, ?_⟩) hHeld ?_ ?_
           rotate_left
           ·rintro w' ⟨s0, s1, s2, s3, s4, s5, s6, s7⟩
            go_simp
            with_reducible rfl
           rotate_left
           ·simp only [Act.put, List.setIfInBounds_toArray, List.set_cons_zero, List.set_cons_succ, i64_w, i32_w]
            rfl
           refine pure_ (i := 2) (N := some 59) (v := ?_) (a' := ?_) (rb8 [3, 46]) rfl rfl (qj0 HT_.out (by kernel_rfl)) (fun _ _ _ h => h) (Or.inl ⟨by rfl, ?_⟩) ?_ ?_
           rotate_left
           ·intro w'
            go_simp
            with_reducible rfl
           rotate_left
           ·simp only [Act.put, List.setIfInBounds_toArray, List.set_cons_zero, List.set_cons_succ, i64_w, i32_w]
            rfl
           refine pure_ (i := 3) (N := some 60) (v := ?_) (a' := ?_) (rb8 [4, 45]) rfl rfl (qj0 HT_.out (by kernel_rfl)) (fun _ _ _ h => h) (Or.inl ⟨by rfl, ?_⟩) ?_ ?_
           rotate_left
           ·intro w'
            go_simp
            with_reducible rfl
           rotate_left
           ·simp only [Act.put, List.setIfInBounds_toArray, List.set_cons_zero, List.set_cons_succ, i64_w, i32_w]
            rfl
           refine pure_ (i := 4) (N := some 61) (v := ?_) (a' := ?_) (rb8 [5, 44]) rfl rfl (qj0 HT_.out (by kernel_rfl)) (fun _ _ _ h => h) (Or.inl ⟨by rfl, ?_⟩) ?_ ?_
           rotate_left
           ·intro w'
            go_simp
            with_reducible rfl
           rotate_left
           ·simp only [Act.put, List.setIfInBounds_toArray, List.set_cons_zero, List.set_cons_succ, i64_w, i32_w]
            rfl
           refine pure_ (i := 6) (N := some 63) (v := ?_) (a' := ?_) (rb8 [5, 1, 1, 42]) rfl rfl (qj0 HT_.out (by kernel_rfl)) (fun _ _ _ h => h) (Or.inl ⟨by rfl, ?_⟩) ?_ ?_
           rotate_left
           ·intro w'
            go_simp
            with_reducible rfl
           rotate_left
           ·simp only [Act.put, List.setIfInBounds_toArray, List.set_cons_zero, List.set_cons_succ, i64_w, i32_w]
            rfl
           refine take_ (i := 5) (N := some 62) (v := ?_) (a' := ?_) (rb8 [7, 42]) rfl rfl (qo0 HT_.out HW_.out (by kernel_rfl)) (fun _ _ _ h => h) (Or.inl ⟨by rfl, ?_⟩) hHeld ?_ ?_
           rotate_left
           ·rintro w' ⟨s0, s1, s2, s3, s4, s5, s6, s7⟩
            go_simp
            with_reducible rfl
           rotate_left
           ·simp only [Act.put, List.setIfInBounds_toArray, List.set_cons_zero, List.set_cons_succ, i64_w, i32_w]
            rfl
           refine take_ (i := 7) (N := some 64) (v := ?_) (a' := ?_) (rb8 [8, 41]) rfl rfl (qo0 HT_.out HW_.out (by kernel_rfl)) (fun _ _ _ h => h) (Or.inl ⟨by rfl, ?_⟩) hHeld ?_ ?_
           rotate_left
           ·rintro w' ⟨s0, s1, s2, s3, s4, s5, s6, s7⟩
            go_simp
            with_reducible rfl
           rotate_left
           ·simp only [Act.put, List.setIfInBounds_toArray, List.set_cons_zero, List.set_cons_succ, i64_w, i32_w]
            rfl
           refine pure_ (i := 8) (N := some 65) (v := ?_) (a' := ?_) (rb8 [9, 40]) rfl rfl (qj0 HT_.out (by kernel_rfl)) (fun _ _ _ h => h) (Or.inl ⟨by rfl, ?_⟩) ?_ ?_
           rotate_left
           ·intro w'
            go_simp
            with_reducible rfl
           rotate_left
           ·simp only [Act.put, List.setIfInBounds_toArray, List.set_cons_zero, List.set_cons_succ, i64_w, i32_w]
            rfl
           refine pure_ (i := 9) (N := some 66) (v := ?_) (a' := ?_) (rb8 [10, 39]) rfl rfl (qj0 HT_.out (by kernel_rfl)) (fun _ _ _ h => h) (Or.inl ⟨by rfl, ?_⟩) ?_ ?_
           rotate_left
           ·intro w'
            go_simp
            with_reducible rfl
           rotate_left
           ·simp only [Act.put, List.setIfInBounds_toArray, List.set_cons_zero, List.set_cons_succ, i64_w, i32_w]
            rfl
           refine pure_ (i := 10) (N := some 67) (v := ?_) (a' := ?_) (rb8 [11, 38]) rfl rfl (qj0 HT_.out (by kernel_rfl)) (fun _ _ _ h => h) (Or.inl ⟨by rfl, ?_⟩) ?_ ?_
           rotate_left
           ·intro w'
            go_simp
            with_reducible rfl
           rotate_left
           ·simp only [Act.put, List.setIfInBounds_toArray, List.set_cons_zero, List.set_cons_succ, i64_w, i32_w]
            rfl
           refine pure_ (i := 11) (N := some 68) (v := ?_) (a' := ?_) (rb8 [12, 37]) rfl rfl (qj0 HT_.out (by kernel_rfl)) (fun _ _ _ h => h) (Or.inl ⟨by rfl, ?_⟩) ?_ ?_
           rotate_left
           ·intro w'
            go_simp
            with_reducible rfl
           rotate_left
           ·simp only [Act.put, List.setIfInBounds_toArray, List.set_cons_zero, List.set_cons_succ, i64_w, i32_w]
            rfl
           refine pure_ (i := 12) (N := some 69) (v := ?_) (a' := ?_) (rb8 [13, 36]) rfl rfl (qj0 HT_.out (by kernel_rfl)) (fun _ _ _ h => h) (Or.inl ⟨by rfl, ?_⟩) ?_ ?_
           rotate_left
           ·intro w'
            go_simp
            with_reducible rfl
           rotate_left
           ·simp only [Act.put, List.setIfInBounds_toArray, List.set_cons_zero, List.set_cons_succ, i64_w, i32_w]
            rfl
           refine pure_ (i := 14) (N := some 71) (v := ?_) (a' := ?_) (rb8 [13, 1, 1, 34]) rfl rfl (qj0 HT_.out (by kernel_rfl)) (fun _ _ _ h => h) (Or.inl ⟨by rfl, ?_⟩) ?_ ?_
           rotate_left
           ·intro w'
            go_simp
            with_reducible rfl
           rotate_left
           ·simp only [Act.put, List.setIfInBounds_toArray, List.set_cons_zero, List.set_cons_succ, i64_w, i32_w]
            rfl
           refine pure_ (i := 15) (N := some 72) (v := ?_) (a' := ?_) (rb8 [13, 1, 2, 33]) rfl rfl (qj0 HT_.out (by kernel_rfl)) (fun _ _ _ h => h) (Or.inl ⟨by rfl, ?_⟩) ?_ ?_
           rotate_left
           ·intro w'
            go_simp
            with_reducible rfl
           rotate_left
           ·simp only [Act.put, List.setIfInBounds_toArray, List.set_cons_zero, List.set_cons_succ, i64_w, i32_w]
            rfl
           refine take_ (i := 13) (N := some 70) (v := ?_) (a' := ?_) (rb8 [16, 33]) rfl rfl (qo0 HT_.out HW_.out (by kernel_rfl)) (fun _ _ _ h => h) (Or.inl ⟨by rfl, ?_⟩) hHeld ?_ ?_
           rotate_left
           ·rintro w' ⟨s0, s1, s2, s3, s4, s5, s6, s7⟩
            go_simp
            with_reducible rfl
           rotate_left
           ·simp only [Act.put, List.setIfInBounds_toArray, List.set_cons_zero, List.set_cons_succ, i64_w, i32_w]
            rfl
           refine take_ (i := 16) (N := some 73) (v := ?_) (a' := ?_) (rb8 [17, 32]) rfl rfl (qo0 HT_.out HW_.out (by kernel_rfl)) (fun _ _ _ h => h) (Or.inl ⟨by rfl, ?_⟩) hHeld ?_ ?_
           rotate_left
           ·rintro w' ⟨s0, s1, s2, s3, s4, s5, s6, s7⟩
            go_simp
            with_reducible rfl
           rotate_left
           ·simp only [Act.put, List.setIfInBounds_toArray, List.set_cons_zero, List.set_cons_succ, i64_w, i32_w]
            rfl
           refine one_ (i := 17) (N := some 74) (rb8 [18, 31]) rfl rfl (qn1 HT_.out (by kernel_rfl)) (by decide) (fun K hK => ?_)
           (have hcv67 := Kd.Z_run (d := kz128) (k := ((rd_T53 l0_1 x53_3).f0)) kz128_K kz128_inj kz128_t 0 kz128_z HO_6.out (kz128_key ((rd_T53 l0_1 x53_3).f0) LMc52.out LMc53.out) false; simp only [kz128, ↓reduceIte, Bool.false_eq_true] at hcv67)
           (have hcvd := fun (n_ : Nat) => Kd.Z_run (d := kz128) (k := ((rd_T53 l0_1 x53_3).f0)) kz128_K kz128_inj kz128_t 0 kz128_z (Kd.Z_drewN HO_6.out n_) (kz128_key ((rd_T53 l0_1 x53_3).f0) LMc52.out LMc53.out) false; simp only [kz128, ↓reduceIte, Bool.false_eq_true] at hcvd)
           refine value_ (w1 := ?_) (v := ?_) (by rfl) rfl ?_ ?_
           rotate_left 2
           ·go_simp
            constructor
            ·rfl
            ·rfl
           clear hcvd
           clear hcv67
           refine hK.out _ _ ⟨(qg0 BK211.out 0).trans rfl, (qg0 BK211.out 1).trans rfl, (qg0 BK211.out 2).trans rfl, (qg0 BK211.out 3).trans rfl, (qg0 BK192.out 0).trans rfl, (qg0 BK192.out 1).trans rfl, ((HB.out.cell (World.block_lt_of_cell? w _ hw213_0)).trans hw213_0), ((HB.out.cell (World.block_lt_of_cell? w _ hw213_1)).trans hw213_1)⟩ (fun hHeld => ?_)
           clear hK K
           refine norm_ (a' := ?_) ?_ ?_
           rotate_left
           ·show Act.put _ (some 74) _ = _
            simp only [Act.put, List.setIfInBounds_toArray, List.set_cons_zero, List.set_cons_succ, i64_w, i32_w]
            rfl
           refine pure_ (i := 18) (N := some 75) (v := ?_) (a' := ?_) (rb8 [19, 30]) rfl rfl (qj0 HT_.out (by kernel_rfl)) (fun _ _ _ h => h) (Or.inl ⟨by rfl, ?_⟩) ?_ ?_
           rotate_left
           ·intro w'
            go_simp
            with_reducible rfl
           rotate_left
           ·simp only [Act.put, List.setIfInBounds_toArray, List.set_cons_zero, List.set_cons_succ, i64_w, i32_w]
            rfl
           refine pure_ (i := 19) (N := some 76) (v := ?_) (a' := ?_) (rb8 [20, 29]) rfl rfl (qj0 HT_.out (by kernel_rfl)) (fun _ _ _ h => h) (Or.inl ⟨by rfl, ?_⟩) ?_ ?_
           rotate_left
           ·intro w'
            go_simp
            with_reducible rfl
           rotate_left
           ·simp only [Act.put, List.setIfInBounds_toArray, List.set_cons_zero, List.set_cons_succ, i64_w, i32_w]
            rfl
           refine pure_ (i := 20) (N := some 77) (v := ?_) (a' := ?_) (rb8 [21, 28]) rfl rfl (qj0 HT_.out (by kernel_rfl)) (fun _ _ _ h => h) (Or.inl ⟨by rfl, ?_⟩) ?_ ?_
           rotate_left
           ·intro w'
            go_simp
            with_reducible rfl
           rotate_left
           ·simp only [Act.put, List.setIfInBounds_toArray, List.set_cons_zero, List.set_cons_succ, i64_w, i32_w]
            rfl
           refine pure_ (i := 21) (N := some 78) (v := ?_) (a' := ?_) (rb8 [22, 27]) rfl rfl (qj0 HT_.out (by kernel_rfl)) (fun _ _ _ h => h) (Or.inl ⟨by rfl, ?_⟩) ?_ ?_
           rotate_left
           ·intro w'
            go_simp
            with_reducible rfl
           rotate_left
           ·simp only [Act.put, List.setIfInBounds_toArray, List.set_cons_zero, List.set_cons_succ, i64_w, i32_w]
            rfl
           refine pure_ (i := 22) (N := some 79) (v := ?_) (a' := ?_) (rb8 [23, 26]) rfl rfl (qj0 HT_.out (by kernel_rfl)) (fun _ _ _ h => h) (Or.inl ⟨by rfl, ?_⟩) ?_ ?_
           rotate_left
           ·intro w'
            go_simp
            with_reducible rfl
           rotate_left
           ·simp only [Act.put, List.setIfInBounds_toArray, List.set_cons_zero, List.set_cons_succ, i64_w, i32_w]
            rfl
           refine pure_ (i := 25) (N := some 82) (v := ?_) (a' := ?_) (rb8 [23, 2, 1, 23]) rfl rfl (qj0 HT_.out (by kernel_rfl)) (fun _ _ _ h => h) (Or.inl ⟨by rfl, ?_⟩) ?_ ?_
           rotate_left
           ·intro w'
            go_simp
            with_reducible rfl
           rotate_left
           ·simp only [Act.put, List.setIfInBounds_toArray, List.set_cons_zero, List.set_cons_succ, i64_w, i32_w]
            rfl
           refine pure_ (i := 27) (N := some 84) (v := ?_) (a' := ?_) (rb8 [23, 2, 1, 1, 1, 21]) rfl rfl (qj0 HT_.out (by kernel_rfl)) (fun _ _ _ h => h) (Or.inl ⟨by rfl, ?_⟩) ?_ ?_
           rotate_left
           ·intro w'
            go_simp
            with_reducible rfl
           rotate_left
           ·simp only [Act.put, List.setIfInBounds_toArray, List.set_cons_zero, List.set_cons_succ, i64_w, i32_w]
            rfl
           refine take_ (i := 23) (N := some 80) (v := ?_) (a' := ?_) (rb8 [24, 1, 1, 1, 1, 21]) rfl rfl (qo0 HT_.out HW_.out (by kernel_rfl)) (fun _ _ _ h => h) (Or.inl ⟨by rfl, ?_⟩) hHeld ?_ ?_
           rotate_left
           ·rintro w' ⟨s0, s1, s2, s3, s4, s5, s6, s7⟩
            go_simp
            with_reducible rfl
           rotate_left
           ·simp only [Act.put, List.setIfInBounds_toArray, List.set_cons_zero, List.set_cons_succ, i64_w, i32_w]
            rfl
           refine take_ (i := 26) (N := some 83) (v := ?_) (a' := ?_) (rb8 [24, 1, 3, 21]) rfl rfl (qo0 HT_.out HW_.out (by kernel_rfl)) (fun _ _ _ h => h) (Or.inl ⟨by rfl, ?_⟩) hHeld ?_ ?_
           rotate_left
           ·rintro w' ⟨s0, s1, s2, s3, s4, s5, s6, s7⟩
            go_simp
            with_reducible rfl
           rotate_left
           ·simp only [Act.put, List.setIfInBounds_toArray, List.set_cons_zero, List.set_cons_succ, i64_w, i32_w]
            rfl
           refine take_ (i := 28) (N := some 85) (v := ?_) (a' := ?_) (rb8 [24, 1, 4, 20]) rfl rfl (qo0 HT_.out HW_.out (by kernel_rfl)) (fun _ _ _ h => h) (Or.inl ⟨by rfl, ?_⟩) hHeld ?_ ?_
           rotate_left
           ·rintro w' ⟨s0, s1, s2, s3, s4, s5, s6, s7⟩
            go_simp
            with_reducible rfl
           rotate_left
           ·simp only [Act.put, List.setIfInBounds_toArray, List.set_cons_zero, List.set_cons_succ, i64_w, i32_w]
            rfl
           refine pure_ (i := 29) (N := some 86) (v := ?_) (a' := ?_) (rb8 [24, 1, 5, 19]) rfl rfl (qj0 HT_.out (by kernel_rfl)) (fun _ _ _ h => h) (Or.inl ⟨by rfl, ?_⟩) ?_ ?_
           rotate_left
           ·intro w'
            go_simp
            with_reducible rfl
           rotate_left
           ·simp only [Act.put, List.setIfInBounds_toArray, List.set_cons_zero, List.set_cons_succ, i64_w, i32_w]
            rfl
           refine pure_ (i := 30) (N := some 87) (v := ?_) (a' := ?_) (rb8 [24, 1, 6, 18]) rfl rfl (qj0 HT_.out (by kernel_rfl)) (fun _ _ _ h => h) (Or.inl ⟨by rfl, ?_⟩) ?_ ?_
           rotate_left
           ·intro w'
            go_simp
            with_reducible rfl
           rotate_left
           ·simp only [Act.put, List.setIfInBounds_toArray, List.set_cons_zero, List.set_cons_succ, i64_w, i32_w]
            rfl
           refine take_ (i := 31) (N := some 88) (v := ?_) (a' := ?_) (rb8 [24, 1, 7, 17]) rfl rfl (qo0 HT_.out HW_.out (by kernel_rfl)) (fun _ _ _ h => h) (Or.inl ⟨by rfl, ?_⟩) hHeld ?_ ?_
           rotate_left
           ·rintro w' ⟨s0, s1, s2, s3, s4, s5, s6, s7⟩
            go_simp
            with_reducible rfl
           rotate_left
           ·simp only [Act.put, List.setIfInBounds_toArray, List.set_cons_zero, List.set_cons_succ, i64_w, i32_w]
            rfl
           refine one_ (i := 24) (N := some 81) (rb8 [32, 17]) rfl rfl (qn1 HT_.out (by kernel_rfl)) (by decide) (fun K hK => ?_)
           refine goes_ Try.func87 (by kernel_rfl) rfl #[.int .i64 ((rd_T53 l0_1 x53_3).f1)] (by rfl) rfl rfl (by (try simp only [List.map_toArray, List.map_cons, List.map_nil]); first | done | rfl | (simp only [List.length_drop, List.length_take]; rfl)) ?_
           with_reducible refine (impl_digitsIn.calls k3 ((rd_T53 l0_1 x53_3).f1) t212 _ A55.out).mono ?_
           rintro e w68 ⟨rfl, hb⟩
           refine ⟨_, rfl, ?_⟩
           have n0_ := Aside0.mk (Kd.Z_below (by (with_reducible repeat (first | apply Kd.Z_alloc | apply Kd.Z_drewN | apply Kd.Z_drew)); exact HO_6.out) hb)
           have n1_ := Aside0.mk (Kd.Z_below (by (with_reducible repeat (first | apply Kd.Z_alloc | apply Kd.Z_drewN | apply Kd.Z_drew)); exact HO_7.out) hb)
           have n2_ := Aside0.mk (qm0 (g := gb192) (o := .cells #[.slice (some ad213) l0_0.length c0_0, .slice (some ad210) l0_1.length c0_1] 42 (0, 0)) (by (with_reducible repeat (first | refine qd0 ?_ _ | refine qh0 ?_ | refine qe0 ?_ _)); exact BK192.out) hb)
           have n3_ := Aside0.mk (qm0 (g := gb211) (o := .cells #[.int .i64 ((rd_T53 l0_1 x53_3).f0), .int .i64 ((rd_T53 l0_1 x53_3).f1), .int .i64 ((rd_T53 l0_1 x53_3).f2), .bool ((rd_T53 l0_1 x53_3).f3)] 53 (0, 0)) (by (with_reducible repeat (first | refine qd0 ?_ _ | refine qh0 ?_ | refine qe0 ?_ _)); exact BK211.out) hb)
           have n4_ := Aside0.mk (ql0 (by repeat (first | (with_reducible first | exact HB.out | apply qc0 | apply qa0 | apply qb0 | refine qf0 ?_ GE192.out | refine qf0 ?_ GE211.out) | exact HB.out)) hb)
           clear HO_6
           clear HO_7
           clear BK192
           clear BK211
           clear HB
           have HO_6 := n0_
           have HO_7 := n1_
           have BK192 := n2_
           have BK211 := n3_
           have HB := n4_
           clear n0_ n1_ n2_ n3_ n4_
           (try clear hb)
           (try clear hb2)
           (try clear hk)
           (try clear hi)
           refine hK.out _ _ ⟨(qg0 BK211.out 0).trans rfl, (qg0 BK211.out 1).trans rfl, (qg0 BK211.out 2).trans rfl, (qg0 BK211.out 3).trans rfl, (qg0 BK192.out 0).trans rfl, (qg0 BK192.out 1).trans rfl, ((HB.out.cell (World.block_lt_of_cell? w _ hw213_0)).trans hw213_0), ((HB.out.cell (World.block_lt_of_cell? w _ hw213_1)).trans hw213_1)⟩ (fun hHeld => ?_)
           clear hK K
           refine norm_ (a' := ?_) ?_ ?_
           rotate_left
           ·show Act.put _ (some 81) _ = _
            simp only [Act.put, List.setIfInBounds_toArray, List.set_cons_zero, List.set_cons_succ, i64_w, i32_w]
            rfl
           refine pure_ (i := 32) (N := some 89) (v := ?_) (a' := ?_) (rb8 [33, 16]) rfl rfl (qj0 HT_.out (by kernel_rfl)) (fun _ _ _ h => h) (Or.inl ⟨by rfl, ?_⟩) ?_ ?_
           rotate_left
           ·intro w'
            go_simp
            with_reducible rfl
           rotate_left
           ·simp only [Act.put, List.setIfInBounds_toArray, List.set_cons_zero, List.set_cons_succ, i64_w, i32_w]
            rfl
           refine pure_ (i := 33) (N := some 90) (v := ?_) (a' := ?_) (rb8 [34, 15]) rfl rfl (qj0 HT_.out (by kernel_rfl)) (fun _ _ _ h => h) (Or.inl ⟨by rfl, ?_⟩) ?_ ?_
           rotate_left
           ·intro w'
            go_simp
            with_reducible rfl
           rotate_left
           ·simp only [Act.put, List.setIfInBounds_toArray, List.set_cons_zero, List.set_cons_succ, i64_w, i32_w]
            rfl
           refine pure_ (i := 34) (N := some 91) (v := ?_) (a' := ?_) (rb8 [35, 14]) rfl rfl (qj0 HT_.out (by kernel_rfl)) (fun _ _ _ h => h) (Or.inl ⟨by rfl, ?_⟩) ?_ ?_
           rotate_left
           ·intro w'
            go_simp
            with_reducible rfl
           rotate_left
           ·simp only [Act.put, List.setIfInBounds_toArray, List.set_cons_zero, List.set_cons_succ, i64_w, i32_w]
            rfl
           refine pure_ (i := 35) (N := some 92) (v := ?_) (a' := ?_) (rb8 [36, 13]) rfl rfl (qj0 HT_.out (by kernel_rfl)) (fun _ _ _ h => h) (Or.inl ⟨by rfl, ?_⟩) ?_ ?_
           rotate_left
           ·intro w'
            go_simp
            with_reducible rfl
           rotate_left
           ·simp only [Act.put, List.setIfInBounds_toArray, List.set_cons_zero, List.set_cons_succ, i64_w, i32_w]
            rfl
           refine take_ (i := 36) (N := some 93) (v := ?_) (a' := ?_) (rb8 [37, 12]) rfl rfl (qo0 HT_.out HW_.out (by kernel_rfl)) (fun _ _ _ h => h) (Or.inl ⟨by rfl, ?_⟩) hHeld ?_ ?_
           rotate_left
           ·rintro w' ⟨s0, s1, s2, s3, s4, s5, s6, s7⟩
            go_simp
            with_reducible rfl
           rotate_left
           ·simp only [Act.put, List.setIfInBounds_toArray, List.set_cons_zero, List.set_cons_succ, i64_w, i32_w]
            rfl
           refine one_ (i := 37) (N := some 94) (rb8 [38, 11]) rfl rfl (qn1 HT_.out (by kernel_rfl)) (by decide) (fun K hK => ?_)
           refine goes_ Try.func88 (by kernel_rfl) rfl #[.int .i64 ((rd_T53 l0_1 x53_3).f2)] (by rfl) rfl rfl (by (try simp only [List.map_toArray, List.map_cons, List.map_nil]); first | done | rfl | (simp only [List.length_drop, List.length_take]; rfl)) ?_
           with_reducible refine (impl_isDay.calls ((rd_T53 l0_1 x53_3).f2) true _ A63.out).mono ?_
           rintro e w' ⟨rfl, ⟨nd, rfl⟩⟩
           refine ⟨_, rfl, ?_⟩
           refine hK.out _ _ ⟨(qg0 BK211.out 0).trans rfl, (qg0 BK211.out 1).trans rfl, (qg0 BK211.out 2).trans rfl, (qg0 BK211.out 3).trans rfl, (qg0 BK192.out 0).trans rfl, (qg0 BK192.out 1).trans rfl, ((HB.out.cell (World.block_lt_of_cell? w _ hw213_0)).trans hw213_0), ((HB.out.cell (World.block_lt_of_cell? w _ hw213_1)).trans hw213_1)⟩ (fun hHeld => ?_)
           clear hK K
           refine norm_ (a' := ?_) ?_ ?_
           rotate_left
           ·show Act.put _ (some 94) _ = _
            simp only [Act.put, List.setIfInBounds_toArray, List.set_cons_zero, List.set_cons_succ, i64_w, i32_w]
            rfl
           refine pure_ (i := 38) (N := some 95) (v := ?_) (a' := ?_) (rb8 [39, 10]) rfl rfl (qj0 HT_.out (by kernel_rfl)) (fun _ _ _ h => h) (Or.inl ⟨by rfl, ?_⟩) ?_ ?_
           rotate_left
           ·intro w'
            go_simp
            with_reducible rfl
           rotate_left
           ·simp only [Act.put, List.setIfInBounds_toArray, List.set_cons_zero, List.set_cons_succ, i64_w, i32_w]
            rfl
           refine pure_ (i := 39) (N := some 96) (v := ?_) (a' := ?_) (rb8 [40, 9]) rfl rfl (qj0 HT_.out (by kernel_rfl)) (fun _ _ _ h => h) (Or.inl ⟨by rfl, ?_⟩) ?_ ?_
           rotate_left
           ·intro w'
            go_simp
            with_reducible rfl
           rotate_left
           ·simp only [Act.put, List.setIfInBounds_toArray, List.set_cons_zero, List.set_cons_succ, i64_w, i32_w]
            rfl
           refine pure_ (i := 40) (N := some 97) (v := ?_) (a' := ?_) (rb8 [41, 8]) rfl rfl (qj0 HT_.out (by kernel_rfl)) (fun _ _ _ h => h) (Or.inl ⟨by rfl, ?_⟩) ?_ ?_
           rotate_left
           ·intro w'
            go_simp
            with_reducible rfl
           rotate_left
           ·simp only [Act.put, List.setIfInBounds_toArray, List.set_cons_zero, List.set_cons_succ, i64_w, i32_w]
            rfl
           refine pure_ (i := 41) (N := some 98) (v := ?_) (a' := ?_) (rb8 [42, 7]) rfl rfl (qj0 HT_.out (by kernel_rfl)) (fun _ _ _ h => h) (Or.inl ⟨by rfl, ?_⟩) ?_ ?_
           rotate_left
           ·intro w'
            go_simp
            with_reducible rfl
           rotate_left
           ·simp only [Act.put, List.setIfInBounds_toArray, List.set_cons_zero, List.set_cons_succ, i64_w, i32_w]
            rfl
           refine pure_ (i := 43) (N := some 100) (v := ?_) (a' := ?_) (rb8 [42, 1, 1, 5]) rfl rfl (qj0 HT_.out (by kernel_rfl)) (fun _ _ _ h => h) (Or.inl ⟨by rfl, ?_⟩) ?_ ?_
           rotate_left
           ·intro w'
            go_simp
            with_reducible rfl
           rotate_left
           ·simp only [Act.put, List.setIfInBounds_toArray, List.set_cons_zero, List.set_cons_succ, i64_w, i32_w]
            rfl
           refine pure_ (i := 44) (N := some 101) (v := ?_) (a' := ?_) (rb8 [42, 1, 2, 4]) rfl rfl (qj0 HT_.out (by kernel_rfl)) (fun _ _ _ h => h) (Or.inl ⟨by rfl, ?_⟩) ?_ ?_
           rotate_left
           ·intro w'
            go_simp
            with_reducible rfl
           rotate_left
           ·simp only [Act.put, List.setIfInBounds_toArray, List.set_cons_zero, List.set_cons_succ, i64_w, i32_w]
            rfl
           refine take_ (i := 42) (N := some 99) (v := ?_) (a' := ?_) (rb8 [45, 4]) rfl rfl (qo0 HT_.out HW_.out (by kernel_rfl)) (fun _ _ _ h => h) (Or.inl ⟨by rfl, ?_⟩) hHeld ?_ ?_
           rotate_left
           ·rintro w' ⟨s0, s1, s2, s3, s4, s5, s6, s7⟩
            go_simp
            with_reducible rfl
           rotate_left
           ·simp only [Act.put, List.setIfInBounds_toArray, List.set_cons_zero, List.set_cons_succ, i64_w, i32_w]
            rfl
           refine take_ (i := 45) (N := some 102) (v := ?_) (a' := ?_) (rb8 [46, 3]) rfl rfl (qo0 HT_.out HW_.out (by kernel_rfl)) (fun _ _ _ h => h) (Or.inl ⟨by rfl, ?_⟩) hHeld ?_ ?_
           rotate_left
           ·rintro w' ⟨s0, s1, s2, s3, s4, s5, s6, s7⟩
            go_simp
            with_reducible rfl
           rotate_left
           ·simp only [Act.put, List.setIfInBounds_toArray, List.set_cons_zero, List.set_cons_succ, i64_w, i32_w]
            rfl
           refine one_ (i := 46) (N := some 103) (rb8 [47, 2]) rfl rfl (qn1 HT_.out (by kernel_rfl)) (by decide) (fun K hK => ?_)
           (have hcv69 := Kd.Z_run (d := kz128) (k := ((rd_T53 l0_1 x53_3).f0)) kz128_K kz128_inj kz128_t 0 kz128_z HO_7.out (kz128_key ((rd_T53 l0_1 x53_3).f0) LMc52.out LMc53.out) false; simp only [kz128, ↓reduceIte, Bool.false_eq_true] at hcv69)
           (have hcvd := fun (n_ : Nat) => Kd.Z_run (d := kz128) (k := ((rd_T53 l0_1 x53_3).f0)) kz128_K kz128_inj kz128_t 0 kz128_z (Kd.Z_drewN HO_7.out n_) (kz128_key ((rd_T53 l0_1 x53_3).f0) LMc52.out LMc53.out) false; simp only [kz128, ↓reduceIte, Bool.false_eq_true] at hcvd)
           refine value_ (w1 := ?_) (v := ?_) (by rfl) rfl ?_ ?_
           rotate_left 2
           ·go_simp
            constructor
            ·rfl
            ·rfl
           clear hcvd
           clear hcv69
           refine hK.out _ _ ⟨(qg0 BK211.out 0).trans rfl, (qg0 BK211.out 1).trans rfl, (qg0 BK211.out 2).trans rfl, (qg0 BK211.out 3).trans rfl, (qg0 BK192.out 0).trans rfl, (qg0 BK192.out 1).trans rfl, ((HB.out.cell (World.block_lt_of_cell? w _ hw213_0)).trans hw213_0), ((HB.out.cell (World.block_lt_of_cell? w _ hw213_1)).trans hw213_1)⟩ (fun hHeld => ?_)
           clear hK K
           refine norm_ (a' := ?_) ?_ ?_
           rotate_left
           ·show Act.put _ (some 103) _ = _
            simp only [Act.put, List.setIfInBounds_toArray, List.set_cons_zero, List.set_cons_succ, i64_w, i32_w]
            rfl
           refine pure_ (i := 47) (N := some 104) (v := ?_) (a' := ?_) (rb8 [48, 1]) rfl rfl (qj0 HT_.out (by kernel_rfl)) (fun _ _ _ h => h) (Or.inl ⟨by rfl, ?_⟩) ?_ ?_
           rotate_left
           ·intro w'
            go_simp
            with_reducible rfl
           rotate_left
           ·simp only [Act.put, List.setIfInBounds_toArray, List.set_cons_zero, List.set_cons_succ, i64_w, i32_w]
            rfl
           refine pure_ (i := 48) (N := some 105) (v := ?_) (a' := ?_) (rb8 [49]) rfl rfl (qj0 HT_.out (by kernel_rfl)) (fun _ _ _ h => h) (Or.inl ⟨by rfl, ?_⟩) ?_ ?_
           rotate_left
           ·intro w'
            go_simp
            with_reducible rfl
           rotate_left
           ·simp only [Act.put, List.setIfInBounds_toArray, List.set_cons_zero, List.set_cons_succ, i64_w, i32_w]
            rfl
           refine done_ (ql1 HT_.out (by kernel_rfl)) ?_
           try go_wp2
           go_meet
           case rel => exact ⟨_, (decide (((rd_T53 l0_1 x53_3).f2) < ((mget x7_3 ((rd_T53 l0_1 x53_3).f0)).getD 0))), (by first | rfl | (simp; done) | (simp [*]; done)), H', ⟨by have := HJ1.out; have := HK2.out; have := HK3.out; first | omega | exact Nat.le_refl _⟩, ⟨by (with_reducible repeat (first | apply Kd.Z_alloc | apply Kd.Z_drewN | apply Kd.Z_drew)); exact HO_6.out⟩, ⟨by (with_reducible repeat (first | apply Kd.Z_alloc | apply Kd.Z_drewN | apply Kd.Z_drew)); exact HO_7.out⟩, ⟨by (with_reducible repeat (first | refine qd0 ?_ _ | refine qh0 ?_ | refine qe0 ?_ _)); exact BK192.out⟩, ⟨by (with_reducible repeat (first | refine qd0 ?_ _ | refine qh0 ?_ | refine qe0 ?_ _)); exact BK211.out⟩, ⟨by repeat (first | (with_reducible first | exact HB.out | apply qc0 | apply qa0 | apply qb0 | refine qf0 ?_ GE192.out | refine qf0 ?_ GE211.out) | exact HB.out)⟩⟩
          replace c64 := Bool.eq_false_iff.mpr c64
          subst c64
          have H1 : (impl_RegisterOk.j4 k3 x6_3 x7_3 l0_1 (l0_1.length : Int) x53_3 true l0_0 l0_1 ((rd_T53 l0_1 x53_3).f0) ((rd_T53 l0_1 x53_3).f1) ((rd_T53 l0_1 x53_3).f2) ((rd_T53 l0_1 x53_3).f3)) = some r := by rw [if_neg (show ¬ (false = true) by decide)] at H; exact H
          clear H
          have H := H1
          clear H1
          have H' := Aside0.mk H
          clear H
          try go_wp2
          have n0_ : Aside0 (Kd.Z kz128 128 ((((w43.setCell ⟨gb211, 0, none⟩ (.int .i64 ((rd_T53 l0_1 x53_3).f0))).setCell ⟨gb211, 1, none⟩ (.int .i64 ((rd_T53 l0_1 x53_3).f1))).setCell ⟨gb211, 2, none⟩ (.int .i64 ((rd_T53 l0_1 x53_3).f2))).setCell ⟨gb211, 3, none⟩ (.bool ((rd_T53 l0_1 x53_3).f3))) w.heap.size (fun _ => True) (.map (some mb205)) x6_3) := ⟨by (with_reducible repeat (first | apply Kd.Z_alloc | apply Kd.Z_drewN | apply Kd.Z_drew)); exact Kd.Z_mono (Kd.Z_far (p := ⟨gb211, 3, none⟩) (Kd.Z_far (p := ⟨gb211, 2, none⟩) (Kd.Z_far (p := ⟨gb211, 1, none⟩) (Kd.Z_far (p := ⟨gb211, 0, none⟩) (Kd.Z_types HO_6.out BK211.out (by decide)) (fun _ hk => hk.2) (.int .i64 ((rd_T53 l0_1 x53_3).f0))) (fun _ hk => hk.2) (.int .i64 ((rd_T53 l0_1 x53_3).f1))) (fun _ hk => hk.2) (.int .i64 ((rd_T53 l0_1 x53_3).f2))) (fun _ hk => hk.2) (.bool ((rd_T53 l0_1 x53_3).f3))) (fun _ hk => trivial)⟩
          have n1_ : Aside0 (Kd.Z kz128 128 ((((w43.setCell ⟨gb211, 0, none⟩ (.int .i64 ((rd_T53 l0_1 x53_3).f0))).setCell ⟨gb211, 1, none⟩ (.int .i64 ((rd_T53 l0_1 x53_3).f1))).setCell ⟨gb211, 2, none⟩ (.int .i64 ((rd_T53 l0_1 x53_3).f2))).setCell ⟨gb211, 3, none⟩ (.bool ((rd_T53 l0_1 x53_3).f3))) w.heap.size (fun _ => True) (.map (some mb209)) x7_3) := ⟨by (with_reducible repeat (first | apply Kd.Z_alloc | apply Kd.Z_drewN | apply Kd.Z_drew)); exact Kd.Z_mono (Kd.Z_far (p := ⟨gb211, 3, none⟩) (Kd.Z_far (p := ⟨gb211, 2, none⟩) (Kd.Z_far (p := ⟨gb211, 1, none⟩) (Kd.Z_far (p := ⟨gb211, 0, none⟩) (Kd.Z_types HO_7.out BK211.out (by decide)) (fun _ hk => hk.2) (.int .i64 ((rd_T53 l0_1 x53_3).f0))) (fun _ hk => hk.2) (.int .i64 ((rd_T53 l0_1 x53_3).f1))) (fun _ hk => hk.2) (.int .i64 ((rd_T53 l0_1 x53_3).f2))) (fun _ hk => hk.2) (.bool ((rd_T53 l0_1 x53_3).f3))) (fun _ hk => trivial)⟩
          have n2_ : Aside0 (((((w43.setCell ⟨gb211, 0, none⟩ (.int .i64 ((rd_T53 l0_1 x53_3).f0))).setCell ⟨gb211, 1, none⟩ (.int .i64 ((rd_T53 l0_1 x53_3).f1))).setCell ⟨gb211, 2, none⟩ (.int .i64 ((rd_T53 l0_1 x53_3).f2))).setCell ⟨gb211, 3, none⟩ (.bool ((rd_T53 l0_1 x53_3).f3))).heap[gb192]? = some (.cells #[.slice A0_0 l0_0.length c0_0, .slice (some ad210) l0_1.length c0_1] 42 (0, 0))) := ⟨by (with_reducible repeat (first | refine qd0 ?_ _ | refine qh0 ?_ | refine qe0 ?_ _)); refine qu0 ?_ NB192_211.out _; (with_reducible repeat (first | refine qd0 ?_ _ | refine qh0 ?_ | refine qe0 ?_ _)); refine qu0 ?_ NB192_211.out _; (with_reducible repeat (first | refine qd0 ?_ _ | refine qh0 ?_ | refine qe0 ?_ _)); refine qu0 ?_ NB192_211.out _; (with_reducible repeat (first | refine qd0 ?_ _ | refine qh0 ?_ | refine qe0 ?_ _)); refine qu0 ?_ NB192_211.out _; (with_reducible repeat (first | refine qd0 ?_ _ | refine qh0 ?_ | refine qe0 ?_ _)); exact BK192.out⟩
          have n3_ : Aside0 (((((w43.setCell ⟨gb211, 0, none⟩ (.int .i64 ((rd_T53 l0_1 x53_3).f0))).setCell ⟨gb211, 1, none⟩ (.int .i64 ((rd_T53 l0_1 x53_3).f1))).setCell ⟨gb211, 2, none⟩ (.int .i64 ((rd_T53 l0_1 x53_3).f2))).setCell ⟨gb211, 3, none⟩ (.bool ((rd_T53 l0_1 x53_3).f3))).heap[gb211]? = some (.cells #[.int .i64 ((rd_T53 l0_1 x53_3).f0), .int .i64 ((rd_T53 l0_1 x53_3).f1), .int .i64 ((rd_T53 l0_1 x53_3).f2), .bool ((rd_T53 l0_1 x53_3).f3)] 53 (0, 0))) := ⟨by (with_reducible repeat (first | refine qd0 ?_ _ | refine qh0 ?_ | refine qe0 ?_ _)); refine qx0 (cs := #[.int .i64 ((rd_T53 l0_1 x53_3).f0), .int .i64 ((rd_T53 l0_1 x53_3).f1), .int .i64 ((rd_T53 l0_1 x53_3).f2), .bool false]) ?_ 3 _ rfl; (with_reducible repeat (first | refine qd0 ?_ _ | refine qh0 ?_ | refine qe0 ?_ _)); refine qx0 (cs := #[.int .i64 ((rd_T53 l0_1 x53_3).f0), .int .i64 ((rd_T53 l0_1 x53_3).f1), .int .i64 0, .bool false]) ?_ 2 _ rfl; (with_reducible repeat (first | refine qd0 ?_ _ | refine qh0 ?_ | refine qe0 ?_ _)); refine qx0 (cs := #[.int .i64 ((rd_T53 l0_1 x53_3).f0), .int .i64 0, .int .i64 0, .bool false]) ?_ 1 _ rfl; (with_reducible repeat (first | refine qd0 ?_ _ | refine qh0 ?_ | refine qe0 ?_ _)); refine qx0 (cs := #[.int .i64 0, .int .i64 0, .int .i64 0, .bool false]) ?_ 0 _ rfl; (with_reducible repeat (first | refine qd0 ?_ _ | refine qh0 ?_ | refine qe0 ?_ _)); exact BK211.out⟩
          have n4_ : Aside0 (Below w.heap.size w ((((w43.setCell ⟨gb211, 0, none⟩ (.int .i64 ((rd_T53 l0_1 x53_3).f0))).setCell ⟨gb211, 1, none⟩ (.int .i64 ((rd_T53 l0_1 x53_3).f1))).setCell ⟨gb211, 2, none⟩ (.int .i64 ((rd_T53 l0_1 x53_3).f2))).setCell ⟨gb211, 3, none⟩ (.bool ((rd_T53 l0_1 x53_3).f3)))) := ⟨by repeat (first | (with_reducible first | exact HB.out | apply qc0 | apply qa0 | apply qb0 | refine qf0 ?_ GE192.out | refine qf0 ?_ GE211.out) | exact HB.out)⟩
          (try clear HO_6)
          (try clear HO_7)
          (try clear BK192)
          (try clear BK211)
          (try clear HB)
          generalize ((((w43.setCell ⟨gb211, 0, none⟩ (.int .i64 ((rd_T53 l0_1 x53_3).f0))).setCell ⟨gb211, 1, none⟩ (.int .i64 ((rd_T53 l0_1 x53_3).f1))).setCell ⟨gb211, 2, none⟩ (.int .i64 ((rd_T53 l0_1 x53_3).f2))).setCell ⟨gb211, 3, none⟩ (.bool ((rd_T53 l0_1 x53_3).f3))) = w70 at n0_ n1_ n2_ n3_ n4_ ⊢
          have HO_6 := n0_
          have HO_7 := n1_
          have BK192 := n2_
          have BK211 := n3_
          have HB := n4_
          clear n0_ n1_ n2_ n3_ n4_
          have n0_ := Aside0.mk (Kd.Z_drew HO_6.out)
          have n1_ := Aside0.mk (Kd.Z_drew HO_7.out)
          have n2_ := Aside0.mk (qh0 BK192.out)
          have n3_ := Aside0.mk (qh0 BK211.out)
          have n4_ := Aside0.mk (qb0 HB.out)
          clear HO_6
          clear HO_7
          clear BK192
          clear BK211
          clear HB
          have HO_6 := n0_
          have HO_7 := n1_
          have BK192 := n2_
          have BK211 := n3_
          have HB := n4_
          clear n0_ n1_ n2_ n3_ n4_
          have p213 : 0 ≤ (((rd_T53 l0_1 x53_3).f0) : Int) := of_decide_eq_true (by first | (with_reducible assumption) | assumption)
          have q213 : ((rd_T53 l0_1 x53_3).f0) < (l0_0.length : Int) := of_decide_eq_true (by first | (with_reducible assumption) | assumption)
          obtain ⟨ad213, e213, hx213_0, hx213_1⟩ := at_T122 HR0_0.out ((rd_T53 l0_1 x53_3).f0) p213 q213
          have hw213_1 := hx213_1
          have hw213_0 := hx213_0
          cases e213
          replace hx213_0 := (HB.out.cell (World.block_lt_of_cell? w _ hx213_0)).trans hx213_0
          replace hx213_1 := (HB.out.cell (World.block_lt_of_cell? w _ hx213_1)).trans hx213_1
          replace p213 := eq_true p213
          replace q213 := eq_true q213
          refine qo1 (n := 49) (S := fun w' => w'.cell? ⟨gb211, 0, none⟩ = some (.int .i64 ((rd_T53 l0_1 x53_3).f0)) ∧ w'.cell? ⟨gb211, 1, none⟩ = some (.int .i64 ((rd_T53 l0_1 x53_3).f1)) ∧ w'.cell? ⟨gb211, 2, none⟩ = some (.int .i64 ((rd_T53 l0_1 x53_3).f2)) ∧ w'.cell? ⟨gb211, 3, none⟩ = some (.bool ((rd_T53 l0_1 x53_3).f3)) ∧ w'.cell? ⟨gb192, 0, none⟩ = some (.slice (some ad213) l0_0.length c0_0) ∧ w'.cell? ⟨gb192, 1, none⟩ = some (.slice (some ad210) l0_1.length c0_1) ∧ w'.cell? (ad213.add ((((rd_T53 l0_1 x53_3).f0)).toNat * 2)) = some (.string ((rd_T122 l0_0 ((rd_T53 l0_1 x53_3).f0)).f0)) ∧ w'.cell? ⟨(ad213.add ((((rd_T53 l0_1 x53_3).f0)).toNat * 2)).block, (ad213.add ((((rd_T53 l0_1 x53_3).f0)).toNat * 2)).off + 1, none⟩ = some (.int .i64 ((rd_T122 l0_0 ((rd_T53 l0_1 x53_3).f0)).f1))) (ds := []) (rb8 [0, 49]) (by kernel_rfl) rfl rfl ⟨(qg0 BK211.out 0).trans rfl, (qg0 BK211.out 1).trans rfl, (qg0 BK211.out 2).trans rfl, (qg0 BK211.out 3).trans rfl, (qg0 BK192.out 0).trans rfl, (qg0 BK192.out 1).trans rfl, ((HB.out.cell (World.block_lt_of_cell? w _ hw213_0)).trans hw213_0), ((HB.out.cell (World.block_lt_of_cell? w _ hw213_1)).trans hw213_1)⟩ (fun hHeld => ?_); refine qf1 impl_RegisterOk.tab16 impl_RegisterOk.bits16 (fun HT_ HW_ => ?_)
          generalize w70.drew = w71 at HO_6 HO_7 BK192 BK211 HB hx213_0 hx213_1 hHeld ⊢
          refine pure_ (i := 0) (N := some 57) (v := ?_) (a' := ?_) (rb8 [1, 48]) rfl rfl (qj0 HT_.out (by kernel_rfl)) (fun _ _ _ h => h) (Or.inl ⟨by rfl, ?_⟩) ?_ ?_
          rotate_left
          ·intro w'
           go_simp
           with_reducible rfl
          rotate_left
          ·simp only [Act.put, List.setIfInBounds_toArray, List.set_cons_zero, List.set_cons_succ, i64_w, i32_w]
           rfl
          refine take_ (i := 1) (N := some 58) (v := ?_) (a' := ?_) (rb8 [2, 47]) rfl rfl (qo0 HT_.out HW_.out (by kernel_rfl)) (fun _ _ _ h => h) (Or.inl ⟨by rfl, ?_⟩) hHeld ?_ ?_
          rotate_left
          ·rintro w' ⟨s0, s1, s2, s3, s4, s5, s6, s7⟩
           go_simp
           with_reducible rfl
          rotate_left
          ·simp only [Act.put, List.setIfInBounds_toArray, List.set_cons_zero, List.set_cons_succ, i64_w, i32_w]
           rfl
          refine pure_ (i := 2) (N := some 59) (v := ?_) (a' := ?_) (rb8 [3, 46]) rfl rfl (qj0 HT_.out (by kernel_rfl)) (fun _ _ _ h => h) (Or.inl ⟨by rfl, ?_⟩) ?_ ?_
          rotate_left
          ·intro w'
           go_simp
           with_reducible rfl
          rotate_left
          ·simp only [Act.put, List.setIfInBounds_toArray, List.set_cons_zero, List.set_cons_succ, i64_w, i32_w]
           rfl
          refine pure_ (i := 3) (N := some 60) (v := ?_) (a' := ?_) (rb8 [4, 45]) rfl rfl (qj0 HT_.out (by kernel_rfl)) (fun _ _ _ h => h) (Or.inl ⟨by rfl, ?_⟩) ?_ ?_
          rotate_left
          ·intro w'
           go_simp
           with_reducible rfl
          rotate_left
          ·simp only [Act.put, List.setIfInBounds_toArray, List.set_cons_zero, List.set_cons_succ, i64_w, i32_w]
           rfl
          refine pure_ (i := 4) (N := some 61) (v := ?_) (a' := ?_) (rb8 [5, 44]) rfl rfl (qj0 HT_.out (by kernel_rfl)) (fun _ _ _ h => h) (Or.inl ⟨by rfl, ?_⟩) ?_ ?_
          rotate_left
          ·intro w'
           go_simp
           with_reducible rfl
          rotate_left
          ·simp only [Act.put, List.setIfInBounds_toArray, List.set_cons_zero, List.set_cons_succ, i64_w, i32_w]
           rfl
          refine pure_ (i := 6) (N := some 63) (v := ?_) (a' := ?_) (rb8 [5, 1, 1, 42]) rfl rfl (qj0 HT_.out (by kernel_rfl)) (fun _ _ _ h => h) (Or.inl ⟨by rfl, ?_⟩) ?_ ?_
          rotate_left
          ·intro w'
           go_simp
           with_reducible rfl
          rotate_left
          ·simp only [Act.put, List.setIfInBounds_toArray, List.set_cons_zero, List.set_cons_succ, i64_w, i32_w]
           rfl
          refine take_ (i := 5) (N := some 62) (v := ?_) (a' := ?_) (rb8 [7, 42]) rfl rfl (qo0 HT_.out HW_.out (by kernel_rfl)) (fun _ _ _ h => h) (Or.inl ⟨by rfl, ?_⟩) hHeld ?_ ?_
          rotate_left
          ·rintro w' ⟨s0, s1, s2, s3, s4, s5, s6, s7⟩
           go_simp
           with_reducible rfl
          rotate_left
          ·simp only [Act.put, List.setIfInBounds_toArray, List.set_cons_zero, List.set_cons_succ, i64_w, i32_w]
           rfl
          refine take_ (i := 7) (N := some 64) (v := ?_) (a' := ?_) (rb8 [8, 41]) rfl rfl (qo0 HT_.out HW_.out (by kernel_rfl)) (fun _ _ _ h => h) (Or.inl ⟨by rfl, ?_⟩) hHeld ?_ ?_
          rotate_left
          ·rintro w' ⟨s0, s1, s2, s3, s4, s5, s6, s7⟩
           go_simp
           with_reducible rfl
          rotate_left
          ·simp only [Act.put, List.setIfInBounds_toArray, List.set_cons_zero, List.set_cons_succ, i64_w, i32_w]
           rfl
          refine pure_ (i := 8) (N := some 65) (v := ?_) (a' := ?_) (rb8 [9, 40]) rfl rfl (qj0 HT_.out (by kernel_rfl)) (fun _ _ _ h => h) (Or.inl ⟨by rfl, ?_⟩) ?_ ?_
          rotate_left
          ·intro w'
           go_simp
           with_reducible rfl
          rotate_left
          ·simp only [Act.put, List.setIfInBounds_toArray, List.set_cons_zero, List.set_cons_succ, i64_w, i32_w]
           rfl
          refine pure_ (i := 9) (N := some 66) (v := ?_) (a' := ?_) (rb8 [10, 39]) rfl rfl (qj0 HT_.out (by kernel_rfl)) (fun _ _ _ h => h) (Or.inl ⟨by rfl, ?_⟩) ?_ ?_
          rotate_left
          ·intro w'
           go_simp
           with_reducible rfl
          rotate_left
          ·simp only [Act.put, List.setIfInBounds_toArray, List.set_cons_zero, List.set_cons_succ, i64_w, i32_w]
           rfl
          refine pure_ (i := 10) (N := some 67) (v := ?_) (a' := ?_) (rb8 [11, 38]) rfl rfl (qj0 HT_.out (by kernel_rfl)) (fun _ _ _ h => h) (Or.inl ⟨by rfl, ?_⟩) ?_ ?_
          rotate_left
          ·intro w'
           go_simp
           with_reducible rfl
          rotate_left
          ·simp only [Act.put, List.setIfInBounds_toArray, List.set_cons_zero, List.set_cons_succ, i64_w, i32_w]
           rfl
          refine pure_ (i := 11) (N := some 68) (v := ?_) (a' := ?_) (rb8 [12, 37]) rfl rfl (qj0 HT_.out (by kernel_rfl)) (fun _ _ _ h => h) (Or.inl ⟨by rfl, ?_⟩) ?_ ?_
          rotate_left
          ·intro w'
           go_simp
           with_reducible rfl
          rotate_left
          ·simp only [Act.put, List.setIfInBounds_toArray, List.set_cons_zero, List.set_cons_succ, i64_w, i32_w]
           rfl
          refine pure_ (i := 12) (N := some 69) (v := ?_) (a' := ?_) (rb8 [13, 36]) rfl rfl (qj0 HT_.out (by kernel_rfl)) (fun _ _ _ h => h) (Or.inl ⟨by rfl, ?_⟩) ?_ ?_
          rotate_left
          ·intro w'
           go_simp
           with_reducible rfl
          rotate_left
          ·simp only [Act.put, List.setIfInBounds_toArray, List.set_cons_zero, List.set_cons_succ, i64_w, i32_w]
           rfl
          refine pure_ (i := 14) (N := some 71) (v := ?_) (a' := ?_) (rb8 [13, 1, 1, 34]) rfl rfl (qj0 HT_.out (by kernel_rfl)) (fun _ _ _ h => h) (Or.inl ⟨by rfl, ?_⟩) ?_ ?_
          rotate_left
          ·intro w'
           go_simp
           with_reducible rfl
          rotate_left
          ·simp only [Act.put, List.setIfInBounds_toArray, List.set_cons_zero, List.set_cons_succ, i64_w, i32_w]
           rfl
          refine pure_ (i := 15) (N := some 72) (v := ?_) (a' := ?_) (rb8 [13, 1, 2, 33]) rfl rfl (qj0 HT_.out (by kernel_rfl)) (fun _ _ _ h => h) (Or.inl ⟨by rfl, ?_⟩) ?_ ?_
          rotate_left
          ·intro w'
           go_simp
           with_reducible rfl
          rotate_left
          ·simp only [Act.put, List.setIfInBounds_toArray, List.set_cons_zero, List.set_cons_succ, i64_w, i32_w]
           rfl
          refine take_ (i := 13) (N := some 70) (v := ?_) (a' := ?_) (rb8 [16, 33]) rfl rfl (qo0 HT_.out HW_.out (by kernel_rfl)) (fun _ _ _ h => h) (Or.inl ⟨by rfl, ?_⟩) hHeld ?_ ?_
          rotate_left
          ·rintro w' ⟨s0, s1, s2, s3, s4, s5, s6, s7⟩
           go_simp
           with_reducible rfl
          rotate_left
          ·simp only [Act.put, List.setIfInBounds_toArray, List.set_cons_zero, List.set_cons_succ, i64_w, i32_w]
           rfl
          refine take_ (i := 16) (N := some 73) (v := ?_) (a' := ?_) (rb8 [17, 32]) rfl rfl (qo0 HT_.out HW_.out (by kernel_rfl)) (fun _ _ _ h => h) (Or.inl ⟨by rfl, ?_⟩) hHeld ?_ ?_
          rotate_left
          ·rintro w' ⟨s0, s1, s2, s3, s4, s5, s6, s7⟩
           go_simp
           with_reducible rfl
          rotate_left
          ·simp only [Act.put, List.setIfInBounds_toArray, List.set_cons_zero, List.set_cons_succ, i64_w, i32_w]
           rfl
          refine one_ (i := 17) (N := some 74) (rb8 [18, 31]) rfl rfl (qn1 HT_.out (by kernel_rfl)) (by decide) (fun K hK => ?_)
          (have hcv72 := Kd.Z_run (d := kz128) (k := ((rd_T53 l0_1 x53_3).f0)) kz128_K kz128_inj kz128_t 0 kz128_z HO_6.out (kz128_key ((rd_T53 l0_1 x53_3).f0) LMc52.out LMc53.out) false; simp only [kz128, ↓reduceIte, Bool.false_eq_true] at hcv72)
          (have hcvd := fun (n_ : Nat) => Kd.Z_run (d := kz128) (k := ((rd_T53 l0_1 x53_3).f0)) kz128_K kz128_inj kz128_t 0 kz128_z (Kd.Z_drewN HO_6.out n_) (kz128_key ((rd_T53 l0_1 x53_3).f0) LMc52.out LMc53.out) false; simp only [kz128, ↓reduceIte, Bool.false_eq_true] at hcvd)
          refine value_ (w1 := ?_) (v := ?_) (by rfl) rfl ?_ ?_
          rotate_left 2
          ·go_simp
           constructor
           ·rfl
           ·rfl
          clear hcvd
          clear hcv72
          refine hK.out _ _ ⟨(qg0 BK211.out 0).trans rfl, (qg0 BK211.out 1).trans rfl, (qg0 BK211.out 2).trans rfl, (qg0 BK211.out 3).trans rfl, (qg0 BK192.out 0).trans rfl, (qg0 BK192.out 1).trans rfl, ((HB.out.cell (World.block_lt_of_cell? w _ hw213_0)).trans hw213_0), ((HB.out.cell (World.block_lt_of_cell? w _ hw213_1)).trans hw213_1)⟩ (fun hHeld => ?_)
          clear hK K
          refine norm_ (a' := ?_) ?_ ?_
          rotate_left
          ·show Act.put _ (some 74) _ = _
           simp only [Act.put, List.setIfInBounds_toArray, List.set_cons_zero, List.set_cons_succ, i64_w, i32_w]
           rfl
          refine pure_ (i := 18) (N := some 75) (v := ?_) (a' := ?_) (rb8 [19, 30]) rfl rfl (qj0 HT_.out (by kernel_rfl)) (fun _ _ _ h => h) (Or.inl ⟨by rfl, ?_⟩) ?_ ?_
          rotate_left
          ·intro w'
           go_simp
           with_reducible rfl
          rotate_left
          ·simp only [Act.put, List.setIfInBounds_toArray, List.set_cons_zero, List.set_cons_succ, i64_w, i32_w]
           rfl
          refine pure_ (i := 19) (N := some 76) (v := ?_) (a' := ?_) (rb8 [20, 29]) rfl rfl (qj0 HT_.out (by kernel_rfl)) (fun _ _ _ h => h) (Or.inl ⟨by rfl, ?_⟩) ?_ ?_
          rotate_left
          ·intro w'
           go_simp
           with_reducible rfl
          rotate_left
          ·simp only [Act.put, List.setIfInBounds_toArray, List.set_cons_zero, List.set_cons_succ, i64_w, i32_w]
           rfl
          refine pure_ (i := 20) (N := some 77) (v := ?_) (a' := ?_) (rb8 [21, 28]) rfl rfl (qj0 HT_.out (by kernel_rfl)) (fun _ _ _ h => h) (Or.inl ⟨by rfl, ?_⟩) ?_ ?_
          rotate_left
          ·intro w'
           go_simp
           with_reducible rfl
          rotate_left
          ·simp only [Act.put, List.setIfInBounds_toArray, List.set_cons_zero, List.set_cons_succ, i64_w, i32_w]
           rfl
          refine pure_ (i := 21) (N := some 78) (v := ?_) (a' := ?_) (rb8 [22, 27]) rfl rfl (qj0 HT_.out (by kernel_rfl)) (fun _ _ _ h => h) (Or.inl ⟨by rfl, ?_⟩) ?_ ?_
          rotate_left
          ·intro w'
           go_simp
           with_reducible rfl
          rotate_left
          ·simp only [Act.put, List.setIfInBounds_toArray, List.set_cons_zero, List.set_cons_succ, i64_w, i32_w]
           rfl
          refine pure_ (i := 22) (N := some 79) (v := ?_) (a' := ?_) (rb8 [23, 26]) rfl rfl (qj0 HT_.out (by kernel_rfl)) (fun _ _ _ h => h) (Or.inl ⟨by rfl, ?_⟩) ?_ ?_
          rotate_left
          ·intro w'
           go_simp
           with_reducible rfl
          rotate_left
          ·simp only [Act.put, List.setIfInBounds_toArray, List.set_cons_zero, List.set_cons_succ, i64_w, i32_w]
           rfl
          refine pure_ (i := 25) (N := some 82) (v := ?_) (a' := ?_) (rb8 [23, 2, 1, 23]) rfl rfl (qj0 HT_.out (by kernel_rfl)) (fun _ _ _ h => h) (Or.inl ⟨by rfl, ?_⟩) ?_ ?_
          rotate_left
          ·intro w'
           go_simp
           with_reducible rfl
          rotate_left
          ·simp only [Act.put, List.setIfInBounds_toArray, List.set_cons_zero, List.set_cons_succ, i64_w, i32_w]
           rfl
          refine pure_ (i := 27) (N := some 84) (v := ?_) (a' := ?_) (rb8 [23, 2, 1, 1, 1, 21]) rfl rfl (qj0 HT_.out (by kernel_rfl)) (fun _ _ _ h => h) (Or.inl ⟨by rfl, ?_⟩) ?_ ?_
          rotate_left
          ·intro w'
           go_simp
           with_reducible rfl
          rotate_left
          ·simp only [Act.put, List.setIfInBounds_toArray, List.set_cons_zero, List.set_cons_succ, i64_w, i32_w]
           rfl
          refine take_ (i := 23) (N := some 80) (v := ?_) (a' := ?_) (rb8 [24, 1, 1, 1, 1, 21]) rfl rfl (qo0 HT_.out HW_.out (by kernel_rfl)) (fun _ _ _ h => h) (Or.inl ⟨by rfl, ?_⟩) hHeld ?_ ?_
          rotate_left
          ·rintro w' ⟨s0, s1, s2, s3, s4, s5, s6, s7⟩
           go_simp
           with_reducible rfl
          rotate_left
          ·simp only [Act.put, List.setIfInBounds_toArray, List.set_cons_zero, List.set_cons_succ, i64_w, i32_w]
           rfl
          refine take_ (i := 26) (N := some 83) (v := ?_) (a' := ?_) (rb8 [24, 1, 3, 21]) rfl rfl (qo0 HT_.out HW_.out (by kernel_rfl)) (fun _ _ _ h => h) (Or.inl ⟨by rfl, ?_⟩) hHeld ?_ ?_
          rotate_left
          ·rintro w' ⟨s0, s1, s2, s3, s4, s5, s6, s7⟩
           go_simp
           with_reducible rfl
          rotate_left
          ·simp only [Act.put, List.setIfInBounds_toArray, List.set_cons_zero, List.set_cons_succ, i64_w, i32_w]
           rfl
          refine take_ (i := 28) (N := some 85) (v := ?_) (a' := ?_) (rb8 [24, 1, 4, 20]) rfl rfl (qo0 HT_.out HW_.out (by kernel_rfl)) (fun _ _ _ h => h) (Or.inl ⟨by rfl, ?_⟩) hHeld ?_ ?_
          rotate_left
          ·rintro w' ⟨s0, s1, s2, s3, s4, s5, s6, s7⟩
           go_simp
           with_reducible rfl
          rotate_left
          ·simp only [Act.put, List.setIfInBounds_toArray, List.set_cons_zero, List.set_cons_succ, i64_w, i32_w]
           rfl
          refine pure_ (i := 29) (N := some 86) (v := ?_) (a' := ?_) (rb8 [24, 1, 5, 19]) rfl rfl (qj0 HT_.out (by kernel_rfl)) (fun _ _ _ h => h) (Or.inl ⟨by rfl, ?_⟩) ?_ ?_
          rotate_left
          ·intro w'
           go_simp
           with_reducible rfl
          rotate_left
          ·simp only [Act.put, List.setIfInBounds_toArray, List.set_cons_zero, List.set_cons_succ, i64_w, i32_w]
           rfl
          refine pure_ (i := 30) (N := some 87) (v := ?_) (a' := ?_) (rb8 [24, 1, 6, 18]) rfl rfl (qj0 HT_.out (by kernel_rfl)) (fun _ _ _ h => h) (Or.inl ⟨by rfl, ?_⟩) ?_ ?_
          rotate_left
          ·intro w'
           go_simp
           with_reducible rfl
          rotate_left
          ·simp only [Act.put, List.setIfInBounds_toArray, List.set_cons_zero, List.set_cons_succ, i64_w, i32_w]
           rfl
          refine take_ (i := 31) (N := some 88) (v := ?_) (a' := ?_) (rb8 [24, 1, 7, 17]) rfl rfl (qo0 HT_.out HW_.out (by kernel_rfl)) (fun _ _ _ h => h) (Or.inl ⟨by rfl, ?_⟩) hHeld ?_ ?_
          rotate_left
          ·rintro w' ⟨s0, s1, s2, s3, s4, s5, s6, s7⟩
           go_simp
           with_reducible rfl
          rotate_left
          ·simp only [Act.put, List.setIfInBounds_toArray, List.set_cons_zero, List.set_cons_succ, i64_w, i32_w]
           rfl
          refine one_ (i := 24) (N := some 81) (rb8 [32, 17]) rfl rfl (qn1 HT_.out (by kernel_rfl)) (by decide) (fun K hK => ?_)
          refine goes_ Try.func87 (by kernel_rfl) rfl #[.int .i64 ((rd_T53 l0_1 x53_3).f1)] (by rfl) rfl rfl (by (try simp only [List.map_toArray, List.map_cons, List.map_nil]); first | done | rfl | (simp only [List.length_drop, List.length_take]; rfl)) ?_
          with_reducible refine (impl_digitsIn.calls k3 ((rd_T53 l0_1 x53_3).f1) t212 _ A55.out).mono ?_
          rintro e w73 ⟨rfl, hb⟩
          refine ⟨_, rfl, ?_⟩
          have n0_ := Aside0.mk (Kd.Z_below (by (with_reducible repeat (first | apply Kd.Z_alloc | apply Kd.Z_drewN | apply Kd.Z_drew)); exact HO_6.out) hb)
          have n1_ := Aside0.mk (Kd.Z_below (by (with_reducible repeat (first | apply Kd.Z_alloc | apply Kd.Z_drewN | apply Kd.Z_drew)); exact HO_7.out) hb)
          have n2_ := Aside0.mk (qm0 (g := gb192) (o := .cells #[.slice (some ad213) l0_0.length c0_0, .slice (some ad210) l0_1.length c0_1] 42 (0, 0)) (by (with_reducible repeat (first | refine qd0 ?_ _ | refine qh0 ?_ | refine qe0 ?_ _)); exact BK192.out) hb)
          have n3_ := Aside0.mk (qm0 (g := gb211) (o := .cells #[.int .i64 ((rd_T53 l0_1 x53_3).f0), .int .i64 ((rd_T53 l0_1 x53_3).f1), .int .i64 ((rd_T53 l0_1 x53_3).f2), .bool ((rd_T53 l0_1 x53_3).f3)] 53 (0, 0)) (by (with_reducible repeat (first | refine qd0 ?_ _ | refine qh0 ?_ | refine qe0 ?_ _)); exact BK211.out) hb)
          have n4_ := Aside0.mk (ql0 (by repeat (first | (with_reducible first | exact HB.out | apply qc0 | apply qa0 | apply qb0 | refine qf0 ?_ GE192.out | refine qf0 ?_ GE211.out) | exact HB.out)) hb)
          clear HO_6
          clear HO_7
          clear BK192
          clear BK211
          clear HB
          have HO_6 := n0_
          have HO_7 := n1_
          have BK192 := n2_
          have BK211 := n3_
          have HB := n4_
          clear n0_ n1_ n2_ n3_ n4_
          (try clear hb)
          (try clear hb2)
          (try clear hk)
          (try clear hi)
          refine hK.out _ _ ⟨(qg0 BK211.out 0).trans rfl, (qg0 BK211.out 1).trans rfl, (qg0 BK211.out 2).trans rfl, (qg0 BK211.out 3).trans rfl, (qg0 BK192.out 0).trans rfl, (qg0 BK192.out 1).trans rfl, ((HB.out.cell (World.block_lt_of_cell? w _ hw213_0)).trans hw213_0), ((HB.out.cell (World.block_lt_of_cell? w _ hw213_1)).trans hw213_1)⟩ (fun hHeld => ?_)
          clear hK K
          refine norm_ (a' := ?_) ?_ ?_
          rotate_left
          ·show Act.put _ (some 81) _ = _
           simp only [Act.put, List.setIfInBounds_toArray, List.set_cons_zero, List.set_cons_succ, i64_w, i32_w]
           rfl
          refine pure_ (i := 32) (N := some 89) (v := ?_) (a' := ?_) (rb8 [33, 16]) rfl rfl (qj0 HT_.out (by kernel_rfl)) (fun _ _ _ h => h) (Or.inl ⟨by rfl, ?_⟩) ?_ ?_
          rotate_left
          ·intro w'
           go_simp
           with_reducible rfl
          rotate_left
          ·simp only [Act.put, List.setIfInBounds_toArray, List.set_cons_zero, List.set_cons_succ, i64_w, i32_w]
           rfl
          refine pure_ (i := 33) (N := some 90) (v := ?_) (a' := ?_) (rb8 [34, 15]) rfl rfl (qj0 HT_.out (by kernel_rfl)) (fun _ _ _ h => h) (Or.inl ⟨by rfl, ?_⟩) ?_ ?_
          rotate_left
          ·intro w'
           go_simp
           with_reducible rfl
          rotate_left
          ·simp only [Act.put, List.setIfInBounds_toArray, List.set_cons_zero, List.set_cons_succ, i64_w, i32_w]
           rfl
          refine pure_ (i := 34) (N := some 91) (v := ?_) (a' := ?_) (rb8 [35, 14]) rfl rfl (qj0 HT_.out (by kernel_rfl)) (fun _ _ _ h => h) (Or.inl ⟨by rfl, ?_⟩) ?_ ?_
          rotate_left
          ·intro w'
           go_simp
           with_reducible rfl
          rotate_left
          ·simp only [Act.put, List.setIfInBounds_toArray, List.set_cons_zero, List.set_cons_succ, i64_w, i32_w]
           rfl
          refine pure_ (i := 35) (N := some 92) (v := ?_) (a' := ?_) (rb8 [36, 13]) rfl rfl (qj0 HT_.out (by kernel_rfl)) (fun _ _ _ h => h) (Or.inl ⟨by rfl, ?_⟩) ?_ ?_
          rotate_left
          ·intro w'
           go_simp
           with_reducible rfl
          rotate_left
          ·simp only [Act.put, List.setIfInBounds_toArray, List.set_cons_zero, List.set_cons_succ, i64_w, i32_w]
           rfl
          refine take_ (i := 36) (N := some 93) (v := ?_) (a' := ?_) (rb8 [37, 12]) rfl rfl (qo0 HT_.out HW_.out (by kernel_rfl)) (fun _ _ _ h => h) (Or.inl ⟨by rfl, ?_⟩) hHeld ?_ ?_
          rotate_left
          ·rintro w' ⟨s0, s1, s2, s3, s4, s5, s6, s7⟩
           go_simp
           with_reducible rfl
          rotate_left
          ·simp only [Act.put, List.setIfInBounds_toArray, List.set_cons_zero, List.set_cons_succ, i64_w, i32_w]
           rfl
          refine one_ (i := 37) (N := some 94) (rb8 [38, 11]) rfl rfl (qn1 HT_.out (by kernel_rfl)) (by decide) (fun K hK => ?_)
          refine goes_ Try.func88 (by kernel_rfl) rfl #[.int .i64 ((rd_T53 l0_1 x53_3).f2)] (by rfl) rfl rfl (by (try simp only [List.map_toArray, List.map_cons, List.map_nil]); first | done | rfl | (simp only [List.length_drop, List.length_take]; rfl)) ?_
          with_reducible refine (impl_isDay.calls ((rd_T53 l0_1 x53_3).f2) false _ A63.out).mono ?_
          rintro e w' ⟨rfl, ⟨nd, rfl⟩⟩
          refine ⟨_, rfl, ?_⟩
          refine hK.out _ _ ⟨(qg0 BK211.out 0).trans rfl, (qg0 BK211.out 1).trans rfl, (qg0 BK211.out 2).trans rfl, (qg0 BK211.out 3).trans rfl, (qg0 BK192.out 0).trans rfl, (qg0 BK192.out 1).trans rfl, ((HB.out.cell (World.block_lt_of_cell? w _ hw213_0)).trans hw213_0), ((HB.out.cell (World.block_lt_of_cell? w _ hw213_1)).trans hw213_1)⟩ (fun hHeld => ?_)
          clear hK K
          refine norm_ (a' := ?_) ?_ ?_
          rotate_left
          ·show Act.put _ (some 94) _ = _
           simp only [Act.put, List.setIfInBounds_toArray, List.set_cons_zero, List.set_cons_succ, i64_w, i32_w]
           rfl
          refine pure_ (i := 38) (N := some 95) (v := ?_) (a' := ?_) (rb8 [39, 10]) rfl rfl (qj0 HT_.out (by kernel_rfl)) (fun _ _ _ h => h) (Or.inl ⟨by rfl, ?_⟩) ?_ ?_
          rotate_left
          ·intro w'
           go_simp
           with_reducible rfl
          rotate_left
          ·simp only [Act.put, List.setIfInBounds_toArray, List.set_cons_zero, List.set_cons_succ, i64_w, i32_w]
           rfl
          refine pure_ (i := 39) (N := some 96) (v := ?_) (a' := ?_) (rb8 [40, 9]) rfl rfl (qj0 HT_.out (by kernel_rfl)) (fun _ _ _ h => h) (Or.inl ⟨by rfl, ?_⟩) ?_ ?_
          rotate_left
          ·intro w'
           go_simp
           with_reducible rfl
          rotate_left
          ·simp only [Act.put, List.setIfInBounds_toArray, List.set_cons_zero, List.set_cons_succ, i64_w, i32_w]
           rfl
          refine pure_ (i := 40) (N := some 97) (v := ?_) (a' := ?_) (rb8 [41, 8]) rfl rfl (qj0 HT_.out (by kernel_rfl)) (fun _ _ _ h => h) (Or.inl ⟨by rfl, ?_⟩) ?_ ?_
          rotate_left
          ·intro w'
           go_simp
           with_reducible rfl
          rotate_left
          ·simp only [Act.put, List.setIfInBounds_toArray, List.set_cons_zero, List.set_cons_succ, i64_w, i32_w]
           rfl
          refine pure_ (i := 41) (N := some 98) (v := undef) (a' := ?_) (rb8 [42, 7]) rfl rfl (qj0 HT_.out (by kernel_rfl)) (fun _ _ _ h => h) (Or.inr ⟨by rfl, rfl⟩) ?_ ?_
          rotate_left
          ·simp only [Act.put, List.setIfInBounds_toArray, List.set_cons_zero, List.set_cons_succ, i64_w, i32_w]
           rfl
          refine pure_ (i := 42) (N := some 99) (v := undef) (a' := ?_) (rb8 [43, 6]) rfl rfl (qj0 HT_.out (by kernel_rfl)) (fun _ _ _ h => h) (Or.inr ⟨by rfl, rfl⟩) ?_ ?_
          rotate_left
          ·simp only [Act.put, List.setIfInBounds_toArray, List.set_cons_zero, List.set_cons_succ, i64_w, i32_w]
           rfl
          refine pure_ (i := 43) (N := some 100) (v := undef) (a' := ?_) (rb8 [44, 5]) rfl rfl (qj0 HT_.out (by kernel_rfl)) (fun _ _ _ h => h) (Or.inr ⟨by rfl, rfl⟩) ?_ ?_
          rotate_left
          ·simp only [Act.put, List.setIfInBounds_toArray, List.set_cons_zero, List.set_cons_succ, i64_w, i32_w]
           rfl
          refine pure_ (i := 44) (N := some 101) (v := undef) (a' := ?_) (rb8 [45, 4]) rfl rfl (qj0 HT_.out (by kernel_rfl)) (fun _ _ _ h => h) (Or.inr ⟨by rfl, rfl⟩) ?_ ?_
          rotate_left
          ·simp only [Act.put, List.setIfInBounds_toArray, List.set_cons_zero, List.set_cons_succ, i64_w, i32_w]
           rfl
          refine pure_ (i := 45) (N := some 102) (v := undef) (a' := ?_) (rb8 [46, 3]) rfl rfl (qj0 HT_.out (by kernel_rfl)) (fun _ _ _ h => h) (Or.inr ⟨by rfl, rfl⟩) ?_ ?_
          rotate_left
          ·simp only [Act.put, List.setIfInBounds_toArray, List.set_cons_zero, List.set_cons_succ, i64_w, i32_w]
           rfl
          refine pure_ (i := 46) (N := some 103) (v := undef) (a' := ?_) (rb8 [47, 2]) rfl rfl (qj0 HT_.out (by kernel_rfl)) (fun _ _ _ h => h) (Or.inr ⟨by rfl, rfl⟩) ?_ ?_
          rotate_left
          ·simp only [Act.put, List.setIfInBounds_toArray, List.set_cons_zero, List.set_cons_succ, i64_w, i32_w]
           rfl
          refine pure_ (i := 47) (N := some 104) (v := undef) (a' := ?_) (rb8 [48, 1]) rfl rfl (qj0 HT_.out (by kernel_rfl)) (fun _ _ _ h => h) (Or.inr ⟨by rfl, rfl⟩) ?_ ?_
          rotate_left
          ·simp only [Act.put, List.setIfInBounds_toArray, List.set_cons_zero, List.set_cons_succ, i64_w, i32_w]
           rfl
          refine pure_ (i := 48) (N := some 105) (v := ?_) (a' := ?_) (rb8 [49]) rfl rfl (qj0 HT_.out (by kernel_rfl)) (fun _ _ _ h => h) (Or.inl ⟨by rfl, ?_⟩) ?_ ?_
          rotate_left
          ·intro w'
           go_simp
           with_reducible rfl
          rotate_left
          ·simp only [Act.put, List.setIfInBounds_toArray, List.set_cons_zero, List.set_cons_succ, i64_w, i32_w]
           rfl
          refine done_ (ql1 HT_.out (by kernel_rfl)) ?_
          try go_wp2
          go_meet
          case rel => exact ⟨_, (true), (by first | rfl | (simp; done) | (simp [*]; done)), H', ⟨by have := HJ1.out; have := HK2.out; have := HK3.out; first | omega | exact Nat.le_refl _⟩, ⟨by (with_reducible repeat (first | apply Kd.Z_alloc | apply Kd.Z_drewN | apply Kd.Z_drew)); exact HO_6.out⟩, ⟨by (with_reducible repeat (first | apply Kd.Z_alloc | apply Kd.Z_drewN | apply Kd.Z_drew)); exact HO_7.out⟩, ⟨by (with_reducible repeat (first | refine qd0 ?_ _ | refine qh0 ?_ | refine qe0 ?_ _)); exact BK192.out⟩, ⟨by (with_reducible repeat (first | refine qd0 ?_ _ | refine qh0 ?_ | refine qe0 ?_ _)); exact BK211.out⟩, ⟨by repeat (first | (with_reducible first | exact HB.out | apply qc0 | apply qa0 | apply qb0 | refine qf0 ?_ GE192.out | refine qf0 ?_ GE211.out) | exact HB.out)⟩⟩
         rw [if_neg c54] at H
         have c54b0 : (((rd_T53 l0_1 x53_3).f1) == (wrap64 (((mget x6_3 ((rd_T53 l0_1 x53_3).f0)).getD 0) + 1))) = false := beq_eq_false_iff_ne.mpr c54
         have AS_c54b0 := Aside0.mk c54b0
         clear c54b0
         have c54b1 : (((rd_T53 l0_1 x53_3).f1) != (wrap64 (((mget x6_3 ((rd_T53 l0_1 x53_3).f0)).getD 0) + 1))) = true := bne_iff_ne.mpr c54
         have AS_c54b1 := Aside0.mk c54b1
         clear c54b1
         (try clear c54)
         have H' := Aside0.mk H
         clear H
         try go_wp2
         have n0_ : Aside0 (Kd.Z kz128 128 ((((w43.setCell ⟨gb211, 0, none⟩ (.int .i64 ((rd_T53 l0_1 x53_3).f0))).setCell ⟨gb211, 1, none⟩ (.int .i64 ((rd_T53 l0_1 x53_3).f1))).setCell ⟨gb211, 2, none⟩ (.int .i64 ((rd_T53 l0_1 x53_3).f2))).setCell ⟨gb211, 3, none⟩ (.bool ((rd_T53 l0_1 x53_3).f3))) w.heap.size (fun _ => True) (.map (some mb205)) x6_3) := ⟨by (with_reducible repeat (first | apply Kd.Z_alloc | apply Kd.Z_drewN | apply Kd.Z_drew)); exact Kd.Z_mono (Kd.Z_far (p := ⟨gb211, 3, none⟩) (Kd.Z_far (p := ⟨gb211, 2, none⟩) (Kd.Z_far (p := ⟨gb211, 1, none⟩) (Kd.Z_far (p := ⟨gb211, 0, none⟩) (Kd.Z_types HO_6.out BK211.out (by decide)) (fun _ hk => hk.2) (.int .i64 ((rd_T53 l0_1 x53_3).f0))) (fun _ hk => hk.2) (.int .i64 ((rd_T53 l0_1 x53_3).f1))) (fun _ hk => hk.2) (.int .i64 ((rd_T53 l0_1 x53_3).f2))) (fun _ hk => hk.2) (.bool ((rd_T53 l0_1 x53_3).f3))) (fun _ hk => trivial)⟩
         have n1_ : Aside0 (Kd.Z kz128 128 ((((w43.setCell ⟨gb211, 0, none⟩ (.int .i64 ((rd_T53 l0_1 x53_3).f0))).setCell ⟨gb211, 1, none⟩ (.int .i64 ((rd_T53 l0_1 x53_3).f1))).setCell ⟨gb211, 2, none⟩ (.int .i64 ((rd_T53 l0_1 x53_3).f2))).setCell ⟨gb211, 3, none⟩ (.bool ((rd_T53 l0_1 x53_3).f3))) w.heap.size (fun _ => True) (.map (some mb209)) x7_3) := ⟨by (with_reducible repeat (first | apply Kd.Z_alloc | apply Kd.Z_drewN | apply Kd.Z_drew)); exact Kd.Z_mono (Kd.Z_far (p := ⟨gb211, 3, none⟩) (Kd.Z_far (p := ⟨gb211, 2, none⟩) (Kd.Z_far (p := ⟨gb211, 1, none⟩) (Kd.Z_far (p := ⟨gb211, 0, none⟩) (Kd.Z_types HO_7.out BK211.out (by decide)) (fun _ hk => hk.2) (.int .i64 ((rd_T53 l0_1 x53_3).f0))) (fun _ hk => hk.2) (.int .i64 ((rd_T53 l0_1 x53_3).f1))) (fun _ hk => hk.2) (.int .i64 ((rd_T53 l0_1 x53_3).f2))) (fun _ hk => hk.2) (.bool ((rd_T53 l0_1 x53_3).f3))) (fun _ hk => trivial)⟩
         have n2_ : Aside0 (((((w43.setCell ⟨gb211, 0, none⟩ (.int .i64 ((rd_T53 l0_1 x53_3).f0))).setCell ⟨gb211, 1, none⟩ (.int .i64 ((rd_T53 l0_1 x53_3).f1))).setCell ⟨gb211, 2, none⟩ (.int .i64 ((rd_T53 l0_1 x53_3).f2))).setCell ⟨gb211, 3, none⟩ (.bool ((rd_T53 l0_1 x53_3).f3))).heap[gb192]? = some (.cells #[.slice A0_0 l0_0.length c0_0, .slice (some ad210) l0_1.length c0_1] 42 (0, 0))) := ⟨by (with_reducible repeat (first | refine qd0 ?_ _ | refine qh0 ?_ | refine qe0 ?_ _)); refine qu0 ?_ NB192_211.out _; (with_reducible repeat (first | refine qd0 ?_ _ | refine qh0 ?_ | refine qe0 ?_ _)); refine qu0 ?_ NB192_211.out _; (with_reducible repeat (first | refine qd0 ?_ _ | refine qh0 ?_ | refine qe0 ?_ _)); refine qu0 ?_ NB192_211.out _; (with_reducible repeat (first | refine qd0 ?_ _ | refine qh0 ?_ | refine qe0 ?_ _)); refine qu0 ?_ NB192_211.out _; (with_reducible repeat (first | refine qd0 ?_ _ | refine qh0 ?_ | refine qe0 ?_ _)); exact BK192.out⟩
         have n3_ : Aside0 (((((w43.setCell ⟨gb211, 0, none⟩ (.int .i64 ((rd_T53 l0_1 x53_3).f0))).setCell ⟨gb211, 1, none⟩ (.int .i64 ((rd_T53 l0_1 x53_3).f1))).setCell ⟨gb211, 2, none⟩ (.int .i64 ((rd_T53 l0_1 x53_3).f2))).setCell ⟨gb211, 3, none⟩ (.bool ((rd_T53 l0_1 x53_3).f3))).heap[gb211]? = some (.cells #[.int .i64 ((rd_T53 l0_1 x53_3).f0), .int .i64 ((rd_T53 l0_1 x53_3).f1), .int .i64 ((rd_T53 l0_1 x53_3).f2), .bool ((rd_T53 l0_1 x53_3).f3)] 53 (0, 0))) := ⟨by (with_reducible repeat (first | refine qd0 ?_ _ | refine qh0 ?_ | refine qe0 ?_ _)); refine qx0 (cs := #[.int .i64 ((rd_T53 l0_1 x53_3).f0), .int .i64 ((rd_T53 l0_1 x53_3).f1), .int .i64 ((rd_T53 l0_1 x53_3).f2), .bool false]) ?_ 3 _ rfl; (with_reducible repeat (first | refine qd0 ?_ _ | refine qh0 ?_ | refine qe0 ?_ _)); refine qx0 (cs := #[.int .i64 ((rd_T53 l0_1 x53_3).f0), .int .i64 ((rd_T53 l0_1 x53_3).f1), .int .i64 0, .bool false]) ?_ 2 _ rfl; (with_reducible repeat (first | refine qd0 ?_ _ | refine qh0 ?_ | refine qe0 ?_ _)); refine qx0 (cs := #[.int .i64 ((rd_T53 l0_1 x53_3).f0), .int .i64 0, .int .i64 0, .bool false]) ?_ 1 _ rfl; (with_reducible repeat (first | refine qd0 ?_ _ | refine qh0 ?_ | refine qe0 ?_ _)); refine qx0 (cs := #[.int .i64 0, .int .i64 0, .int .i64 0, .bool false]) ?_ 0 _ rfl; (with_reducible repeat (first | refine qd0 ?_ _ | refine qh0 ?_ | refine qe0 ?_ _)); exact BK211.out⟩
         have n4_ : Aside0 (Below w.heap.size w ((((w43.setCell ⟨gb211, 0, none⟩ (.int .i64 ((rd_T53 l0_1 x53_3).f0))).setCell ⟨gb211, 1, none⟩ (.int .i64 ((rd_T53 l0_1 x53_3).f1))).setCell ⟨gb211, 2, none⟩ (.int .i64 ((rd_T53 l0_1 x53_3).f2))).setCell ⟨gb211, 3, none⟩ (.bool ((rd_T53 l0_1 x53_3).f3)))) := ⟨by repeat (first | (with_reducible first | exact HB.out | apply qc0 | apply qa0 | apply qb0 | refine qf0 ?_ GE192.out | refine qf0 ?_ GE211.out) | exact HB.out)⟩
         (try clear HO_6)
         (try clear HO_7)
         (try clear BK192)
         (try clear BK211)
         (try clear HB)
         generalize ((((w43.setCell ⟨gb211, 0, none⟩ (.int .i64 ((rd_T53 l0_1 x53_3).f0))).setCell ⟨gb211, 1, none⟩ (.int .i64 ((rd_T53 l0_1 x53_3).f1))).setCell ⟨gb211, 2, none⟩ (.int .i64 ((rd_T53 l0_1 x53_3).f2))).setCell ⟨gb211, 3, none⟩ (.bool ((rd_T53 l0_1 x53_3).f3))) = w74 at n0_ n1_ n2_ n3_ n4_ ⊢
         have HO_6 := n0_
         have HO_7 := n1_
         have BK192 := n2_
         have BK211 := n3_
         have HB := n4_
         clear n0_ n1_ n2_ n3_ n4_
         have n0_ := Aside0.mk (Kd.Z_drew HO_6.out)
         have n1_ := Aside0.mk (Kd.Z_drew HO_7.out)
         have n2_ := Aside0.mk (qh0 BK192.out)
         have n3_ := Aside0.mk (qh0 BK211.out)
         have n4_ := Aside0.mk (qb0 HB.out)
         clear HO_6
         clear HO_7
         clear BK192
         clear BK211
         clear HB
         have HO_6 := n0_
         have HO_7 := n1_
         have BK192 := n2_
         have BK211 := n3_
         have HB := n4_
         clear n0_ n1_ n2_ n3_ n4_
         refine qo1 (n := 49) (S := fun w' => w'.cell? ⟨gb211, 0, none⟩ = some (.int .i64 ((rd_T53 l0_1 x53_3).f0)) ∧ w'.cell? ⟨gb211, 1, none⟩ = some (.int .i64 ((rd_T53 l0_1 x53_3).f1)) ∧ w'.cell? ⟨gb211, 2, none⟩ = some (.int .i64 ((rd_T53 l0_1 x53_3).f2)) ∧ w'.cell? ⟨gb211, 3, none⟩ = some (.bool ((rd_T53 l0_1 x53_3).f3)) ∧ w'.cell? ⟨gb192, 0, none⟩ = some (.slice A0_0 l0_0.length c0_0) ∧ w'.cell? ⟨gb192, 1, none⟩ = some (.slice (some ad210) l0_1.length c0_1)) (ds := []) (rb8 [0, 49]) (by kernel_rfl) rfl rfl ⟨(qg0 BK211.out 0).trans rfl, (qg0 BK211.out 1).trans rfl, (qg0 BK211.out 2).trans rfl, (qg0 BK211.out 3).trans rfl, (qg0 BK192.out 0).trans rfl, (qg0 BK192.out 1).trans rfl⟩ (fun hHeld => ?_); refine qf1 impl_RegisterOk.tab16 impl_RegisterOk.bits16 (fun HT_ HW_ => ?_)
         generalize w74.drew = w75 at HO_6 HO_7 BK192 BK211 HB hHeld ⊢
         refine pure_ (i := 0) (N := some 57) (v := ?_) (a' := ?_) (rb8 [1, 48]) rfl rfl (qj0 HT_.out (by kernel_rfl)) (fun _ _ _ h => h) (Or.inl ⟨by rfl, ?_⟩) ?_ ?_
         rotate_left
         ·intro w'
          go_simp
          with_reducible rfl
         rotate_left
         ·simp only [Act.put, List.setIfInBounds_toArray, List.set_cons_zero, List.set_cons_succ, i64_w, i32_w]
          rfl
         refine take_ (i := 1) (N := some 58) (v := ?_) (a' := ?_) (rb8 [2, 47]) rfl rfl (qo0 HT_.out HW_.out (by kernel_rfl)) (fun _ _ _ h => h) (Or.inl ⟨by rfl, ?_⟩) hHeld ?_ ?_
         rotate_left
         ·rintro w' ⟨s0, s1, s2, s3, s4, s5⟩
          go_simp
          with_reducible rfl
         rotate_left
         ·simp only [Act.put, List.setIfInBounds_toArray, List.set_cons_zero, List.set_cons_succ, i64_w, i32_w]
          rfl
         refine pure_ (i := 2) (N := some 59) (v := ?_) (a' := ?_) (rb8 [3, 46]) rfl rfl (qj0 HT_.out (by kernel_rfl)) (fun _ _ _ h => h) (Or.inl ⟨by rfl, ?_⟩) ?_ ?_
         rotate_left
         ·intro w'
          go_simp
          with_reducible rfl
         rotate_left
         ·simp only [Act.put, List.setIfInBounds_toArray, List.set_cons_zero, List.set_cons_succ, i64_w, i32_w]
          rfl
         refine pure_ (i := 3) (N := some 60) (v := ?_) (a' := ?_) (rb8 [4, 45]) rfl rfl (qj0 HT_.out (by kernel_rfl)) (fun _ _ _ h => h) (Or.inl ⟨by rfl, ?_⟩) ?_ ?_
         rotate_left
         ·intro w'
          go_simp
          with_reducible rfl
         rotate_left
         ·simp only [Act.put, List.setIfInBounds_toArray, List.set_cons_zero, List.set_cons_succ, i64_w, i32_w]
          rfl
         refine pure_ (i := 4) (N := some 61) (v := ?_) (a' := ?_) (rb8 [5, 44]) rfl rfl (qj0 HT_.out (by kernel_rfl)) (fun _ _ _ h => h) (Or.inl ⟨by rfl, ?_⟩) ?_ ?_
         rotate_left
         ·intro w'
          go_simp
          with_reducible rfl
         rotate_left
         ·simp only [Act.put, List.setIfInBounds_toArray, List.set_cons_zero, List.set_cons_succ, i64_w, i32_w]
          rfl
         refine pure_ (i := 6) (N := some 63) (v := ?_) (a' := ?_) (rb8 [5, 1, 1, 42]) rfl rfl (qj0 HT_.out (by kernel_rfl)) (fun _ _ _ h => h) (Or.inl ⟨by rfl, ?_⟩) ?_ ?_
         rotate_left
         ·intro w'
          go_simp
          with_reducible rfl
         rotate_left
         ·simp only [Act.put, List.setIfInBounds_toArray, List.set_cons_zero, List.set_cons_succ, i64_w, i32_w]
          rfl
         refine take_ (i := 5) (N := some 62) (v := ?_) (a' := ?_) (rb8 [7, 42]) rfl rfl (qo0 HT_.out HW_.out (by kernel_rfl)) (fun _ _ _ h => h) (Or.inl ⟨by rfl, ?_⟩) hHeld ?_ ?_
         rotate_left
         ·rintro w' ⟨s0, s1, s2, s3, s4, s5⟩
          go_simp
          with_reducible rfl
         rotate_left
         ·simp only [Act.put, List.setIfInBounds_toArray, List.set_cons_zero, List.set_cons_succ, i64_w, i32_w]
          rfl
         refine take_ (i := 7) (N := some 64) (v := ?_) (a' := ?_) (rb8 [8, 41]) rfl rfl (qo0 HT_.out HW_.out (by kernel_rfl)) (fun _ _ _ h => h) (Or.inl ⟨by rfl, ?_⟩) hHeld ?_ ?_
         rotate_left
         ·rintro w' ⟨s0, s1, s2, s3, s4, s5⟩
          go_simp
          with_reducible rfl
         rotate_left
         ·simp only [Act.put, List.setIfInBounds_toArray, List.set_cons_zero, List.set_cons_succ, i64_w, i32_w]
          rfl
         refine pure_ (i := 8) (N := some 65) (v := ?_) (a' := ?_) (rb8 [9, 40]) rfl rfl (qj0 HT_.out (by kernel_rfl)) (fun _ _ _ h => h) (Or.inl ⟨by rfl, ?_⟩) ?_ ?_
         rotate_left
         ·intro w'
          go_simp
          with_reducible rfl
         rotate_left
         ·simp only [Act.put, List.setIfInBounds_toArray, List.set_cons_zero, List.set_cons_succ, i64_w, i32_w]
          rfl
         refine pure_ (i := 9) (N := some 66) (v := ?_) (a' := ?_) (rb8 [10, 39]) rfl rfl (qj0 HT_.out (by kernel_rfl)) (fun _ _ _ h => h) (Or.inl ⟨by rfl, ?_⟩) ?_ ?_
         rotate_left
         ·intro w'
          go_simp
          with_reducible rfl
         rotate_left
         ·simp only [Act.put, List.setIfInBounds_toArray, List.set_cons_zero, List.set_cons_succ, i64_w, i32_w]
          rfl
         refine pure_ (i := 10) (N := some 67) (v := ?_) (a' := ?_) (rb8 [11, 38]) rfl rfl (qj0 HT_.out (by kernel_rfl)) (fun _ _ _ h => h) (Or.inl ⟨by rfl, ?_⟩) ?_ ?_
         rotate_left
         ·intro w'
          go_simp
          with_reducible rfl
         rotate_left
         ·simp only [Act.put, List.setIfInBounds_toArray, List.set_cons_zero, List.set_cons_succ, i64_w, i32_w]
          rfl
         refine pure_ (i := 11) (N := some 68) (v := ?_) (a' := ?_) (rb8 [12, 37]) rfl rfl (qj0 HT_.out (by kernel_rfl)) (fun _ _ _ h => h) (Or.inl ⟨by rfl, ?_⟩) ?_ ?_
         rotate_left
         ·intro w'
          go_simp
          with_reducible rfl
         rotate_left
         ·simp only [Act.put, List.setIfInBounds_toArray, List.set_cons_zero, List.set_cons_succ, i64_w, i32_w]
          rfl
         refine pure_ (i := 12) (N := some 69) (v := ?_) (a' := ?_) (rb8 [13, 36]) rfl rfl (qj0 HT_.out (by kernel_rfl)) (fun _ _ _ h => h) (Or.inl ⟨by rfl, ?_⟩) ?_ ?_
         rotate_left
         ·intro w'
          go_simp
          with_reducible rfl
         rotate_left
         ·simp only [Act.put, List.setIfInBounds_toArray, List.set_cons_zero, List.set_cons_succ, i64_w, i32_w]
          rfl
         refine pure_ (i := 14) (N := some 71) (v := ?_) (a' := ?_) (rb8 [13, 1, 1, 34]) rfl rfl (qj0 HT_.out (by kernel_rfl)) (fun _ _ _ h => h) (Or.inl ⟨by rfl, ?_⟩) ?_ ?_
         rotate_left
         ·intro w'
          go_simp
          with_reducible rfl
         rotate_left
         ·simp only [Act.put, List.setIfInBounds_toArray, List.set_cons_zero, List.set_cons_succ, i64_w, i32_w]
          rfl
         refine pure_ (i := 15) (N := some 72) (v := ?_) (a' := ?_) (rb8 [13, 1, 2, 33]) rfl rfl (qj0 HT_.out (by kernel_rfl)) (fun _ _ _ h => h) (Or.inl ⟨by rfl, ?_⟩) ?_ ?_
         rotate_left
         ·intro w'
          go_simp
          with_reducible rfl
         rotate_left
         ·simp only [Act.put, List.setIfInBounds_toArray, List.set_cons_zero, List.set_cons_succ, i64_w, i32_w]
          rfl
         refine take_ (i := 13) (N := some 70) (v := ?_) (a' := ?_) (rb8 [16, 33]) rfl rfl (qo0 HT_.out HW_.out (by kernel_rfl)) (fun _ _ _ h => h) (Or.inl ⟨by rfl, ?_⟩) hHeld ?_ ?_
         rotate_left
         ·rintro w' ⟨s0, s1, s2, s3, s4, s5⟩
          go_simp
          with_reducible rfl
         rotate_left
         ·simp only [Act.put, List.setIfInBounds_toArray, List.set_cons_zero, List.set_cons_succ, i64_w, i32_w]
          rfl
         refine take_ (i := 16) (N := some 73) (v := ?_) (a' := ?_) (rb8 [17, 32]) rfl rfl (qo0 HT_.out HW_.out (by kernel_rfl)) (fun _ _ _ h => h) (Or.inl ⟨by rfl, ?_⟩) hHeld ?_ ?_
         rotate_left
         ·rintro w' ⟨s0, s1, s2, s3, s4, s5⟩
          go_simp
          with_reducible rfl
         rotate_left
         ·simp only [Act.put, List.setIfInBounds_toArray, List.set_cons_zero, List.set_cons_succ, i64_w, i32_w]
          rfl
         refine one_ (i := 17) (N := some 74) (rb8 [18, 31]) rfl rfl (qn1 HT_.out (by kernel_rfl)) (by decide) (fun K hK => ?_)
         (have hcv76 := Kd.Z_run (d := kz128) (k := ((rd_T53 l0_1 x53_3).f0)) kz128_K kz128_inj kz128_t 0 kz128_z HO_6.out (kz128_key ((rd_T53 l0_1 x53_3).f0) LMc52.out LMc53.out) false; simp only [kz128, ↓reduceIte, Bool.false_eq_true] at hcv76)
         (have hcvd := fun (n_ : Nat) => Kd.Z_run (d := kz128) (k := ((rd_T53 l0_1 x53_3).f0)) kz128_K kz128_inj kz128_t 0 kz128_z (Kd.Z_drewN HO_6.out n_) (kz128_key ((rd_T53 l0_1 x53_3).f0) LMc52.out LMc53.out) false; simp only [kz128, ↓reduceIte, Bool.false_eq_true] at hcvd)
         refine value_ (w1 := ?_) (v := ?_) (by rfl) rfl ?_ ?_
         rotate_left 2
         ·go_simp
          constructor
          ·rfl
          ·rfl
         clear hcvd
         clear hcv76
         refine hK.out _ _ ⟨(qg0 BK211.out 0).trans rfl, (qg0 BK211.out 1).trans rfl, (qg0 BK211.out 2).trans rfl, (qg0 BK211.out 3).trans rfl, (qg0 BK192.out 0).trans rfl, (qg0 BK192.out 1).trans rfl⟩ (fun hHeld => ?_)
         clear hK K
         refine norm_ (a' := ?_) ?_ ?_
         rotate_left
         ·show Act.put _ (some 74) _ = _
          simp only [Act.put, List.setIfInBounds_toArray, List.set_cons_zero, List.set_cons_succ, i64_w, i32_w]
          rfl
         refine pure_ (i := 18) (N := some 75) (v := ?_) (a' := ?_) (rb8 [19, 30]) rfl rfl (qj0 HT_.out (by kernel_rfl)) (fun _ _ _ h => h) (Or.inl ⟨by rfl, ?_⟩) ?_ ?_
         rotate_left
         ·intro w'
          go_simp
          with_reducible rfl
         rotate_left
         ·simp only [Act.put, List.setIfInBounds_toArray, List.set_cons_zero, List.set_cons_succ, i64_w, i32_w]
          rfl
         (try have c54b0 := AS_c54b0.out)
         (try have c54b1 := AS_c54b1.out)
         refine pure_ (i := 19) (N := some 76) (v := ?_) (a' := ?_) (rb8 [20, 29]) rfl rfl (qj0 HT_.out (by kernel_rfl)) (fun _ _ _ h => h) (Or.inl ⟨by rfl, ?_⟩) ?_ ?_
         rotate_left
         ·intro w'
          go_simp
          with_reducible rfl
         rotate_left
         ·simp only [Act.put, List.setIfInBounds_toArray, List.set_cons_zero, List.set_cons_succ, i64_w, i32_w]
          rfl
         (try clear c54b0)
         (try clear c54b1)
         refine pure_ (i := 20) (N := some 77) (v := ?_) (a' := ?_) (rb8 [21, 28]) rfl rfl (qj0 HT_.out (by kernel_rfl)) (fun _ _ _ h => h) (Or.inl ⟨by rfl, ?_⟩) ?_ ?_
         rotate_left
         ·intro w'
          go_simp
          with_reducible rfl
         rotate_left
         ·simp only [Act.put, List.setIfInBounds_toArray, List.set_cons_zero, List.set_cons_succ, i64_w, i32_w]
          rfl
         refine pure_ (i := 21) (N := some 78) (v := ?_) (a' := ?_) (rb8 [22, 27]) rfl rfl (qj0 HT_.out (by kernel_rfl)) (fun _ _ _ h => h) (Or.inl ⟨by rfl, ?_⟩) ?_ ?_
         rotate_left
         ·intro w'
          go_simp
          with_reducible rfl
         rotate_left
         ·simp only [Act.put, List.setIfInBounds_toArray, List.set_cons_zero, List.set_cons_succ, i64_w, i32_w]
          rfl
         refine pure_ (i := 22) (N := some 79) (v := undef) (a' := ?_) (rb8 [23, 26]) rfl rfl (qj0 HT_.out (by kernel_rfl)) (fun _ _ _ h => h) (Or.inr ⟨by rfl, rfl⟩) ?_ ?_
         rotate_left
         ·simp only [Act.put, List.setIfInBounds_toArray, List.set_cons_zero, List.set_cons_succ, i64_w, i32_w]
          rfl
         refine pure_ (i := 23) (N := some 80) (v := undef) (a' := ?_) (rb8 [24, 25]) rfl rfl (qj0 HT_.out (by kernel_rfl)) (fun _ _ _ h => h) (Or.inr ⟨by rfl, rfl⟩) ?_ ?_
         rotate_left
         ·simp only [Act.put, List.setIfInBounds_toArray, List.set_cons_zero, List.set_cons_succ, i64_w, i32_w]
          rfl
         refine pure_ (i := 24) (N := some 81) (v := undef) (a' := ?_) (rb8 [25, 24]) rfl rfl (qj0 HT_.out (by kernel_rfl)) (fun _ _ _ h => h) (Or.inr ⟨by rfl, rfl⟩) ?_ ?_
         rotate_left
         ·simp only [Act.put, List.setIfInBounds_toArray, List.set_cons_zero, List.set_cons_succ, i64_w, i32_w]
          rfl
         refine pure_ (i := 25) (N := some 82) (v := undef) (a' := ?_) (rb8 [26, 23]) rfl rfl (qj0 HT_.out (by kernel_rfl)) (fun _ _ _ h => h) (Or.inr ⟨by rfl, rfl⟩) ?_ ?_
         rotate_left
         ·simp only [Act.put, List.setIfInBounds_toArray, List.set_cons_zero, List.set_cons_succ, i64_w, i32_w]
          rfl
         refine pure_ (i := 26) (N := some 83) (v := undef) (a' := ?_) (rb8 [27, 22]) rfl rfl (qj0 HT_.out (by kernel_rfl)) (fun _ _ _ h => h) (Or.inr ⟨by rfl, rfl⟩) ?_ ?_
         rotate_left
         ·simp only [Act.put, List.setIfInBounds_toArray, List.set_cons_zero, List.set_cons_succ, i64_w, i32_w]
          rfl
         refine pure_ (i := 27) (N := some 84) (v := undef) (a' := ?_) (rb8 [28, 21]) rfl rfl (qj0 HT_.out (by kernel_rfl)) (fun _ _ _ h => h) (Or.inr ⟨by rfl, rfl⟩) ?_ ?_
         rotate_left
         ·simp only [Act.put, List.setIfInBounds_toArray, List.set_cons_zero, List.set_cons_succ, i64_w, i32_w]
          rfl
         refine pure_ (i := 28) (N := some 85) (v := undef) (a' := ?_) (rb8 [29, 20]) rfl rfl (qj0 HT_.out (by kernel_rfl)) (fun _ _ _ h => h) (Or.inr ⟨by rfl, rfl⟩) ?_ ?_
         rotate_left
         ·simp only [Act.put, List.setIfInBounds_toArray, List.set_cons_zero, List.set_cons_succ, i64_w, i32_w]
          rfl
         refine pure_ (i := 29) (N := some 86) (v := undef) (a' := ?_) (rb8 [30, 19]) rfl rfl (qj0 HT_.out (by kernel_rfl)) (fun _ _ _ h => h) (Or.inr ⟨by rfl, rfl⟩) ?_ ?_
         rotate_left
         ·simp only [Act.put, List.setIfInBounds_toArray, List.set_cons_zero, List.set_cons_succ, i64_w, i32_w]
          rfl
         refine pure_ (i := 30) (N := some 87) (v := undef) (a' := ?_) (rb8 [31, 18]) rfl rfl (qj0 HT_.out (by kernel_rfl)) (fun _ _ _ h => h) (Or.inr ⟨by rfl, rfl⟩) ?_ ?_
         rotate_left
         ·simp only [Act.put, List.setIfInBounds_toArray, List.set_cons_zero, List.set_cons_succ, i64_w, i32_w]
          rfl
         refine pure_ (i := 31) (N := some 88) (v := undef) (a' := ?_) (rb8 [32, 17]) rfl rfl (qj0 HT_.out (by kernel_rfl)) (fun _ _ _ h => h) (Or.inr ⟨by rfl, rfl⟩) ?_ ?_
         rotate_left
         ·simp only [Act.put, List.setIfInBounds_toArray, List.set_cons_zero, List.set_cons_succ, i64_w, i32_w]
          rfl
         refine pure_ (i := 32) (N := some 89) (v := undef) (a' := ?_) (rb8 [33, 16]) rfl rfl (qj0 HT_.out (by kernel_rfl)) (fun _ _ _ h => h) (Or.inr ⟨by rfl, rfl⟩) ?_ ?_
         rotate_left
         ·simp only [Act.put, List.setIfInBounds_toArray, List.set_cons_zero, List.set_cons_succ, i64_w, i32_w]
          rfl
         refine pure_ (i := 33) (N := some 90) (v := ?_) (a' := ?_) (rb8 [34, 15]) rfl rfl (qj0 HT_.out (by kernel_rfl)) (fun _ _ _ h => h) (Or.inl ⟨by rfl, ?_⟩) ?_ ?_
         rotate_left
         ·intro w'
          go_simp
          with_reducible rfl
         rotate_left
         ·simp only [Act.put, List.setIfInBounds_toArray, List.set_cons_zero, List.set_cons_succ, i64_w, i32_w]
          rfl
         refine pure_ (i := 34) (N := some 91) (v := ?_) (a' := ?_) (rb8 [35, 14]) rfl rfl (qj0 HT_.out (by kernel_rfl)) (fun _ _ _ h => h) (Or.inl ⟨by rfl, ?_⟩) ?_ ?_
         rotate_left
         ·intro w'
          go_simp
          with_reducible rfl
         rotate_left
         ·simp only [Act.put, List.setIfInBounds_toArray, List.set_cons_zero, List.set_cons_succ, i64_w, i32_w]
          rfl
         refine pure_ (i := 35) (N := some 92) (v := undef) (a' := ?_) (rb8 [36, 13]) rfl rfl (qj0 HT_.out (by kernel_rfl)) (fun _ _ _ h => h) (Or.inr ⟨by rfl, rfl⟩) ?_ ?_
         rotate_left
         ·simp only [Act.put, List.setIfInBounds_toArray, List.set_cons_zero, List.set_cons_succ, i64_w, i32_w]
          rfl
         refine pure_ (i := 36) (N := some 93) (v := undef) (a' := ?_) (rb8 [37, 12]) rfl rfl (qj0 HT_.out (by kernel_rfl)) (fun _ _ _ h => h) (Or.inr ⟨by rfl, rfl⟩) ?_ ?_
         rotate_left
         ·simp only [Act.put, List.setIfInBounds_toArray, List.set_cons_zero, List.set_cons_succ, i64_w, i32_w]
          rfl
         refine pure_ (i := 37) (N := some 94) (v := undef) (a' := ?_) (rb8 [38, 11]) rfl rfl (qj0 HT_.out (by kernel_rfl)) (fun _ _ _ h => h) (Or.inr ⟨by rfl, rfl⟩) ?_ ?_
         rotate_left
         ·simp only [Act.put, List.setIfInBounds_toArray, List.set_cons_zero, List.set_cons_succ, i64_w, i32_w]
          rfl
         refine pure_ (i := 38) (N := some 95) (v := undef) (a' := ?_) (rb8 [39, 10]) rfl rfl (qj0 HT_.out (by kernel_rfl)) (fun _ _ _ h => h) (Or.inr ⟨by rfl, rfl⟩) ?_ ?_
         rotate_left
         ·simp only [Act.put, List.setIfInBounds_toArray, List.set_cons_zero, List.set_cons_succ, i64_w, i32_w]
          rfl
         refine pure_ (i := 39) (N := some 96) (v := ?_) (a' := ?_) (rb8 [40, 9]) rfl rfl (qj0 HT_.out (by kernel_rfl)) (fun _ _ _ h => h) (Or.inl ⟨by rfl, ?_⟩) ?_ ?_
         rotate_left
         ·intro w'
          go_simp
          with_reducible rfl
         rotate_left
         ·simp only [Act.put, List.setIfInBounds_toArray, List.set_cons_zero, List.set_cons_succ, i64_w, i32_w]
          rfl
         refine pure_ (i := 40) (N := some 97) (v := ?_) (a' := ?_) (rb8 [41, 8]) rfl rfl (qj0 HT_.out (by kernel_rfl)) (fun _ _ _ h => h) (Or.inl ⟨by rfl, ?_⟩) ?_ ?_
         rotate_left
         ·intro w'
          go_simp
          with_reducible rfl
         rotate_left
         ·simp only [Act.put, List.setIfInBounds_toArray, List.set_cons_zero, List.set_cons_succ, i64_w, i32_w]
          rfl
         refine pure_ (i := 41) (N := some 98) (v := undef) (a' := ?_) (rb8 [42, 7]) rfl rfl (qj0 HT_.out (by kernel_rfl)) (fun _ _ _ h => h) (Or.inr ⟨by rfl, rfl⟩) ?_ ?_
         rotate_left
         ·simp only [Act.put, List.setIfInBounds_toArray, List.set_cons_zero, List.set_cons_succ, i64_w, i32_w]
          rfl
         refine pure_ (i := 42) (N := some 99) (v := undef) (a' := ?_) (rb8 [43, 6]) rfl rfl (qj0 HT_.out (by kernel_rfl)) (fun _ _ _ h => h) (Or.inr ⟨by rfl, rfl⟩) ?_ ?_
         rotate_left
         ·simp only [Act.put, List.setIfInBounds_toArray, List.set_cons_zero, List.set_cons_succ, i64_w, i32_w]
          rfl
         refine pure_ (i := 43) (N := some 100) (v := undef) (a' := ?_) (rb8 [44, 5]) rfl rfl (qj0 HT_.out (by kernel_rfl)) (fun _ _ _ h => h) (Or.inr ⟨by rfl, rfl⟩) ?_ ?_
         rotate_left
         ·simp only [Act.put, List.setIfInBounds_toArray, List.set_cons_zero, List.set_cons_succ, i64_w, i32_w]
          rfl
         refine pure_ (i := 44) (N := some 101) (v := undef) (a' := ?_) (rb8 [45, 4]) rfl rfl (qj0 HT_.out (by kernel_rfl)) (fun _ _ _ h => h) (Or.inr ⟨by rfl, rfl⟩) ?_ ?_
         rotate_left
         ·simp only [Act.put, List.setIfInBounds_toArray, List.set_cons_zero, List.set_cons_succ, i64_w, i32_w]
          rfl
         refine pure_ (i := 45) (N := some 102) (v := undef) (a' := ?_) (rb8 [46, 3]) rfl rfl (qj0 HT_.out (by kernel_rfl)) (fun _ _ _ h => h) (Or.inr ⟨by rfl, rfl⟩) ?_ ?_
         rotate_left
         ·simp only [Act.put, List.setIfInBounds_toArray, List.set_cons_zero, List.set_cons_succ, i64_w, i32_w]
          rfl
         refine pure_ (i := 46) (N := some 103) (v := undef) (a' := ?_) (rb8 [47, 2]) rfl rfl (qj0 HT_.out (by kernel_rfl)) (fun _ _ _ h => h) (Or.inr ⟨by rfl, rfl⟩) ?_ ?_
         rotate_left
         ·simp only [Act.put, List.setIfInBounds_toArray, List.set_cons_zero, List.set_cons_succ, i64_w, i32_w]
          rfl
         refine pure_ (i := 47) (N := some 104) (v := undef) (a' := ?_) (rb8 [48, 1]) rfl rfl (qj0 HT_.out (by kernel_rfl)) (fun _ _ _ h => h) (Or.inr ⟨by rfl, rfl⟩) ?_ ?_
         rotate_left
         ·simp only [Act.put, List.setIfInBounds_toArray, List.set_cons_zero, List.set_cons_succ, i64_w, i32_w]
          rfl
         refine pure_ (i := 48) (N := some 105) (v := ?_) (a' := ?_) (rb8 [49]) rfl rfl (qj0 HT_.out (by kernel_rfl)) (fun _ _ _ h => h) (Or.inl ⟨by rfl, ?_⟩) ?_ ?_
         rotate_left
         ·intro w'
          go_simp
          with_reducible rfl
         rotate_left
         ·simp only [Act.put, List.setIfInBounds_toArray, List.set_cons_zero, List.set_cons_succ, i64_w, i32_w]
          rfl
         refine done_ (ql1 HT_.out (by kernel_rfl)) ?_
         try go_wp2
         go_meet
         case rel => exact ⟨_, (true), (by first | rfl | (simp; done) | (simp [*]; done)), H', ⟨by have := HJ1.out; have := HK2.out; have := HK3.out; first | omega | exact Nat.le_refl _⟩, ⟨by (with_reducible repeat (first | apply Kd.Z_alloc | apply Kd.Z_drewN | apply Kd.Z_drew)); exact HO_6.out⟩, ⟨by (with_reducible repeat (first | apply Kd.Z_alloc | apply Kd.Z_drewN | apply Kd.Z_drew)); exact HO_7.out⟩, ⟨by (with_reducible repeat (first | refine qd0 ?_ _ | refine qh0 ?_ | refine qe0 ?_ _)); exact BK192.out⟩, ⟨by (with_reducible repeat (first | refine qd0 ?_ _ | refine qh0 ?_ | refine qe0 ?_ _)); exact BK211.out⟩, ⟨by repeat (first | (with_reducible first | exact HB.out | apply qc0 | apply qa0 | apply qb0 | refine qf0 ?_ GE192.out | refine qf0 ?_ GE211.out) | exact HB.out)⟩⟩
        case rest => as_aux_lemma =>
         clear HC42
         try clear p2
         try clear c5
         try clear p6
         try clear hcv7
         try clear c8
         try clear c52
         try clear c53
         try clear c54
         try clear c54b0
         try clear c54b1
         try clear p64
         try clear hcv76
         obtain ⟨kq, x105_41, rfl, HA, HJ41, HO_6, HO_7, BK192, BK211, HB⟩ := hcut
         cases kq with
         | zero => exact absurd HA.out (by simp [impl_RegisterOk.j4])
         | succ kj41 =>
          have H := HA.out
          clear HA
          simp only [impl_RegisterOk.j4] at H
          by_cases c77 : x105_41 = true
          ·subst c77
           have H1 : (some false) = some r := by rw [if_pos rfl] at H; exact H
           clear H
           have H := H1
           clear H1
           obtain rfl := Option.some.inj H
           go_wp2
           go_ret
           exact ⟨by first | rfl | (simp [errW_none, errW_some] <;> rfl) | (simp [*, errW_none, errW_some] <;> rfl), by repeat (first | (with_reducible first | exact HB.out | apply qc0 | apply qa0 | apply qb0 | refine qf0 ?_ GE192.out | refine qf0 ?_ GE211.out) | exact HB.out)⟩
          replace c77 := Bool.eq_false_iff.mpr c77
          subst c77
          have H1 : (if (-9223372036854775808) ≤ ((rd_T53 l0_1 x53_3).f0) then (if ((rd_T53 l0_1 x53_3).f0) ≤ 9223372036854775807 then (impl_RegisterOk.l1 kj41 (mset x6_3 ((rd_T53 l0_1 x53_3).f0) (wrap64 (((mget x6_3 ((rd_T53 l0_1 x53_3).f0)).getD 0) + 1))) (mset x7_3 ((rd_T53 l0_1 x53_3).f0) ((rd_T53 l0_1 x53_3).f2)) l0_1 (l0_1.length : Int) (wrap64 (x53_3 + 1)) l0_0 l0_1) else (none)) else (none)) = some r := by rw [if_neg (show ¬ (false = true) by decide)] at H; exact H
          clear H
          have H := H1
          clear H1
          by_cases c78 : (-9223372036854775808) ≤ ((rd_T53 l0_1 x53_3).f0)
          case neg => rw [if_neg c78] at H; exact absurd H (by simp)
          rw [if_pos c78] at H
          have LMc78 := Aside0.mk c78
          clear c78
          by_cases c79 : ((rd_T53 l0_1 x53_3).f0) ≤ 9223372036854775807
          case neg => rw [if_neg c79] at H; exact absurd H (by simp)
          rw [if_pos c79] at H
          have LMc79 := Aside0.mk c79
          clear c79
          obtain ⟨y215, hy215⟩ : ∃ y_ : List (Int × Int), y_ = (mset x6_3 ((rd_T53 l0_1 x53_3).f0) (wrap64 (((mget x6_3 ((rd_T53 l0_1 x53_3).f0)).getD 0) + 1))) := ⟨_, rfl⟩
          replace H : (impl_RegisterOk.l1 kj41 y215 (mset x7_3 ((rd_T53 l0_1 x53_3).f0) ((rd_T53 l0_1 x53_3).f2)) l0_1 (l0_1.length : Int) (wrap64 (x53_3 + 1)) l0_0 l0_1) = some r := by first | (rw [hy215]; with_reducible exact H) | (have H2_ := (Option.bind_some _ _).symm.trans H; rw [hy215]; with_reducible exact H2_) | (have H2_ := (Option.bind_some _ _).symm.trans H; with_reducible exact H2_) | with_reducible exact H | (rw [hy215]; exact H) | exact H
          have Ny215 := Aside0.mk hy215
          clear hy215
          obtain ⟨y216, hy216⟩ : ∃ y_ : List (Int × Int), y_ = (mset x7_3 ((rd_T53 l0_1 x53_3).f0) ((rd_T53 l0_1 x53_3).f2)) := ⟨_, rfl⟩
          replace H : (impl_RegisterOk.l1 kj41 y215 y216 l0_1 (l0_1.length : Int) (wrap64 (x53_3 + 1)) l0_0 l0_1) = some r := by first | (rw [hy216]; with_reducible exact H) | (have H2_ := (Option.bind_some _ _).symm.trans H; rw [hy216]; with_reducible exact H2_) | (have H2_ := (Option.bind_some _ _).symm.trans H; with_reducible exact H2_) | with_reducible exact H | (rw [hy216]; exact H) | exact H
          have Ny216 := Aside0.mk hy216
          clear hy216
          have H' := Aside0.mk H
          clear H
          have hnb80 := NB211_192.out
          have hnc80 := NB192_211.out
          have hcz81_0 : wc.cell? ⟨gb211, 0, none⟩ = some (.int .i64 ((rd_T53 l0_1 x53_3).f0)) := (qg0 BK211.out 0).trans rfl
          have hcz81_1 : wc.cell? ⟨gb211, 1, none⟩ = some (.int .i64 ((rd_T53 l0_1 x53_3).f1)) := (qg0 BK211.out 1).trans rfl
          have hcz81_2 : wc.cell? ⟨gb211, 2, none⟩ = some (.int .i64 ((rd_T53 l0_1 x53_3).f2)) := (qg0 BK211.out 2).trans rfl
          have hcz81_3 : wc.cell? ⟨gb211, 3, none⟩ = some (.bool ((rd_T53 l0_1 x53_3).f3)) := (qg0 BK211.out 3).trans rfl
          have hfz81_0 := qi0 BK211.out 0
          have hfz81_1 := qi0 BK211.out 1
          have hfz81_2 := qi0 BK211.out 2
          have hfz81_3 := qi0 BK211.out 3
          have TK215 := Ny215
          have TK216 := Ny216
          go_wp2_with (first | ((with_reducible refine qs0 (N := 109) rfl ?_); (try (refine gate_guard (by rfl) ?_; dsimp only)); refine Kd.Z_look_op (base := w.heap.size) (ok := fun _ => True) kz128 128 rfl rfl _ _ 128 rfl kz128_K kz128_inj kz128_t 0 kz128_z mb205 x6_3 ((rd_T53 l0_1 x53_3).f0) rfl rfl (kz128_key ((rd_T53 l0_1 x53_3).f0) LMc78.out LMc79.out) ?aO (.int .i64 ((mget x6_3 ((rd_T53 l0_1 x53_3).f0)).getD 0)) rfl ?_; (case aO => exact (by (with_reducible repeat (first | apply Kd.Z_alloc | apply Kd.Z_drewN | apply Kd.Z_drew)); exact HO_6.out))) | (clear TK215; (with_reducible refine gate_mapset (t := 128) rfl ?_); refine Kd.Z_set_op (base := w.heap.size) (ok := fun _ => True) kz128 128 rfl rfl _ _ _ 128 rfl rfl kz128_K kz128_inj kz128_t mb205 x6_3 ((rd_T53 l0_1 x53_3).f0) (wrap64 (((mget x6_3 ((rd_T53 l0_1 x53_3).f0)).getD 0) + 1)) rfl rfl rfl (kz128_key ((rd_T53 l0_1 x53_3).f0) LMc78.out LMc79.out) ?aO ?_; (case aO => exact (by (with_reducible repeat (first | apply Kd.Z_alloc | apply Kd.Z_drewN | apply Kd.Z_drew)); exact HO_6.out)); intro w82 ho_ hg hbb_ hz_; rw [← Ny215.out] at ho_; have n0_ := Aside0.mk (ho_); have n1_ := Aside0.mk (Kd.Z_overZ (by (with_reducible repeat (first | apply Kd.Z_alloc | apply Kd.Z_drewN | apply Kd.Z_drew)); exact HO_7.out) HZmb209_mb205.out hg); have n2_ := Aside0.mk (blk_grown (g := gb192) (o := .cells #[.slice A0_0 l0_0.length c0_0, .slice (some ad210) l0_1.length c0_1] 42 (0, 0)) (by (with_reducible repeat (first | refine qd0 ?_ _ | refine qh0 ?_ | refine qe0 ?_ _)); exact BK192.out) hg (blk_neZ (by (with_reducible repeat (first | refine qd0 ?_ _ | refine qh0 ?_ | refine qe0 ?_ _)); exact BK192.out) hz_)); have n3_ := Aside0.mk (blk_grown (g := gb211) (o := .cells #[.int .i64 ((rd_T53 l0_1 x53_3).f0), .int .i64 ((rd_T53 l0_1 x53_3).f1), .int .i64 ((rd_T53 l0_1 x53_3).f2), .bool ((rd_T53 l0_1 x53_3).f3)] 53 (0, 0)) (by (with_reducible repeat (first | refine qd0 ?_ _ | refine qh0 ?_ | refine qe0 ?_ _)); exact BK211.out) hg (blk_neZ (by (with_reducible repeat (first | refine qd0 ?_ _ | refine qh0 ?_ | refine qe0 ?_ _)); exact BK211.out) hz_)); have n4_ := Aside0.mk (pw_below_grown (by repeat (first | (with_reducible first | exact HB.out | apply qc0 | apply qa0 | apply qb0 | refine qf0 ?_ GE192.out | refine qf0 ?_ GE211.out) | exact HB.out)) (some mb205) (qk0 (by repeat (first | (with_reducible first | exact HB.out | apply qc0 | apply qa0 | apply qb0 | refine qf0 ?_ GE192.out | refine qf0 ?_ GE211.out) | exact HB.out))) hg (fun k_ e_ => by cases e_; exact hbb_)); clear HO_6; clear HO_7; clear BK192; clear BK211; clear HB; have HO_6 := n0_; have HO_7 := n1_; have BK192 := n2_; have BK211 := n3_; have HB := n4_; clear n0_ n1_ n2_ n3_ n4_; clear ho_ hg hbb_ hz_; have hcz83_0 : w82.cell? ⟨gb211, 0, none⟩ = some (.int .i64 ((rd_T53 l0_1 x53_3).f0)) := (qg0 BK211.out 0).trans rfl; have hcz83_1 : w82.cell? ⟨gb211, 1, none⟩ = some (.int .i64 ((rd_T53 l0_1 x53_3).f1)) := (qg0 BK211.out 1).trans rfl; have hcz83_2 : w82.cell? ⟨gb211, 2, none⟩ = some (.int .i64 ((rd_T53 l0_1 x53_3).f2)) := (qg0 BK211.out 2).trans rfl; have hcz83_3 : w82.cell? ⟨gb211, 3, none⟩ = some (.bool ((rd_T53 l0_1 x53_3).f3)) := (qg0 BK211.out 3).trans rfl; have hfz83_0 := qi0 BK211.out 0; have hfz83_1 := qi0 BK211.out 1; have hfz83_2 := qi0 BK211.out 2; have hfz83_3 := qi0 BK211.out 3) | (clear TK216; (with_reducible refine gate_mapset (t := 128) rfl ?_); refine Kd.Z_set_op (base := w.heap.size) (ok := fun _ => True) kz128 128 rfl rfl _ _ _ 128 rfl rfl kz128_K kz128_inj kz128_t mb209 x7_3 ((rd_T53 l0_1 x53_3).f0) ((rd_T53 l0_1 x53_3).f2) rfl rfl rfl (kz128_key ((rd_T53 l0_1 x53_3).f0) LMc78.out LMc79.out) ?aO ?_; (case aO => exact (by (with_reducible repeat (first | apply Kd.Z_alloc | apply Kd.Z_drewN | apply Kd.Z_drew)); exact HO_7.out)); intro w84 ho_ hg hbb_ hz_; rw [← Ny216.out] at ho_; have n0_ := Aside0.mk (Kd.Z_overZ (by (with_reducible repeat (first | apply Kd.Z_alloc | apply Kd.Z_drewN | apply Kd.Z_drew)); exact HO_6.out) HZmb205_mb209.out hg); have n1_ := Aside0.mk (ho_); have n2_ := Aside0.mk (blk_grown (g := gb192) (o := .cells #[.slice A0_0 l0_0.length c0_0, .slice (some ad210) l0_1.length c0_1] 42 (0, 0)) (by (with_reducible repeat (first | refine qd0 ?_ _ | refine qh0 ?_ | refine qe0 ?_ _)); exact BK192.out) hg (blk_neZ (by (with_reducible repeat (first | refine qd0 ?_ _ | refine qh0 ?_ | refine qe0 ?_ _)); exact BK192.out) hz_)); have n3_ := Aside0.mk (blk_grown (g := gb211) (o := .cells #[.int .i64 ((rd_T53 l0_1 x53_3).f0), .int .i64 ((rd_T53 l0_1 x53_3).f1), .int .i64 ((rd_T53 l0_1 x53_3).f2), .bool ((rd_T53 l0_1 x53_3).f3)] 53 (0, 0)) (by (with_reducible repeat (first | refine qd0 ?_ _ | refine qh0 ?_ | refine qe0 ?_ _)); exact BK211.out) hg (blk_neZ (by (with_reducible repeat (first | refine qd0 ?_ _ | refine qh0 ?_ | refine qe0 ?_ _)); exact BK211.out) hz_)); have n4_ := Aside0.mk (pw_below_grown (by repeat (first | (with_reducible first | exact HB.out | apply qc0 | apply qa0 | apply qb0 | refine qf0 ?_ GE192.out | refine qf0 ?_ GE211.out) | exact HB.out)) (some mb209) (qk0 (by repeat (first | (with_reducible first | exact HB.out | apply qc0 | apply qa0 | apply qb0 | refine qf0 ?_ GE192.out | refine qf0 ?_ GE211.out) | exact HB.out))) hg (fun k_ e_ => by cases e_; exact hbb_)); clear HO_6; clear HO_7; clear BK192; clear BK211; clear HB; have HO_6 := n0_; have HO_7 := n1_; have BK192 := n2_; have BK211 := n3_; have HB := n4_; clear n0_ n1_ n2_ n3_ n4_; clear ho_ hg hbb_ hz_))
          go_roundg kj41
          case measure => have := HJ1.out; have := HK2.out; have := HK3.out; have := HJ41.out; omega
          case rel => exact ⟨(y215), (y216), (wrap64 (x53_3 + 1)), (by first | rfl | (simp; done) | (simp [*]; done)), H', ⟨by have := HJ1.out; have := HK2.out; have := HK3.out; have := HJ41.out; omega⟩, ⟨by (with_reducible repeat (first | apply Kd.Z_alloc | apply Kd.Z_drewN | apply Kd.Z_drew)); exact HO_6.out⟩, ⟨by (with_reducible repeat (first | apply Kd.Z_alloc | apply Kd.Z_drewN | apply Kd.Z_drew)); exact HO_7.out⟩, ⟨by (with_reducible repeat (first | refine qd0 ?_ _ | refine qh0 ?_ | refine qe0 ?_ _)); exact BK192.out⟩, ⟨by repeat (first | (with_reducible first | exact HB.out | apply qc0 | apply qa0 | apply qb0 | refine qf0 ?_ GE192.out | refine qf0 ?_ GE211.out) | exact HB.out)⟩⟩
       rw [if_neg c39] at H
       have c39b0 : decide (x53_3 < (l0_1.length : Int)) = false := decide_eq_false c39
       clear c39
       obtain rfl := Option.some.inj H
       go_wp2
       go_ret
       exact ⟨by first | rfl | (simp [errW_none, errW_some] <;> rfl) | (simp [*, errW_none, errW_some] <;> rfl), by repeat (first | (with_reducible first | exact HB.out | apply qc0 | apply qa0 | apply qb0 | refine qf0 ?_ GE192.out) | exact HB.out)⟩

end Go.Proofs.Ytdnhpicgjkddbaa.PFnExactFindPaper
