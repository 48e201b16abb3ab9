/- Lines by a program (a changed copy of the kit's print: this repo's wip/tools): Go functions as Lean functions, and proofs that the calls answer so. -/
import Derived.Test.YtkkdmmefnicmaaaZPFnChainedx0
import Derived.Test.YtkkdmmefnicmaaaZPFnChainedx1
import Derived.Test.YtkkdmmefnicmaaaZPFnChainedx2
import Derived.Test.YtkkdmmefnicmaaaZPFnChainedx7
namespace Go.Proofs.Ytkkdmmefnicmaaa.PFnChained
open Go.RowKit Go.Proofs.YtkkdmmefnicmaaaW.PrintWords Go.Proofs.YtkkdmmefnicmaaaW.PrintLast Go.Proofs.YtkkdmmefnicmaaaW.PrintMore
/-- Closing blocks told once. -/
theorem z8_0 {P : Prop} (h : P := by repeat (first | (with_reducible first | exact HK.out | apply qc0.set_ | apply qf1 | apply qh1 | apply qg1 | refine qp1 ?_ GW301.out _ | refine qp1 ?_ GW302.out _ | refine qp1 ?_ GW303.out _) | exact HK.out)) : P := h
theorem z8_1 {P : Prop} (h : P := by repeat (first | (with_reducible first | exact HI0.out | apply IsS186.alloc | apply IsS186.drewN | apply IsS186.drew | apply IsS186.set_1 | apply IsS186.set_2 | refine IsS186.far ?_ NB0_301.out _ | refine IsS186.far ?_ NB0_302.out _ | refine IsS186.far ?_ NB0_303.out _) | exact HI0.out)) : P := h
theorem z8_2 {P : Prop} (h : P := by repeat (first | (with_reducible first | exact HB.out | apply qj0 | apply qh0 | apply qi0 | refine qk0 ?_ (IsS186.ge HI0.out) | refine qk0 ?_ GE301.out | refine qk0 ?_ GE302.out | refine qk0 ?_ GE303.out) | exact HB.out)) : P := h
theorem z8_3 {P : Prop} (h : P := by repeat (first | (with_reducible first | exact HI0.out | apply IsS186.alloc | apply IsS186.drewN | apply IsS186.drew | apply IsS186.set_1 | apply IsS186.set_2) | exact HI0.out)) : P := h
theorem z8_4 {P : Prop} (h : P := by (with_reducible repeat (first | refine qe0 ?_ _ | refine qf0 ?_ | refine qd0 ?_ _)); exact BK301.out) : P := h
theorem z8_5 {P : Prop} (h : P := by repeat (first | (with_reducible first | exact HK.out | apply qc0.set_ | apply qf1 | apply qh1 | apply qg1) | exact HK.out)) : P := h
theorem z8_6 {P : Prop} (h : P := by repeat (first | (with_reducible first | exact HI0.out | apply IsS186.alloc | apply IsS186.drewN | apply IsS186.drew | apply IsS186.set_1 | apply IsS186.set_2 | refine IsS186.far ?_ NB0_301.out _ | refine IsS186.far ?_ NB0_302.out _) | exact HI0.out)) : P := h
theorem z8_7 {P : Prop} (h : P := by (with_reducible repeat (first | refine qe0 ?_ _ | refine qf0 ?_ | refine qd0 ?_ _)); exact BK302.out) : P := h
theorem z8_8 {P : Prop} (h : P := by repeat (first | (with_reducible first | exact HB.out | apply qj0 | apply qh0 | apply qi0 | refine qk0 ?_ (IsS186.ge HI0.out)) | exact HB.out)) : P := h
theorem z8_9 {P : Prop} (h : P := by (try simp only [List.map_toArray, List.map_cons, List.map_nil]); first | done | rfl | (simp only [List.length_drop, List.length_take]; rfl)) : P := h
theorem z8_10 {P : Prop} (h : P := by repeat (first | (with_reducible first | exact HB.out | apply qj0 | apply qh0 | apply qi0) | exact HB.out)) : P := h
theorem z8_11 {P : Prop} (h : P := by repeat (first | (with_reducible first | exact HI0.out | apply IsS186.alloc | apply IsS186.drewN | apply IsS186.drew | apply IsS186.set_1 | apply IsS186.set_2 | refine IsS186.far ?_ NB0_301.out _) | exact HI0.out)) : P := h
theorem z8_12 {P : Prop} (h : P := by repeat (first | (with_reducible first | exact HK.out | apply qc0.set_ | apply qf1 | apply qh1 | apply qg1 | refine qp1 ?_ GW301.out _ | refine qp1 ?_ GW302.out _) | exact HK.out)) : P := h
theorem z8_13 {P : Prop} (h : P := by rw [hg]; exact (qx0 (w := w) (g := g) (row := none) (by repeat (first | (with_reducible first | exact HK.out | apply qc0.set_ | apply qf1 | apply qh1 | apply qg1 | refine qp1 ?_ GW301.out _ | refine qp1 ?_ GW302.out _) | exact HK.out)))) : P := h
theorem z8_14 {P : Prop} (h : P := by repeat (first | (with_reducible first | exact HK.out | apply qc0.set_ | apply qf1 | apply qh1 | apply qg1 | refine qp1 ?_ GW301.out _) | exact HK.out)) : P := h
theorem z8_15 {P : Prop} (h : P := by rw [hg]; exact Nat.ne_of_lt (blk_lt (g := gb301) (o := .cells #[.slice A1_0 l1_0.length c1_0, .int .i64 a1_1, .int .i64 a1_2] 174 (0, 0)) (by (with_reducible repeat (first | refine qe0 ?_ _ | refine qf0 ?_ | refine qd0 ?_ _)); exact BK301.out))) : P := h
theorem z8_16 {P : Prop} (h : P := by rw [hg]; exact Nat.ne_of_gt (blk_lt (g := gb301) (o := .cells #[.slice A1_0 l1_0.length c1_0, .int .i64 a1_1, .int .i64 a1_2] 174 (0, 0)) (by (with_reducible repeat (first | refine qe0 ?_ _ | refine qf0 ?_ | refine qd0 ?_ _)); exact BK301.out))) : P := h
theorem z8_17 {P : Prop} (h : P := by rw [hg]; exact (qx0 (w := w) (g := g) (row := none) (by repeat (first | (with_reducible first | exact HK.out | apply qc0.set_ | apply qf1 | apply qh1 | apply qg1 | refine qp1 ?_ GW301.out _) | exact HK.out)))) : P := h
theorem z8_18 {P : Prop} (h : P := by rw [hg]; exact (qx0 (w := w) (g := g) (row := none) (by repeat (first | (with_reducible first | exact HK.out | apply qc0.set_ | apply qf1 | apply qh1 | apply qg1) | exact HK.out)))) : P := h
theorem z8_19 {P : Prop} (h : P := by first | rfl | (simp [errW_none, errW_some] <;> rfl) | (simp [*, errW_none, errW_some] <;> rfl)) : P := h
theorem z8_20 {P : Prop} (h : P := by (with_reducible repeat (first | refine qe0 ?_ _ | refine qf0 ?_ | refine qd0 ?_ _)); exact BK303.out) : P := h
theorem z8_21 {P : Prop} (h : P := by kernel_rfl) : P := h
attribute [local go_sem] max2_int min2_int max_two min_two max_three min_three max_four min_four   -- for this text's walks alone
set_option linter.unusedVariables false
set_option linter.unusedSimpArgs false

/-! ### spec_l5DrawLedger: function 122 -/
def spec_l5DrawLedger.l0 : Nat → Int → List Int → Int → Int → List (S209) → Int → Int → List (S98) → Int → Option ((List (S98)) × Int × Int × Int)
 | 0, _, _, _, _, _, _, _, _, _ => none
 | k + 1, x2, x1000, x1001, x1002, x302000, x302001, x302002, x304000, x304001 => if x2 > 0 then ((spec_l5DrawEntry.f k x1000 x1001 x1002 x302000 x302001 x302002).bind fun bt304 => (if x304000.length < 2513169434916 then (spec_l5DrawLedger.l0 k (wrap64 (x2 - 1)) x1000 bt304.2.2.2.2.1 bt304.2.2.2.2.2 x302000 x302001 x302002 (x304000 ++ [(⟨bt304.1, bt304.2.1, bt304.2.2.1, bt304.2.2.2.1⟩ : S98)]) x304001) else (none))) else ((spec_HeadOf.f k x304000).bind fun t315 => (some (x304000, t315, x1001, x1002)))
def spec_l5DrawLedger.f (k : Nat) (s0_0 : List Int) (s0_1 : Int) (s0_2 : Int) (l1_0 : List (S209)) (a1_1 : Int) (a1_2 : Int) (a2 : Int) : Option ((List (S98)) × Int × Int × Int) := spec_l5DrawLedger.l0 k a2 s0_0 s0_1 s0_2 l1_0 a1_1 a1_2 ([] : List (S98)) 1
theorem spec_l5DrawLedger.mono_l : ∀ k, (∀ y0 y1 y2 y3 y4 y5 y6 y7 y8, LeO (spec_l5DrawLedger.l0 k y0 y1 y2 y3 y4 y5 y6 y7 y8) (spec_l5DrawLedger.l0 (k + 1) y0 y1 y2 y3 y4 y5 y6 y7 y8))
 | 0 => fun _ _ _ _ _ _ _ _ _ r h => by simp [spec_l5DrawLedger.l0] at h
 | k + 1 => by
  have ih0 := spec_l5DrawLedger.mono_l k
  ·intro y0 y1 y2 y3 y4 y5 y6 y7 y8
   unfold spec_l5DrawLedger.l0
   repeat' first
   | (with_reducible exact ih0 _ _ _ _ _ _ _ _ _)
   | (with_reducible exact spec_HeadOf.mono _ _)
   | (with_reducible exact spec_l5DrawEntry.mono _ _ _ _ _ _ _)
   | (with_reducible exact LeO.refl _)
   | (with_reducible exact LeO.none _)
   | (with_reducible refine LeO.ite ?_ ?_)
   | (with_reducible refine LeO.bind ?_ (fun _ => ?_))
   | exact ih0 _ _ _ _ _ _ _ _ _
   | exact spec_HeadOf.mono _ _
   | exact spec_l5DrawEntry.mono _ _ _ _ _ _ _
   | exact LeO.none _
   | refine LeO.ite ?_ ?_
   | refine LeO.bind ?_ (fun _ => ?_)
theorem spec_l5DrawLedger.mono : ∀ a0 a1 a2 a3 a4 a5 a6 k, LeO (spec_l5DrawLedger.f k a0 a1 a2 a3 a4 a5 a6) (spec_l5DrawLedger.f (k + 1) a0 a1 a2 a3 a4 a5 a6) := by
 intro a0 a1 a2 a3 a4 a5 a6 k
 have ih0 := spec_l5DrawLedger.mono_l k
 unfold spec_l5DrawLedger.f
 repeat' first
   | (with_reducible exact ih0 _ _ _ _ _ _ _ _ _)
   | (with_reducible exact spec_HeadOf.mono _ _)
   | (with_reducible exact spec_l5DrawEntry.mono _ _ _ _ _ _ _)
   | (with_reducible exact LeO.refl _)
   | (with_reducible exact LeO.none _)
   | (with_reducible refine LeO.ite ?_ ?_)
   | (with_reducible refine LeO.bind ?_ (fun _ => ?_))
   | exact ih0 _ _ _ _ _ _ _ _ _
   | exact spec_HeadOf.mono _ _
   | exact spec_l5DrawEntry.mono _ _ _ _ _ _ _
   | exact LeO.none _
   | refine LeO.ite ?_ ?_
   | refine LeO.bind ?_ (fun _ => ?_)
def spec_l5DrawLedger.T4 : Bool × List (List Nat × List Nat) := (true, [([], []), ([0], [0]), ([], []), ([], []), ([2, 3], [2, 3]), ([4], [4]), ([1, 5, 4], [1, 5]), ([0, 1, 2, 3, 4, 5, 6], []), ([7, 6, 6, 0, 1, 2, 3, 4, 5, 6], [6, 7])])
def spec_l5DrawLedger.B4 : List Nat := [0, 1, 0, 0, 12, 28, 63, 127, 255]
theorem spec_l5DrawLedger.tab4 : rtab .any (opsOf Try.f122 4) = spec_l5DrawLedger.T4 := by kernel_rfl
theorem spec_l5DrawLedger.bits4 : waitsOk spec_l5DrawLedger.T4.2 spec_l5DrawLedger.B4 = true := by kernel_rfl
set_option maxHeartbeats 8000000 in
set_option maxRecDepth 100000 in
theorem spec_l5DrawLedger.calls (k : Nat) (g : Nat) (s0_0 : List Int) (s0_1 : Int) (s0_2 : Int) (A1_0 : Option Addr) (c1_0 : Nat) (l1_0 : List (S209)) (a1_1 : Int) (a1_2 : Int) (a2 : Int) (r1 : List (S98)) (r2 : Int) (r3 : Int) (r4 : Int) (w0 w : World) (hI : IsS186 w0 w g s0_0 s0_1 s0_2) (hB : Below w0.heap.size w0 w) (hr1_0 : ∀ W_, qc0 w W_ g none → Kd.C k209 W_ A1_0 l1_0.length l1_0) (hc1_0 : l1_0.length ≤ c1_0) (h : spec_l5DrawLedger.f k s0_0 s0_1 s0_2 l1_0 a1_1 a1_2 a2 = some (r1, r2, r3, r4)) :
  Calls Try.prog 122 #[.pointer (some ⟨g, 0, none⟩), .agg #[.slice A1_0 l1_0.length c1_0, .int .i64 a1_1, .int .i64 a1_2], .int .i64 a2] w fun e w' => ∃ v0_ : Value, e = .returned (.agg #[v0_, .int .i64 r2]) ∧ Kd.S k98 98 w' w.heap.size (fun _ => True) v0_ r1 ∧ IsS186 w0 w' g s0_0 r3 r4 ∧ Below w0.heap.size w0 w' ∧ qc0 w w' g none := by
 have hu174 := Try.underlying174
 have hu169 := Try.underlying169
 have HR1_0 := Aside0.mk hr1_0
 have HC1_0 := Aside0.mk hc1_0
 clear hr1_0 hc1_0
 have HI0 := Aside0.mk hI
 have HK := Aside0.mk (qc0.refl w g none)
 have HL := Aside0.mk hB.size
 clear hI
 have HW0 := Aside0.mk hB.size
 have HB := Aside0.mk hB
 clear hB
 have H : (spec_l5DrawLedger.l0 k a2 s0_0 s0_1 s0_2 l1_0 a1_1 a1_2 ([] : List (S98)) 1) = some (r1, r2, r3, r4) := h
 clear h
 have H' := Aside0.mk H
 clear H
 go_enter Try.func122, Try.ntmps122
 go_wp2_with (first | ((with_reducible refine qa1 (N := 4) rfl ?_); refine qe1 ?hg (N := 4) ?hd (cs := #[.slice A1_0 l1_0.length c1_0, .int .i64 a1_1, .int .i64 a1_2]) (t := 174) ?hr ?_; (case hd => rfl); (case hg => rfl); (case hr => first | (go_simp; done) | (go_simp; rfl)); intro gb301 hg w4 hbox hb; have n0_ := Aside0.mk (IsS186.below z8_3 hb); have n1_ := Aside0.mk (qc0.trans z8_5 (qc0.of_below hb g none) (.inl rfl)); have n2_ := Aside0.mk (ql0 z8_8 hb); have n3_ := Aside0.mk (hbox); have n4_ := Aside0.mk ((z8_18 : w.heap.size ≤ gb301)); have n5_ := Aside0.mk ((Nat.le_trans HW0.out (z8_18 : w.heap.size ≤ gb301) : w0.heap.size ≤ gb301)); have n6_ := Aside0.mk ((by rw [hg]; exact Nat.ne_of_lt (IsS186.lt (show IsS186 w0 _ g s0_0 s0_1 s0_2 from z8_3)) : g ≠ gb301)); have n7_ := Aside0.mk ((by rw [hg]; exact Nat.ne_of_gt (IsS186.lt (show IsS186 w0 _ g s0_0 s0_1 s0_2 from z8_3)) : gb301 ≠ g)); clear HI0; clear HK; clear HB; have HI0 := n0_; have HK := n1_; have HB := n2_; have BK301 := n3_; have GW301 := n4_; have GE301 := n5_; have NB0_301 := n6_; have NB301_0 := n7_; clear n0_ n1_ n2_ n3_ n4_ n5_ n6_ n7_; clear hb hbox hg) | ((with_reducible refine qa1 (N := 6) rfl ?_); refine qe1 ?hg (N := 6) ?hd (cs := #[.slice none 0 0, .int .i64 0]) (t := 169) ?hr ?_; (case hd => rfl); (case hg => rfl); (case hr => first | (go_simp; done) | (go_simp; rfl)); intro gb302 hg w5 hbox hb; have n0_ := Aside0.mk (IsS186.below z8_11 hb); have n1_ := Aside0.mk (qz0 (g := gb301) (o := .cells #[.slice A1_0 l1_0.length c1_0, .int .i64 a1_1, .int .i64 a1_2] 174 (0, 0)) z8_4 hb); have n2_ := Aside0.mk (qc0.trans z8_14 (qc0.of_below hb g none) (.inl rfl)); have n3_ := Aside0.mk (ql0 (by repeat (first | (with_reducible first | exact HB.out | apply qj0 | apply qh0 | apply qi0 | refine qk0 ?_ (IsS186.ge HI0.out) | refine qk0 ?_ GE301.out) | exact HB.out)) hb); have n4_ := Aside0.mk (hbox); have n5_ := Aside0.mk ((z8_17 : w.heap.size ≤ gb302)); have n6_ := Aside0.mk ((Nat.le_trans HW0.out (z8_17 : w.heap.size ≤ gb302) : w0.heap.size ≤ gb302)); have n7_ := Aside0.mk ((z8_15 : gb301 ≠ gb302)); have n8_ := Aside0.mk ((z8_16 : gb302 ≠ gb301)); have n9_ := Aside0.mk ((by rw [hg]; exact Nat.ne_of_lt (IsS186.lt (show IsS186 w0 _ g s0_0 s0_1 s0_2 from z8_11)) : g ≠ gb302)); have n10_ := Aside0.mk ((by rw [hg]; exact Nat.ne_of_gt (IsS186.lt (show IsS186 w0 _ g s0_0 s0_1 s0_2 from z8_11)) : gb302 ≠ g)); clear HI0; clear BK301; clear HK; clear HB; have HI0 := n0_; have BK301 := n1_; have HK := n2_; have HB := n3_; have BK302 := n4_; have GW302 := n5_; have GE302 := n6_; have NB301_302 := n7_; have NB302_301 := n8_; have NB0_302 := n9_; have NB302_0 := n10_; clear n0_ n1_ n2_ n3_ n4_ n5_ n6_ n7_ n8_ n9_ n10_; clear hb hbox hg) | ((with_reducible refine qa1 (N := 7) rfl ?_); refine qe1 ?hg (N := 7) ?hd (cs := #[.slice none 0 0, .int .i64 0]) (t := 169) ?hr ?_; (case hd => rfl); (case hg => rfl); (case hr => first | (go_simp; done) | (go_simp; rfl)); intro gb303 hg w6 hbox hb; have n0_ := Aside0.mk (IsS186.below z8_6 hb); have n1_ := Aside0.mk (qz0 (g := gb301) (o := .cells #[.slice A1_0 l1_0.length c1_0, .int .i64 a1_1, .int .i64 a1_2] 174 (0, 0)) z8_4 hb); have n2_ := Aside0.mk (qz0 (g := gb302) (o := .cells #[.slice none 0 0, .int .i64 0] 169 (0, 0)) z8_7 hb); have n3_ := Aside0.mk (qc0.trans z8_12 (qc0.of_below hb g none) (.inl rfl)); have n4_ := Aside0.mk (ql0 (by repeat (first | (with_reducible first | exact HB.out | apply qj0 | apply qh0 | apply qi0 | refine qk0 ?_ (IsS186.ge HI0.out) | refine qk0 ?_ GE301.out | refine qk0 ?_ GE302.out) | exact HB.out)) hb); have n5_ := Aside0.mk (hbox); have n6_ := Aside0.mk ((z8_13 : w.heap.size ≤ gb303)); have n7_ := Aside0.mk ((Nat.le_trans HW0.out (z8_13 : w.heap.size ≤ gb303) : w0.heap.size ≤ gb303)); have n8_ := Aside0.mk ((z8_15 : gb301 ≠ gb303)); have n9_ := Aside0.mk ((z8_16 : gb303 ≠ gb301)); have n10_ := Aside0.mk ((by rw [hg]; exact Nat.ne_of_lt (blk_lt (g := gb302) (o := .cells #[.slice none 0 0, .int .i64 0] 169 (0, 0)) z8_7) : gb302 ≠ gb303)); have n11_ := Aside0.mk ((by rw [hg]; exact Nat.ne_of_gt (blk_lt (g := gb302) (o := .cells #[.slice none 0 0, .int .i64 0] 169 (0, 0)) z8_7) : gb303 ≠ gb302)); have n12_ := Aside0.mk ((by rw [hg]; exact Nat.ne_of_lt (IsS186.lt (show IsS186 w0 _ g s0_0 s0_1 s0_2 from z8_6)) : g ≠ gb303)); have n13_ := Aside0.mk ((by rw [hg]; exact Nat.ne_of_gt (IsS186.lt (show IsS186 w0 _ g s0_0 s0_1 s0_2 from z8_6)) : gb303 ≠ g)); clear HI0; clear BK301; clear BK302; clear HK; clear HB; have HI0 := n0_; have BK301 := n1_; have BK302 := n2_; have HK := n3_; have HB := n4_; have BK303 := n5_; have GW303 := n6_; have GE303 := n7_; have NB301_303 := n8_; have NB303_301 := n9_; have NB302_303 := n10_; have NB303_302 := n11_; have NB0_303 := n12_; have NB303_0 := n13_; clear n0_ n1_ n2_ n3_ n4_ n5_ n6_ n7_ n8_ n9_ n10_ n11_ n12_ n13_; clear hb hbox hg; have hnb7 := NB303_301.out; have hnc7 := NB301_303.out; have hnb8 := NB303_302.out; have hnc8 := NB302_303.out; have hnb9 := NB303_0.out; have hnc9 := NB0_303.out; have hcz10_0 : w6.cell? ⟨gb303, 0, none⟩ = some (.slice none 0 0) := (qb0 BK303.out 0).trans rfl; have hcz10_1 : w6.cell? ⟨gb303, 1, none⟩ = some (.int .i64 0) := (qb0 BK303.out 1).trans rfl; have hfz10_0 := qa0 BK303.out 0; have hfz10_1 := qa0 BK303.out 1))
 go_loopg [2] k (fun kq v2 w' => ∃ (x2_1 : Int) (x1001_1 : Int) (x1002_1 : Int) (x304000_1 : List (S98)) (u304000 : Value), v2 = .int .i64 x2_1 ∧ Aside0 (spec_l5DrawLedger.l0 kq x2_1 s0_0 x1001_1 x1002_1 l1_0 a1_1 a1_2 x304000_1 1 = some (r1, r2, r3, r4)) ∧ Aside0 (kq ≤ k) ∧ Aside0 (Kd.S k98 98 w' w.heap.size (fun _ => True) u304000 x304000_1) ∧ Aside0 (w'.heap[gb301]? = some (.cells #[(.slice A1_0 l1_0.length c1_0), .int .i64 a1_1, .int .i64 a1_2] 174 (0, 0))) ∧ Aside0 (w'.heap[gb302]? = some (.cells #[(.slice none 0 0), .int .i64 0] 169 (0, 0))) ∧ Aside0 (w'.heap[gb303]? = some (.cells #[u304000, .int .i64 1] 169 (0, 0))) ∧ Aside0 (IsS186 w0 w' g s0_0 x1001_1 x1002_1) ∧ Aside0 (qc0 w w' g none) ∧ Aside0 (Below w0.heap.size w0 w'))
 case atStart => exact ⟨(a2), (s0_1), (s0_2), (([] : List (S98))), (.slice none 0 0), (by first | rfl | (simp; done) | (simp [*]; done)), H', ⟨Nat.le_refl _⟩, ⟨by first | exact Kd.S_nil _ _ _ _ _ | exact Kd.N_nil _ _ _ _ _ | exact Kd.V_nil _ _ _ _ _ | exact Kd.Q_nil _ _ _ _ _ | exact Kd.R_nil _ _ _ _ _⟩, ⟨by (with_reducible repeat (first | refine qe0 ?_ _ | refine qf0 ?_ | refine qd0 ?_ _)); refine blk_far ?_ NB301_303.out _; (with_reducible repeat (first | refine qe0 ?_ _ | refine qf0 ?_ | refine qd0 ?_ _)); refine blk_far ?_ NB301_303.out _; (with_reducible repeat (first | refine qe0 ?_ _ | refine qf0 ?_ | refine qd0 ?_ _)); exact BK301.out⟩, ⟨by (with_reducible repeat (first | refine qe0 ?_ _ | refine qf0 ?_ | refine qd0 ?_ _)); refine blk_far ?_ NB302_303.out _; (with_reducible repeat (first | refine qe0 ?_ _ | refine qf0 ?_ | refine qd0 ?_ _)); refine blk_far ?_ NB302_303.out _; (with_reducible repeat (first | refine qe0 ?_ _ | refine qf0 ?_ | refine qd0 ?_ _)); exact BK302.out⟩, ⟨by (with_reducible repeat (first | refine qe0 ?_ _ | refine qf0 ?_ | refine qd0 ?_ _)); refine qo0 (cs := #[.slice none 0 0, .int .i64 0]) ?_ 1 _ rfl; (with_reducible repeat (first | refine qe0 ?_ _ | refine qf0 ?_ | refine qd0 ?_ _)); refine qo0 (cs := #[.slice none 0 0, .int .i64 0]) ?_ 0 _ rfl; (with_reducible repeat (first | refine qe0 ?_ _ | refine qf0 ?_ | refine qd0 ?_ _)); exact BK303.out⟩, ⟨z8_1⟩, ⟨z8_0⟩, ⟨z8_2⟩⟩
 case round =>
  clear H'
  try clear c1
  try clear p2
  try clear c7
  try clear c8
  try clear c9
  try clear hcz10_0
  try clear hcz10_1
  try clear hfz10_0
  try clear hfz10_1
  obtain ⟨x2_1, x1001_1, x1002_1, x304000_1, u304000, rfl, HA, HK1, HO_304000, BK301, BK302, BK303, HI0, HK, HB⟩ := hrel
  cases gk with
  | zero => exact absurd HA.out (by simp [spec_l5DrawLedger.l0])
  | succ k1 =>
   have H := HA.out
   clear HA
   simp only [spec_l5DrawLedger.l0] at H
   by_cases c11 : x2_1 > 0
   ·rw [if_pos c11] at H
    have c11b0 : decide (0 < x2_1) = true := decide_eq_true c11
    clear c11
    replace H := Option.bind_eq_some_iff.mp H
    obtain ⟨⟨t304, t305, t306, t307, t310, t311⟩, A120, H⟩ := H
    replace H : (if x304000_1.length < 2513169434916 then (spec_l5DrawLedger.l0 k1 (wrap64 (x2_1 - 1)) s0_0 t310 t311 l1_0 a1_1 a1_2 (x304000_1 ++ [(⟨t304, t305, t306, t307⟩ : S98)]) 1) else (none)) = some (r1, r2, r3, r4) := H
    have A12 := Aside0.mk A120
    clear A120
    by_cases c13 : x304000_1.length < 2513169434916
    case neg => rw [if_neg c13] at H; exact absurd H (by simp)
    rw [if_pos c13] at H
    have LMc13 := Aside0.mk c13
    clear c13
    obtain ⟨y312, hy312⟩ : ∃ y_ : List (S98), y_ = (x304000_1 ++ [(⟨t304, t305, t306, t307⟩ : S98)]) := ⟨_, rfl⟩
    replace H : (spec_l5DrawLedger.l0 k1 (wrap64 (x2_1 - 1)) s0_0 t310 t311 l1_0 a1_1 a1_2 y312 1) = some (r1, r2, r3, r4) := by first | (rw [hy312]; with_reducible exact H) | (have H2_ := (Option.bind_some _ _).symm.trans H; rw [hy312]; with_reducible exact H2_) | (have H2_ := (Option.bind_some _ _).symm.trans H; with_reducible exact H2_) | with_reducible exact H | (rw [hy312]; exact H) | exact H
    have Ny312 := Aside0.mk hy312
    clear hy312
    have H' := Aside0.mk H
    clear H
    try go_wp2
    have n0_ := Aside0.mk (Kd.qd2 HO_304000.out)
    have n1_ := Aside0.mk (qf0 BK301.out)
    have n2_ := Aside0.mk (qf0 BK302.out)
    have n3_ := Aside0.mk (qf0 BK303.out)
    have n4_ := Aside0.mk (IsS186.drew HI0.out)
    have n5_ := Aside0.mk (qh1 HK.out)
    have n6_ := Aside0.mk (qi0 HB.out)
    clear HO_304000
    clear BK301
    clear BK302
    clear BK303
    clear HI0
    clear HK
    clear HB
    have HO_304000 := n0_
    have BK301 := n1_
    have BK302 := n2_
    have BK303 := n3_
    have HI0 := n4_
    have HK := n5_
    have HB := n6_
    clear n0_ n1_ n2_ n3_ n4_ n5_ n6_
    refine start_ (n := 9) (S := fun w' => w'.cell? ⟨gb303, 0, none⟩ = some (u304000) ∧ w'.cell? ⟨gb303, 1, none⟩ = some (.int .i64 1) ∧ w'.cell? ⟨gb301, 0, none⟩ = some (.slice A1_0 l1_0.length c1_0) ∧ w'.cell? ⟨gb301, 1, none⟩ = some (.int .i64 a1_1) ∧ w'.cell? ⟨gb301, 2, none⟩ = some (.int .i64 a1_2)) (ds := [8]) #[false, false, false, false, false, false, false, false, false] z8_21 rfl rfl ⟨(qb0 BK303.out 0).trans rfl, (qb0 BK303.out 1).trans rfl, (qb0 BK301.out 0).trans rfl, (qb0 BK301.out 1).trans rfl, (qb0 BK301.out 2).trans rfl⟩ (fun hHeld => ?_); refine with_tabW spec_l5DrawLedger.tab4 spec_l5DrawLedger.bits4 (fun HT_ HW_ => ?_)
    generalize wr.drew = w14 at HO_304000 BK301 BK302 BK303 HI0 HK HB hHeld ⊢
    refine pure_ (i := 0) (N := some 13) (v := ?_) (a' := ?_) #[true, false, false, false, false, false, false, false, false] rfl rfl (qs0 HT_.out z8_21) (fun _ _ _ h => h) (Or.inl ⟨by rfl, ?_⟩) ?_ ?_
    rotate_left
    ·intro w'
     go_simp
     with_reducible rfl
    rotate_left
    ·simp only [Act.put, List.setIfInBounds_toArray, List.set_cons_zero, List.set_cons_succ, i64_w, i32_w]
     rfl
    refine pure_ (i := 2) (N := some 15) (v := ?_) (a' := ?_) #[true, false, true, false, false, false, false, false, false] rfl rfl (qs0 HT_.out z8_21) (fun _ _ _ h => h) (Or.inl ⟨by rfl, ?_⟩) ?_ ?_
    rotate_left
    ·intro w'
     go_simp
     with_reducible rfl
    rotate_left
    ·simp only [Act.put, List.setIfInBounds_toArray, List.set_cons_zero, List.set_cons_succ, i64_w, i32_w]
     rfl
    refine take_ (i := 1) (N := some 14) (v := ?_) (a' := ?_) #[true, true, true, false, false, false, false, false, false] rfl rfl (ql1 HT_.out HW_.out z8_21) (fun _ _ _ h => h) (Or.inl ⟨by rfl, ?_⟩) hHeld ?_ ?_
    rotate_left
    ·rintro w' ⟨s0, s1, s2, s3, s4⟩
     go_simp
     with_reducible rfl
    rotate_left
    ·simp only [Act.put, List.setIfInBounds_toArray, List.set_cons_zero, List.set_cons_succ, i64_w, i32_w]
     rfl
    refine take_ (i := 3) (N := some 16) (v := ?_) (a' := ?_) #[true, true, true, true, false, false, false, false, false] rfl rfl (ql1 HT_.out HW_.out z8_21) (fun _ _ _ h => h) (Or.inl ⟨by rfl, ?_⟩) hHeld ?_ ?_
    rotate_left
    ·rintro w' ⟨s0, s1, s2, s3, s4⟩
     go_simp
     with_reducible rfl
    rotate_left
    ·simp only [Act.put, List.setIfInBounds_toArray, List.set_cons_zero, List.set_cons_succ, i64_w, i32_w]
     rfl
    refine one_ (i := 4) (N := some 17) #[true, true, true, true, true, false, false, false, false] rfl rfl (qt1 HT_.out z8_21) (by decide) (fun K hK => ?_)
    refine goes_ Try.func155 z8_21 rfl #[.pointer (some ⟨g, 0, none⟩), .agg #[.slice A1_0 l1_0.length c1_0, .int .i64 a1_1, .int .i64 a1_2]] (by rfl) rfl rfl z8_9 ?_
    with_reducible refine (spec_l5DrawEntry.calls k1 g s0_0 x1001_1 x1002_1 _ _ l1_0 a1_1 a1_2 t304 t305 t306 t307 t310 t311 w0 _ ?side1 ?side2 ?side3 ?side4 A12.out).mono ?_
    (case side1 => exact z8_1)
    (case side2 => exact z8_2)
    (case side3 => exact Kd.C_foot_step HR1_0.out z8_0)
    (case side4 => exact HC1_0.out)
    rintro e w15 ⟨v308, rfl, ho0, hi, hb, hk⟩
    refine ⟨_, rfl, ?_⟩
    have n0_ := Aside0.mk (Kd.qq1 (Kd.S_told (Kd.S_oldK (IsS186.apartS (show IsS186 w0 _ g s0_0 x1001_1 x1002_1 from z8_1) (by (with_reducible repeat (first | apply Kd.qa2 | apply Kd.qz1 | apply Kd.qd2)); exact HO_304000.out) (by decide)) hk) (Kd.R_base ho0)) (fun _ h_ => h_.1))
    have n1_ := Aside0.mk (qc0.blk hk (g' := gb301) (o := .cells #[.slice A1_0 l1_0.length c1_0, .int .i64 a1_1, .int .i64 a1_2] 174 (0, 0)) z8_4 NB301_0.out (by simp))
    have n2_ := Aside0.mk (qc0.blk hk (g' := gb302) (o := .cells #[.slice none 0 0, .int .i64 0] 169 (0, 0)) z8_7 NB302_0.out (by simp))
    have n3_ := Aside0.mk (qc0.blk hk (g' := gb303) (o := .cells #[u304000, .int .i64 1] 169 (0, 0)) z8_20 NB303_0.out (by simp))
    have n4_ := Aside0.mk (Kd.qu1 ho0 (qx0 (w := w) (g := g) (row := none) z8_0))
    have n5_ := Aside0.mk (qc0.trans z8_0 hk (.inl rfl))
    have n6_ := Aside0.mk (hb)
    have n7_ := Aside0.mk (hi)
    clear HO_304000
    clear BK301
    clear BK302
    clear BK303
    clear HK
    clear HB
    clear HI0
    have HO_304000 := n0_
    have BK301 := n1_
    have BK302 := n2_
    have BK303 := n3_
    have HO309 := n4_
    have HK := n5_
    have HB := n6_
    have HI0 := n7_
    clear n0_ n1_ n2_ n3_ n4_ n5_ n6_ n7_
    (try clear hb)
    (try clear hb2)
    (try clear hk)
    (try clear hi)
    (try clear ho0)
    obtain ⟨Ao17, co17, eo17⟩ := Kd.qn1 HO309.out
    (first | subst eo17 | (injection eo17 with f1_ f2_ f3_; have f4_ := f1_.symm; have f5_ := f3_.symm; clear f1_ f2_ f3_; subst f4_; subst f5_))
    refine hK.out _ _ ⟨(qb0 BK303.out 0).trans rfl, (qb0 BK303.out 1).trans rfl, (qb0 BK301.out 0).trans rfl, (qb0 BK301.out 1).trans rfl, (qb0 BK301.out 2).trans rfl⟩ (fun hHeld => ?_)
    clear hK K
    refine norm_ (a' := ?_) ?_ ?_
    rotate_left
    ·show Act.put _ (some 17) _ = _
     simp only [Act.put, List.setIfInBounds_toArray, List.set_cons_zero, List.set_cons_succ, i64_w, i32_w]
     rfl
    refine one_ (i := 5) (N := some 18) #[true, true, true, true, true, true, false, false, false] rfl rfl (qt1 HT_.out z8_21) (by decide) (fun K hK => ?_)
    refine value_ (w1 := ?_) (v := ?_) (by rfl) rfl ?_ ?_
    rotate_left 2
    ·go_simp
     constructor
     ·rfl
     ·rfl
    refine hK.out _ _ ⟨(qb0 (qd0 BK303.out _) 0).trans rfl, (qb0 (qd0 BK303.out _) 1).trans rfl, (qb0 (qd0 BK301.out _) 0).trans rfl, (qb0 (qd0 BK301.out _) 1).trans rfl, (qb0 (qd0 BK301.out _) 2).trans rfl⟩ (fun hHeld => ?_)
    clear hK K
    refine norm_ (a' := ?_) ?_ ?_
    rotate_left
    ·show Act.put _ (some 18) _ = _
     simp only [Act.put, List.setIfInBounds_toArray, List.set_cons_zero, List.set_cons_succ, i64_w, i32_w]
     rfl
    refine one_ (i := 6) (N := some 19) #[true, true, true, true, true, true, true, false, false] rfl rfl (qt1 HT_.out z8_21) (by decide) (fun K hK => ?_)
    refine Kd.S_append_step k98 w.heap.size (by rfl) (.tmp 14) (.tmp 18) 93 98 (.agg #[(.int .i64 0), (.int .i64 0), (.string ⟨#[]⟩), (.slice none 0 0)]) 56 rfl Try.underlying93 info98 rfl (by decide) (by omega) u304000 x304000_1 (⟨t304, t305, t306, t307⟩ : S98) [.int .i64 t304, .int .i64 t305, .string t306, .slice Ao17 t307.length co17] (fun _ => True) (fun k_ => some k_ = (.slice Ao17 t307.length co17 : Value).ownBlock) rfl rfl ?aP (fun k_ hk_ => ((Kd.qm0 (ok' := fun k_ => ((fun _ => True)) k_ ∧ some k_ ≠ (u304000 : Value).ownBlock) (Kd.R_apart' (HO309.out) (Kd.S_typed HO_304000.out) (by decide)) (fun k_ hk => ⟨trivial, hk.2⟩))).1 k_ hk_.symm) ?aF ?aO (Below.refl _ _) ?aS ?aL ?_
    (case aP => exact k98_mkM _ _ _ (⟨t304, t305, t306, t307⟩ : S98) (Kd.qm0 (Kd.R_tight rfl (Kd.qm0 (ok' := fun k_ => ((fun _ => True)) k_ ∧ some k_ ≠ (u304000 : Value).ownBlock) (Kd.R_apart' (HO309.out) (Kd.S_typed HO_304000.out) (by decide)) (fun k_ hk => ⟨trivial, hk.2⟩))) (fun _ h_ => h_)))
    (case aF => exact (fun _ _ => trivial))
    (case aO => exact (by (with_reducible repeat (first | apply Kd.qa2 | apply Kd.qz1 | apply Kd.qd2)); exact Kd.qq1 HO_304000.out (fun k_ hk => ⟨trivial, fun e_ => hk.2 e_⟩)))
    (case aS => exact (qx0 (w := w) (g := g) (row := none) z8_0))
    (case aL => have := LMc13.out; omega)
    intro v313 w16 ho hb hg hat
    rw [← Ny312.out] at ho
    have n0_ := Aside0.mk (qq0 (g := gb301) (o := .cells #[.slice A1_0 l1_0.length c1_0, .int .i64 a1_1, .int .i64 a1_2] 174 (0, 0)) z8_4 hg (Kd.S_ne HO_304000.out BK301.out (by decide)))
    have n1_ := Aside0.mk (qq0 (g := gb302) (o := .cells #[.slice none 0 0, .int .i64 0] 169 (0, 0)) z8_7 hg (Kd.S_ne HO_304000.out BK302.out (by decide)))
    have n2_ := Aside0.mk (qq0 (g := gb303) (o := .cells #[u304000, .int .i64 1] 169 (0, 0)) z8_20 hg (Kd.S_ne HO_304000.out BK303.out (by decide)))
    have n3_ := Aside0.mk (IsS186.grown (show IsS186 w0 _ g s0_0 t310 t311 from z8_1) hg (IsS186.own_neS HI0.out HO_304000.out (by decide)))
    have n4_ := Aside0.mk (qb1 z8_2 HL.out hb)
    have n5_ := Aside0.mk (qc0.trans z8_0 (qc0.qm1 hg g) (Kd.S_base2 HO_304000.out))
    have n6_ := Aside0.mk (ho)
    clear BK301
    clear BK302
    clear BK303
    clear HI0
    clear HB
    clear HK
    clear HO_304000
    clear HO309
    have BK301 := n0_
    have BK302 := n1_
    have BK303 := n2_
    have HI0 := n3_
    have HB := n4_
    have HK := n5_
    have HO314 := n6_
    clear n0_ n1_ n2_ n3_ n4_ n5_ n6_
    clear ho hb hg hat
    obtain ⟨Ao18, co18, eo18⟩ := Kd.S_slice HO314.out
    (first | subst eo18 | (injection eo18 with f1_ f2_ f3_; have f4_ := f1_.symm; have f5_ := f3_.symm; clear f1_ f2_ f3_; subst f4_; subst f5_))
    refine hK.out _ _ ⟨(qb0 BK303.out 0).trans rfl, (qb0 BK303.out 1).trans rfl, (qb0 BK301.out 0).trans rfl, (qb0 BK301.out 1).trans rfl, (qb0 BK301.out 2).trans rfl⟩ (fun hHeld => ?_)
    clear hK K
    refine norm_ (a' := ?_) ?_ ?_
    rotate_left
    ·show Act.put _ (some 19) _ = _
     simp only [Act.put, List.setIfInBounds_toArray, List.set_cons_zero, List.set_cons_succ, i64_w, i32_w]
     rfl
    refine pure_ (i := 7) (N := some 20) (v := ?_) (a' := ?_) #[true, true, true, true, true, true, true, true, false] rfl rfl (qs0 HT_.out z8_21) (fun _ _ _ h => h) (Or.inl ⟨by rfl, ?_⟩) ?_ ?_
    rotate_left
    ·intro w'
     go_simp
     with_reducible rfl
    rotate_left
    ·simp only [Act.put, List.setIfInBounds_toArray, List.set_cons_zero, List.set_cons_succ, i64_w, i32_w]
     rfl
    refine last_ (i := 8) (N := none) #[true, true, true, true, true, true, true, true, true] rfl rfl (qt1 HT_.out z8_21) (by decide) (fun K hK => ?_)
    have hs19 : w16.cell? ⟨gb303, 0, none⟩ = some (u304000) := (qb0 BK303.out 0).trans rfl
    have hfs19 := qa0 BK303.out 0
    have hns19_0 := NB301_303.out
    have hns19_1 := NB302_303.out
    have hms19_0 := NB303_301.out
    have hms19_1 := NB303_302.out
    refine skip_ (w1 := ?_) (by rfl) rfl ?_ ?_
    rotate_left
    ·go_simp
     rfl
    refine hK.out _ _ ?_
    clear hK K
    refine done_ (done_of HT_.out z8_21) ?_
    try go_wp2
    go_roundg k1
    case measure => have := HK1.out; omega
    case rel => exact ⟨(wrap64 (x2_1 - 1)), (t310), (t311), (y312), (.slice Ao18 y312.length co18), (by first | rfl | (simp; done) | (simp [*]; done)), H', ⟨by have := HK1.out; omega⟩, ⟨by (with_reducible repeat (first | apply Kd.qa2 | apply Kd.qz1 | apply Kd.qd2)); exact Kd.qq1 (Kd.S_far (p := ⟨gb303, 0, none⟩) (Kd.S_types HO314.out BK303.out (by decide)) (fun _ hk => hk.2) (.slice Ao18 y312.length co18)) (fun _ hk => trivial)⟩, ⟨by (with_reducible repeat (first | refine qe0 ?_ _ | refine qf0 ?_ | refine qd0 ?_ _)); refine blk_far ?_ NB301_303.out _; (with_reducible repeat (first | refine qe0 ?_ _ | refine qf0 ?_ | refine qd0 ?_ _)); exact BK301.out⟩, ⟨by (with_reducible repeat (first | refine qe0 ?_ _ | refine qf0 ?_ | refine qd0 ?_ _)); refine blk_far ?_ NB302_303.out _; (with_reducible repeat (first | refine qe0 ?_ _ | refine qf0 ?_ | refine qd0 ?_ _)); exact BK302.out⟩, ⟨by (with_reducible repeat (first | refine qe0 ?_ _ | refine qf0 ?_ | refine qd0 ?_ _)); refine qo0 (cs := #[u304000, .int .i64 1]) ?_ 0 _ rfl; (with_reducible repeat (first | refine qe0 ?_ _ | refine qf0 ?_ | refine qd0 ?_ _)); exact BK303.out⟩, ⟨z8_1⟩, ⟨z8_0⟩, ⟨z8_2⟩⟩
   rw [if_neg c11] at H
   have c11b0 : decide (0 < x2_1) = false := decide_eq_false c11
   clear c11
   replace H := Option.bind_eq_some_iff.mp H
   obtain ⟨t315, A200, H⟩ := H
   replace H : (some (x304000_1, t315, x1001_1, x1002_1)) = some (r1, r2, r3, r4) := H
   have A20 := Aside0.mk A200
   clear A200
   simp only [Option.some.injEq, Prod.mk.injEq] at H
   obtain ⟨rfl, rfl, rfl, rfl⟩ := H
   have hnb21 := NB303_301.out
   have hnc21 := NB301_303.out
   have hnb22 := NB303_302.out
   have hnc22 := NB302_303.out
   have hnb23 := NB303_0.out
   have hnc23 := NB0_303.out
   have hcz24_0 : wr.cell? ⟨gb303, 0, none⟩ = some (u304000) := (qb0 BK303.out 0).trans rfl
   have hcz24_1 : wr.cell? ⟨gb303, 1, none⟩ = some (.int .i64 1) := (qb0 BK303.out 1).trans rfl
   have hfz24_0 := qa0 BK303.out 0
   have hfz24_1 := qa0 BK303.out 1
   obtain ⟨Ao25, co25, eo25⟩ := Kd.S_slice HO_304000.out
   subst eo25
   go_wp2_with (first | ((with_reducible refine qg0 (f := 52) rfl ?_); refine qt0 (some 23) rfl rfl Try.func52 z8_21 rfl #[.slice Ao25 x304000_1.length co25] rfl z8_9 ?_; (with_reducible refine (spec_HeadOf.calls k1 _ _ x304000_1 t315 _ ?side1 ?side2 A20.out).mono ?_); (case side1 => repeat (first | exact (Kd.S_reads' HO_304000.out).2.2 | (with_reducible refine Kd.qx1 ?_ _) | (with_reducible refine Kd.qw1 ?_ _) | (with_reducible refine Kd.qg2 ?_))); (case side2 => exact (Kd.S_reads' HO_304000.out).2.1); rintro e w26 ⟨rfl, hb⟩; refine ⟨_, rfl, ?_⟩; have n0_ := Aside0.mk (Kd.S_below (by (with_reducible repeat (first | apply Kd.qa2 | apply Kd.qz1 | apply Kd.qd2)); exact HO_304000.out) hb); have n1_ := Aside0.mk (qz0 (g := gb301) (o := .cells #[.slice A1_0 l1_0.length c1_0, .int .i64 a1_1, .int .i64 a1_2] 174 (0, 0)) z8_4 hb); have n2_ := Aside0.mk (qz0 (g := gb302) (o := .cells #[.slice none 0 0, .int .i64 0] 169 (0, 0)) z8_7 hb); have n3_ := Aside0.mk (qz0 (g := gb303) (o := .cells #[.slice Ao25 x304000_1.length co25, .int .i64 1] 169 (0, 0)) z8_20 hb); have n4_ := Aside0.mk (IsS186.below z8_1 hb); have n5_ := Aside0.mk (qc0.trans z8_0 (qc0.of_below hb g none) (.inl rfl)); have n6_ := Aside0.mk (ql0 z8_2 hb); clear HO_304000; clear BK301; clear BK302; clear BK303; clear HI0; clear HK; clear HB; have HO_304000 := n0_; have BK301 := n1_; have BK302 := n2_; have BK303 := n3_; have HI0 := n4_; have HK := n5_; have HB := n6_; clear n0_ n1_ n2_ n3_ n4_ n5_ n6_; (try clear hb); (try clear hb2); (try clear hk); (try clear hi); have hcz27_0 : w26.cell? ⟨gb303, 0, none⟩ = some (.slice Ao25 x304000_1.length co25) := (qb0 BK303.out 0).trans rfl; have hcz27_1 : w26.cell? ⟨gb303, 1, none⟩ = some (.int .i64 1) := (qb0 BK303.out 1).trans rfl; have hfz27_0 := qa0 BK303.out 0; have hfz27_1 := qa0 BK303.out 1; have hnb28 := NB302_301.out; have hnc28 := NB301_302.out; have hnb29 := NB302_0.out; have hnc29 := NB0_302.out; have hcz30_0 : w26.cell? ⟨gb302, 0, none⟩ = some (.slice none 0 0) := (qb0 BK302.out 0).trans rfl; have hcz30_1 : w26.cell? ⟨gb302, 1, none⟩ = some (.int .i64 0) := (qb0 BK302.out 1).trans rfl; have hfz30_0 := qa0 BK302.out 0; have hfz30_1 := qa0 BK302.out 1))
   refine bodyPost_ret (results_cell_row rfl _ _ gb302 169 #[.slice Ao25 x304000_1.length co25, .int .i64 t315] (0, 0) _ rfl (by (with_reducible repeat (first | refine qe0 ?_ _ | refine qf0 ?_ | refine qd0 ?_ _)); refine qo0 (cs := #[.slice Ao25 x304000_1.length co25, .int .i64 0]) ?_ 1 _ rfl; (with_reducible repeat (first | refine qe0 ?_ _ | refine qf0 ?_ | refine qd0 ?_ _)); refine qo0 (cs := #[.slice none 0 0, .int .i64 0]) ?_ 0 _ rfl; (with_reducible repeat (first | refine qe0 ?_ _ | refine qf0 ?_ | refine qd0 ?_ _)); refine blk_far ?_ NB302_303.out _; (with_reducible repeat (first | refine qe0 ?_ _ | refine qf0 ?_ | refine qd0 ?_ _)); exact BK302.out) Try.underlying169 rfl z8_21) rfl ?_
   exact ⟨_, z8_19, by (with_reducible repeat (first | apply Kd.qa2 | apply Kd.qz1 | apply Kd.qd2)); exact Kd.qq1 (Kd.S_far (p := ⟨gb302, 1, none⟩) (Kd.S_far (p := ⟨gb302, 0, none⟩) (Kd.S_far (p := ⟨gb303, 1, none⟩) (Kd.S_types (Kd.S_types HO_304000.out BK303.out (by decide)) BK302.out (by decide)) (fun _ hk => hk.1.2) (.int .i64 t315)) (fun _ hk => hk.2) (.slice Ao25 x304000_1.length co25)) (fun _ hk => hk.2) (.int .i64 t315)) (fun _ hk => trivial), z8_1, z8_2, z8_0⟩

/-! ### spec_l1Text: function 94 -/
def spec_l1Text.f : Nat → Int → Option (ByteArray)
 | 0, _ => none
 | k + 1, a0 => if a0 < 0 then ((spec_l1Text.f k (wrap64 (-a0))).bind fun t316 => (if 1 + t316.size ≤ 9223372036854775807 then (some ((⟨#[45]⟩ : ByteArray) ++ t316)) else (none))) else (if a0 < 10 then (if 0 ≤ a0 then (if a0 ≤ (wrap64 (a0 + 1)) then (if (wrap64 (a0 + 1)) ≤ 10 then (some ((⟨#[48, 49, 50, 51, 52, 53, 54, 55, 56, 57]⟩ : ByteArray).extract (a0 : Int).toNat ((wrap64 (a0 + 1)) : Int).toNat)) else (none)) else (none)) else (none)) else ((spec_l1Text.f k (wrap64 (Int.tdiv a0 10))).bind fun t317 => (if 0 ≤ (Int.tmod a0 10) then (if (Int.tmod a0 10) ≤ (wrap64 ((Int.tmod a0 10) + 1)) then (if (wrap64 ((Int.tmod a0 10) + 1)) ≤ 10 then (if t317.size + ((⟨#[48, 49, 50, 51, 52, 53, 54, 55, 56, 57]⟩ : ByteArray).extract ((Int.tmod a0 10) : Int).toNat ((wrap64 ((Int.tmod a0 10) + 1)) : Int).toNat).size ≤ 9223372036854775807 then (some (t317 ++ ((⟨#[48, 49, 50, 51, 52, 53, 54, 55, 56, 57]⟩ : ByteArray).extract ((Int.tmod a0 10) : Int).toNat ((wrap64 ((Int.tmod a0 10) + 1)) : Int).toNat))) else (none)) else (none)) else (none)) else (none))))
theorem spec_l1Text.mono_l : ∀ k, (∀ y0, LeO (spec_l1Text.f k y0) (spec_l1Text.f (k + 1) y0))
 | 0 => fun _ r h => by simp [spec_l1Text.f] at h
 | k + 1 => by
  have ih0 := spec_l1Text.mono_l k
  ·intro y0
   unfold spec_l1Text.f
   repeat' first
   | (with_reducible exact ih0 _)
   | (with_reducible exact LeO.refl _)
   | (with_reducible exact LeO.none _)
   | (with_reducible refine LeO.ite ?_ ?_)
   | (with_reducible refine LeO.bind ?_ (fun _ => ?_))
   | exact ih0 _
   | exact LeO.none _
   | refine LeO.ite ?_ ?_
   | refine LeO.bind ?_ (fun _ => ?_)
theorem spec_l1Text.mono : ∀ a0 k, LeO (spec_l1Text.f k a0) (spec_l1Text.f (k + 1) a0) := by
 intro a0 k
 have ih0 := spec_l1Text.mono_l k
 exact ih0 a0
def spec_l1Text.T5 : Bool × List (List Nat × List Nat) := (true, [([], []), ([0], [0]), ([1], [1]), ([], []), ([3], [3]), ([], []), ([5], [5]), ([6], [6]), ([4, 7], [4, 7]), ([2, 8], [2, 8]), ([9, 2, 0, 1, 2, 3, 4, 5, 6, 7, 8, 9], [9])])
def spec_l1Text.B5 : List Nat := [0, 1, 3, 0, 8, 0, 32, 96, 248, 511, 1023]
theorem spec_l1Text.tab5 : rtab .any (opsOf Try.f94 5) = spec_l1Text.T5 := by kernel_rfl
theorem spec_l1Text.bits5 : waitsOk spec_l1Text.T5.2 spec_l1Text.B5 = true := by kernel_rfl
set_option maxHeartbeats 8000000 in
set_option maxRecDepth 100000 in
theorem spec_l1Text.calls (k : Nat) : ∀ (a0 : Int) (r : ByteArray) (w : World) (h : spec_l1Text.f k a0 = some r),
  Calls Try.prog 94 #[.int .i64 a0] w fun e w' => e = .returned (.string r) ∧ Below w.heap.size w w' := by
 induction k using Nat.strongRecOn with
 | _ k ih =>
 intro a0 r w h
 cases k with
 | zero => exact absurd h (by simp [spec_l1Text.f])
 | succ k =>
 simp only [spec_l1Text.f] at h
 have HB := Aside0.mk (Below.refl w.heap.size w)
 have H : (if a0 < 0 then ((spec_l1Text.f k (wrap64 (-a0))).bind fun t316 => (if 1 + t316.size ≤ 9223372036854775807 then (some ((⟨#[45]⟩ : ByteArray) ++ t316)) else (none))) else (if a0 < 10 then (if 0 ≤ a0 then (if a0 ≤ (wrap64 (a0 + 1)) then (if (wrap64 (a0 + 1)) ≤ 10 then (some ((⟨#[48, 49, 50, 51, 52, 53, 54, 55, 56, 57]⟩ : ByteArray).extract (a0 : Int).toNat ((wrap64 (a0 + 1)) : Int).toNat)) else (none)) else (none)) else (none)) else ((spec_l1Text.f k (wrap64 (Int.tdiv a0 10))).bind fun t317 => (if 0 ≤ (Int.tmod a0 10) then (if (Int.tmod a0 10) ≤ (wrap64 ((Int.tmod a0 10) + 1)) then (if (wrap64 ((Int.tmod a0 10) + 1)) ≤ 10 then (if t317.size + ((⟨#[48, 49, 50, 51, 52, 53, 54, 55, 56, 57]⟩ : ByteArray).extract ((Int.tmod a0 10) : Int).toNat ((wrap64 ((Int.tmod a0 10) + 1)) : Int).toNat).size ≤ 9223372036854775807 then (some (t317 ++ ((⟨#[48, 49, 50, 51, 52, 53, 54, 55, 56, 57]⟩ : ByteArray).extract ((Int.tmod a0 10) : Int).toNat ((wrap64 ((Int.tmod a0 10) + 1)) : Int).toNat))) else (none)) else (none)) else (none)) else (none))))) = some r := h
 clear h
 by_cases c2 : a0 < 0
 ·rw [if_pos c2] at H
  have c2b0 : decide (a0 < 0) = true := decide_eq_true c2
  clear c2
  replace H := Option.bind_eq_some_iff.mp H
  obtain ⟨t316, A30, H⟩ := H
  replace H : (if 1 + t316.size ≤ 9223372036854775807 then (some ((⟨#[45]⟩ : ByteArray) ++ t316)) else (none)) = some r := H
  have A3 := Aside0.mk A30
  clear A30
  by_cases c4 : 1 + t316.size ≤ 9223372036854775807
  case neg => rw [if_neg c4] at H; exact absurd H (by simp)
  rw [if_pos c4] at H
  have c4b0 := eq_true c4
  have c4b1 : decide (1 + t316.size ≤ 9223372036854775807) = true := decide_eq_true c4
  try have c4b2 : (9223372036854775807 < 1 + t316.size) = False := eq_false (Nat.not_lt.2 c4)
  obtain rfl := Option.some.inj H
  go_enter Try.func94, Try.ntmps94
  go_wp2_with (first | ((with_reducible refine qg0 (f := 94) rfl ?_); refine qt0 (some 7) rfl rfl Try.func94 z8_21 rfl #[.int .i64 (wrap64 (-a0))] rfl z8_9 ?_; (with_reducible refine (ih k (by omega) (wrap64 (-a0)) t316 _ A3.out).mono ?_); rintro e w5 ⟨rfl, hb⟩; refine ⟨_, rfl, ?_⟩; have n0_ := Aside0.mk (ql0 z8_10 hb); clear HB; have HB := n0_; clear n0_; (try clear hb); (try clear hb2); (try clear hk); (try clear hi)))
  go_ret
  exact ⟨z8_19, z8_10⟩
 rw [if_neg c2] at H
 have c2b0 : decide (a0 < 0) = false := decide_eq_false c2
 clear c2
 by_cases c6 : a0 < 10
 ·rw [if_pos c6] at H
  have c6b0 : decide (a0 < 10) = true := decide_eq_true c6
  clear c6
  by_cases c7 : 0 ≤ a0
  case neg => rw [if_neg c7] at H; exact absurd H (by simp)
  rw [if_pos c7] at H
  have c7b0 := eq_true c7
  have c7b1 : decide (0 ≤ a0) = true := decide_eq_true c7
  clear c7
  by_cases c8 : a0 ≤ (wrap64 (a0 + 1))
  case neg => rw [if_neg c8] at H; exact absurd H (by simp)
  rw [if_pos c8] at H
  have c8b0 := eq_true c8
  have c8b1 : decide (a0 ≤ (wrap64 (a0 + 1))) = true := decide_eq_true c8
  by_cases c9 : (wrap64 (a0 + 1)) ≤ 10
  case neg => rw [if_neg c9] at H; exact absurd H (by simp)
  rw [if_pos c9] at H
  have c9b0 := eq_true c9
  have c9b1 : decide ((wrap64 (a0 + 1)) ≤ 10) = true := decide_eq_true c9
  obtain rfl := Option.some.inj H
  go_enter Try.func94, Try.ntmps94
  go_wp2
  go_ret
  exact ⟨z8_19, z8_10⟩
 rw [if_neg c6] at H
 have c6b0 : decide (a0 < 10) = false := decide_eq_false c6
 clear c6
 replace H := Option.bind_eq_some_iff.mp H
 obtain ⟨t317, A100, H⟩ := H
 replace H : (if 0 ≤ (Int.tmod a0 10) then (if (Int.tmod a0 10) ≤ (wrap64 ((Int.tmod a0 10) + 1)) then (if (wrap64 ((Int.tmod a0 10) + 1)) ≤ 10 then (if t317.size + ((⟨#[48, 49, 50, 51, 52, 53, 54, 55, 56, 57]⟩ : ByteArray).extract ((Int.tmod a0 10) : Int).toNat ((wrap64 ((Int.tmod a0 10) + 1)) : Int).toNat).size ≤ 9223372036854775807 then (some (t317 ++ ((⟨#[48, 49, 50, 51, 52, 53, 54, 55, 56, 57]⟩ : ByteArray).extract ((Int.tmod a0 10) : Int).toNat ((wrap64 ((Int.tmod a0 10) + 1)) : Int).toNat))) else (none)) else (none)) else (none)) else (none)) = some r := H
 have A10 := Aside0.mk A100
 clear A100
 obtain ⟨ji11, hji11⟩ : ∃ j_ : Int, (Int.tmod a0 10) = j_ := ⟨_, rfl⟩
 replace H : (if 0 ≤ (ji11) then (if (ji11) ≤ (wrap64 ((ji11) + 1)) then (if (wrap64 ((ji11) + 1)) ≤ 10 then (if t317.size + ((⟨#[48, 49, 50, 51, 52, 53, 54, 55, 56, 57]⟩ : ByteArray).extract ((ji11) : Int).toNat ((wrap64 ((ji11) + 1)) : Int).toNat).size ≤ 9223372036854775807 then (some (t317 ++ ((⟨#[48, 49, 50, 51, 52, 53, 54, 55, 56, 57]⟩ : ByteArray).extract ((ji11) : Int).toNat ((wrap64 ((ji11) + 1)) : Int).toNat))) else (none)) else (none)) else (none)) else (none)) = some r := by first | (rw [hji11] at H; exact H) | (simp only [hji11] at H ⊢; exact H)
 (try rw [hji11] at A10)
 by_cases c12 : 0 ≤ (ji11)
 case neg => rw [if_neg c12] at H; exact absurd H (by simp)
 rw [if_pos c12] at H
 have c12b0 := eq_true c12
 have c12b1 : decide (0 ≤ (ji11)) = true := decide_eq_true c12
 clear c12
 by_cases c13 : (ji11) ≤ (wrap64 ((ji11) + 1))
 case neg => rw [if_neg c13] at H; exact absurd H (by simp)
 rw [if_pos c13] at H
 have c13b0 := eq_true c13
 have c13b1 : decide ((ji11) ≤ (wrap64 ((ji11) + 1))) = true := decide_eq_true c13
 by_cases c14 : (wrap64 ((ji11) + 1)) ≤ 10
 case neg => rw [if_neg c14] at H; exact absurd H (by simp)
 rw [if_pos c14] at H
 have c14b0 := eq_true c14
 have c14b1 : decide ((wrap64 ((ji11) + 1)) ≤ 10) = true := decide_eq_true c14
 by_cases c15 : t317.size + ((⟨#[48, 49, 50, 51, 52, 53, 54, 55, 56, 57]⟩ : ByteArray).extract ((ji11) : Int).toNat ((wrap64 ((ji11) + 1)) : Int).toNat).size ≤ 9223372036854775807
 case neg => rw [if_neg c15] at H; exact absurd H (by simp)
 rw [if_pos c15] at H
 have c15b0 := eq_true c15
 have c15b1 : decide (t317.size + ((⟨#[48, 49, 50, 51, 52, 53, 54, 55, 56, 57]⟩ : ByteArray).extract ((ji11) : Int).toNat ((wrap64 ((ji11) + 1)) : Int).toNat).size ≤ 9223372036854775807) = true := decide_eq_true c15
 try have c15b2 : (9223372036854775807 < t317.size + ((⟨#[48, 49, 50, 51, 52, 53, 54, 55, 56, 57]⟩ : ByteArray).extract ((ji11) : Int).toNat ((wrap64 ((ji11) + 1)) : Int).toNat).size) = False := eq_false (Nat.not_lt.2 c15)
 have c15b3 : (9223372036854775807 < t317.size + ((wrap64 (ji11 + 1)).toNat - ji11.toNat)) = False := eq_false (by have h_ := c15; rw [ByteArray.size_extract] at h_; have h2_ : (⟨#[48, 49, 50, 51, 52, 53, 54, 55, 56, 57]⟩ : ByteArray).size = 10 := rfl; have h3_ := of_eq_true c14b0; omega)
 obtain rfl := Option.some.inj H
 go_enter Try.func94, Try.ntmps94
 try go_wp2
 have n0_ := Aside0.mk (qi0 HB.out)
 clear HB
 have HB := n0_
 clear n0_
 refine start_ (n := 11) (S := fun w' => True) (ds := []) #[false, false, false, false, false, false, false, false, false, false, false] z8_21 rfl rfl trivial (fun hHeld => ?_); refine with_tabW spec_l1Text.tab5 spec_l1Text.bits5 (fun HT_ HW_ => ?_)
 generalize w.drew = w16 at HB hHeld ⊢
 refine pure_ (i := 0) (N := some 15) (v := ?_) (a' := ?_) #[true, false, false, false, false, false, false, false, false, false, false] rfl rfl (qs0 HT_.out z8_21) (fun _ _ _ h => h) (Or.inl ⟨by rfl, ?_⟩) ?_ ?_
 rotate_left
 ·intro w'
  go_simp
  with_reducible rfl
 rotate_left
 ·simp only [Act.put, List.setIfInBounds_toArray, List.set_cons_zero, List.set_cons_succ, i64_w, i32_w]
  rfl
 refine pure_ (i := 1) (N := some 16) (v := ?_) (a' := ?_) #[true, true, false, false, false, false, false, false, false, false, false] rfl rfl (qs0 HT_.out z8_21) (fun _ _ _ h => h) (Or.inl ⟨by rfl, ?_⟩) ?_ ?_
 rotate_left
 ·intro w'
  go_simp
  with_reducible rfl
 rotate_left
 ·simp only [Act.put, List.setIfInBounds_toArray, List.set_cons_zero, List.set_cons_succ, i64_w, i32_w]
  rfl
 refine pure_ (i := 3) (N := some 18) (v := ?_) (a' := ?_) #[true, true, false, true, false, false, false, false, false, false, false] rfl rfl (qs0 HT_.out z8_21) (fun _ _ _ h => h) (Or.inl ⟨by rfl, ?_⟩) ?_ ?_
 rotate_left
 ·intro w'
  go_simp
  with_reducible rfl
 rotate_left
 ·simp only [Act.put, List.setIfInBounds_toArray, List.set_cons_zero, List.set_cons_succ, i64_w, i32_w]
  rfl
 refine pure_ (i := 4) (N := some 19) (v := ?_) (a' := ?_) #[true, true, false, true, true, false, false, false, false, false, false] rfl rfl (qs0 HT_.out z8_21) (fun _ _ _ h => h) (Or.inl ⟨by rfl, ?_⟩) ?_ ?_
 rotate_left
 ·intro w'
  go_simp
  with_reducible rfl
 rotate_left
 ·simp only [Act.put, List.setIfInBounds_toArray, List.set_cons_zero, List.set_cons_succ, i64_w, i32_w]
  rfl
 refine pure_ (i := 5) (N := some 20) (v := ?_) (a' := ?_) #[true, true, false, true, true, true, false, false, false, false, false] rfl rfl (qs0 HT_.out z8_21) (fun _ _ _ h => h) (Or.inl ⟨by rfl, ?_⟩) ?_ ?_
 rotate_left
 ·intro w'
  go_simp
  with_reducible rfl
 rotate_left
 ·simp only [Act.put, List.setIfInBounds_toArray, List.set_cons_zero, List.set_cons_succ, i64_w, i32_w]
  rfl
 refine pure_ (i := 6) (N := some 21) (v := ?_) (a' := ?_) #[true, true, false, true, true, true, true, false, false, false, false] rfl rfl (qs0 HT_.out z8_21) (fun _ _ _ h => h) (Or.inl ⟨by rfl, ?_⟩) ?_ ?_
 rotate_left
 ·intro w'
  go_simp
  with_reducible rfl
 rotate_left
 ·simp only [Act.put, List.setIfInBounds_toArray, List.set_cons_zero, List.set_cons_succ, i64_w, i32_w]
  rfl
 refine pure_ (i := 7) (N := some 22) (v := ?_) (a' := ?_) #[true, true, false, true, true, true, true, true, false, false, false] rfl rfl (qs0 HT_.out z8_21) (fun _ _ _ h => h) (Or.inl ⟨by rfl, ?_⟩) ?_ ?_
 rotate_left
 ·intro w'
  go_simp
  with_reducible rfl
 rotate_left
 ·simp only [Act.put, List.setIfInBounds_toArray, List.set_cons_zero, List.set_cons_succ, i64_w, i32_w]
  rfl
 refine pure_ (i := 8) (N := some 23) (v := ?_) (a' := ?_) #[true, true, false, true, true, true, true, true, true, false, false] rfl rfl (qs0 HT_.out z8_21) (fun _ _ _ h => h) (Or.inl ⟨by rfl, ?_⟩) ?_ ?_
 rotate_left
 ·intro w'
  go_simp
  with_reducible rfl
 rotate_left
 ·simp only [Act.put, List.setIfInBounds_toArray, List.set_cons_zero, List.set_cons_succ, i64_w, i32_w]
  rfl
 refine one_ (i := 2) (N := some 17) #[true, true, true, true, true, true, true, true, true, false, false] rfl rfl (qt1 HT_.out z8_21) (by decide) (fun K hK => ?_)
 refine goes_ Try.func94 z8_21 rfl #[.int .i64 (wrap64 (Int.tdiv a0 10))] (by rfl) rfl rfl z8_9 ?_
 with_reducible refine (ih k (by omega) (wrap64 (Int.tdiv a0 10)) t317 _ A10.out).mono ?_
 rintro e w17 ⟨rfl, hb⟩
 refine ⟨_, rfl, ?_⟩
 have n0_ := Aside0.mk (ql0 z8_10 hb)
 clear HB
 have HB := n0_
 clear n0_
 (try clear hb)
 (try clear hb2)
 (try clear hk)
 (try clear hi)
 refine hK.out _ _ trivial (fun hHeld => ?_)
 clear hK K
 refine norm_ (a' := ?_) ?_ ?_
 rotate_left
 ·show Act.put _ (some 17) _ = _
  simp only [Act.put, List.setIfInBounds_toArray, List.set_cons_zero, List.set_cons_succ, i64_w, i32_w]
  rfl
 refine pure_ (i := 9) (N := some 24) (v := ?_) (a' := ?_) #[true, true, true, true, true, true, true, true, true, true, false] rfl rfl (qs0 HT_.out z8_21) (fun _ _ _ h => h) (Or.inl ⟨by rfl, ?_⟩) ?_ ?_
 rotate_left
 ·intro w'
  go_simp
  with_reducible rfl
 rotate_left
 ·simp only [Act.put, List.setIfInBounds_toArray, List.set_cons_zero, List.set_cons_succ, i64_w, i32_w]
  rfl
 refine pure_ (i := 10) (N := some 2) (v := ?_) (a' := ?_) #[true, true, true, true, true, true, true, true, true, true, true] rfl rfl (qs0 HT_.out z8_21) (fun _ _ _ h => h) (Or.inl ⟨by rfl, ?_⟩) ?_ ?_
 rotate_left
 ·intro w'
  go_simp
  with_reducible rfl
 rotate_left
 ·simp only [Act.put, List.setIfInBounds_toArray, List.set_cons_zero, List.set_cons_succ, i64_w, i32_w]
  rfl
 refine done_ (done_of HT_.out z8_21) ?_
 try go_wp2
 go_ret
 exact ⟨by first | rfl | (simp [errW_none, errW_some] <;> rfl) | (simp only [← hji11]; first | rfl | (simp [errW_none, errW_some] <;> rfl)) | (simp [*, errW_none, errW_some] <;> rfl), z8_10⟩

/-! ### spec_l1DrawName: function 162 -/
def spec_l1DrawName.f (s0_0 : List Int) (s0_1 : Int) (s0_2 : Int) : Option (ByteArray × Int × Int) := (spec_l1Pick.f s0_0 s0_1 s0_2 (([(⟨#[98, 97, 110, 107]⟩ : ByteArray), (⟨#[99, 97, 115, 104]⟩ : ByteArray), (⟨#[115, 97, 108, 101, 115]⟩ : ByteArray), (⟨#[115, 116, 111, 99, 107]⟩ : ByteArray), (⟨#[97]⟩ : ByteArray), (⟨#[98]⟩ : ByteArray), (⟨#[99, 45, 49]⟩ : ByteArray), (⟨#[100, 117, 101, 115]⟩ : ByteArray), (⟨#[116, 97, 120, 46, 100, 117, 101]⟩ : ByteArray), (⟨#[82, 50]⟩ : ByteArray), (⟨#[103, 111, 111, 100, 115]⟩ : ByteArray), (⟨#[119, 97, 103, 101, 115]⟩ : ByteArray), (⟨#[114, 101, 110, 116]⟩ : ByteArray), (⟨#[120, 95, 121]⟩ : ByteArray), (⟨#[112, 108, 97, 110, 116]⟩ : ByteArray)] : List ByteArray))).bind fun bt321 => (some (bt321.1, bt321.2.1, bt321.2.2))
set_option maxHeartbeats 8000000 in
set_option maxRecDepth 100000 in
theorem spec_l1DrawName.calls (g : Nat) (s0_0 : List Int) (s0_1 : Int) (s0_2 : Int) (r1 : ByteArray) (r2 : Int) (r3 : Int) (w0 w : World) (hI : IsS186 w0 w g s0_0 s0_1 s0_2) (hB : Below w0.heap.size w0 w) (h : spec_l1DrawName.f s0_0 s0_1 s0_2 = some (r1, r2, r3)) :
  Calls Try.prog 162 #[.pointer (some ⟨g, 0, none⟩)] w fun e w' => e = .returned (.string r1) ∧ IsS186 w0 w' g s0_0 r2 r3 ∧ Below w0.heap.size w0 w' ∧ qc0 w w' g none := by
 have HI0 := Aside0.mk hI
 have HK := Aside0.mk (qc0.refl w g none)
 have HL := Aside0.mk hB.size
 clear hI
 have HW0 := Aside0.mk hB.size
 have HB := Aside0.mk hB
 clear hB
 have H : ((spec_l1Pick.f s0_0 s0_1 s0_2 (([(⟨#[98, 97, 110, 107]⟩ : ByteArray), (⟨#[99, 97, 115, 104]⟩ : ByteArray), (⟨#[115, 97, 108, 101, 115]⟩ : ByteArray), (⟨#[115, 116, 111, 99, 107]⟩ : ByteArray), (⟨#[97]⟩ : ByteArray), (⟨#[98]⟩ : ByteArray), (⟨#[99, 45, 49]⟩ : ByteArray), (⟨#[100, 117, 101, 115]⟩ : ByteArray), (⟨#[116, 97, 120, 46, 100, 117, 101]⟩ : ByteArray), (⟨#[82, 50]⟩ : ByteArray), (⟨#[103, 111, 111, 100, 115]⟩ : ByteArray), (⟨#[119, 97, 103, 101, 115]⟩ : ByteArray), (⟨#[114, 101, 110, 116]⟩ : ByteArray), (⟨#[120, 95, 121]⟩ : ByteArray), (⟨#[112, 108, 97, 110, 116]⟩ : ByteArray)] : List ByteArray))).bind fun bt321 => (some (bt321.1, bt321.2.1, bt321.2.2))) = some (r1, r2, r3) := h
 clear h
 obtain ⟨y318, hy318⟩ : ∃ y_ : List ByteArray, y_ = (([(⟨#[98, 97, 110, 107]⟩ : ByteArray), (⟨#[99, 97, 115, 104]⟩ : ByteArray), (⟨#[115, 97, 108, 101, 115]⟩ : ByteArray), (⟨#[115, 116, 111, 99, 107]⟩ : ByteArray), (⟨#[97]⟩ : ByteArray), (⟨#[98]⟩ : ByteArray), (⟨#[99, 45, 49]⟩ : ByteArray), (⟨#[100, 117, 101, 115]⟩ : ByteArray), (⟨#[116, 97, 120, 46, 100, 117, 101]⟩ : ByteArray), (⟨#[82, 50]⟩ : ByteArray), (⟨#[103, 111, 111, 100, 115]⟩ : ByteArray), (⟨#[119, 97, 103, 101, 115]⟩ : ByteArray), (⟨#[114, 101, 110, 116]⟩ : ByteArray), (⟨#[120, 95, 121]⟩ : ByteArray), (⟨#[112, 108, 97, 110, 116]⟩ : ByteArray)] : List ByteArray)) := ⟨_, rfl⟩
 replace H : ((spec_l1Pick.f s0_0 s0_1 s0_2 y318).bind fun bt321 => (some (bt321.1, bt321.2.1, bt321.2.2))) = some (r1, r2, r3) := by first | (rw [hy318]; with_reducible exact H) | (have H2_ := (Option.bind_some _ _).symm.trans H; rw [hy318]; with_reducible exact H2_) | (have H2_ := (Option.bind_some _ _).symm.trans H; with_reducible exact H2_) | with_reducible exact H | (rw [hy318]; exact H) | exact H
 have Ny318 := Aside0.mk hy318
 clear hy318
 replace H := Option.bind_eq_some_iff.mp H
 obtain ⟨⟨t321, t322, t323⟩, A20, H⟩ := H
 replace H : (some (t321, t322, t323)) = some (r1, r2, r3) := H
 have A2 := Aside0.mk A20
 clear A20
 simp only [Option.some.injEq, Prod.mk.injEq] at H
 obtain ⟨rfl, rfl, rfl⟩ := H
 go_enter Try.func162, Try.ntmps162
 go_wp2_with (first | ((with_reducible refine qa1 (N := 4) rfl ?_); refine Kd.R_lit Kd.string _ 9 ?hg (N := 4) ?hd (xs := ([(⟨#[98, 97, 110, 107]⟩ : ByteArray), (⟨#[99, 97, 115, 104]⟩ : ByteArray), (⟨#[115, 97, 108, 101, 115]⟩ : ByteArray), (⟨#[115, 116, 111, 99, 107]⟩ : ByteArray), (⟨#[97]⟩ : ByteArray), (⟨#[98]⟩ : ByteArray), (⟨#[99, 45, 49]⟩ : ByteArray), (⟨#[100, 117, 101, 115]⟩ : ByteArray), (⟨#[116, 97, 120, 46, 100, 117, 101]⟩ : ByteArray), (⟨#[82, 50]⟩ : ByteArray), (⟨#[103, 111, 111, 100, 115]⟩ : ByteArray), (⟨#[119, 97, 103, 101, 115]⟩ : ByteArray), (⟨#[114, 101, 110, 116]⟩ : ByteArray), (⟨#[120, 95, 121]⟩ : ByteArray), (⟨#[112, 108, 97, 110, 116]⟩ : ByteArray)] : List ByteArray)) (inner := [.string (⟨#[98, 97, 110, 107]⟩ : ByteArray), .string (⟨#[99, 97, 115, 104]⟩ : ByteArray), .string (⟨#[115, 97, 108, 101, 115]⟩ : ByteArray), .string (⟨#[115, 116, 111, 99, 107]⟩ : ByteArray), .string (⟨#[97]⟩ : ByteArray), .string (⟨#[98]⟩ : ByteArray), .string (⟨#[99, 45, 49]⟩ : ByteArray), .string (⟨#[100, 117, 101, 115]⟩ : ByteArray), .string (⟨#[116, 97, 120, 46, 100, 117, 101]⟩ : ByteArray), .string (⟨#[82, 50]⟩ : ByteArray), .string (⟨#[103, 111, 111, 100, 115]⟩ : ByteArray), .string (⟨#[119, 97, 103, 101, 115]⟩ : ByteArray), .string (⟨#[114, 101, 110, 116]⟩ : ByteArray), .string (⟨#[120, 95, 121]⟩ : ByteArray), .string (⟨#[112, 108, 97, 110, 116]⟩ : ByteArray)]) (ok := fun _ => True) (okp := fun _ => True) ?hr ?hp (fun _ hk => hk) trivial (Below.refl _ _) (Nat.le_refl _) (by simp) ?_; (case hd => rfl); (case hg => rfl); (case hr => first | (go_simp; done) | (go_simp; rfl)); (case hp => exact (Reps.one (show Kd.M Kd.string _ _ _ (⟨#[98, 97, 110, 107]⟩ : ByteArray) [.string (⟨#[98, 97, 110, 107]⟩ : ByteArray)] from rfl) (Reps.one (show Kd.M Kd.string _ _ _ (⟨#[99, 97, 115, 104]⟩ : ByteArray) [.string (⟨#[99, 97, 115, 104]⟩ : ByteArray)] from rfl) (Reps.one (show Kd.M Kd.string _ _ _ (⟨#[115, 97, 108, 101, 115]⟩ : ByteArray) [.string (⟨#[115, 97, 108, 101, 115]⟩ : ByteArray)] from rfl) (Reps.one (show Kd.M Kd.string _ _ _ (⟨#[115, 116, 111, 99, 107]⟩ : ByteArray) [.string (⟨#[115, 116, 111, 99, 107]⟩ : ByteArray)] from rfl) (Reps.one (show Kd.M Kd.string _ _ _ (⟨#[97]⟩ : ByteArray) [.string (⟨#[97]⟩ : ByteArray)] from rfl) (Reps.one (show Kd.M Kd.string _ _ _ (⟨#[98]⟩ : ByteArray) [.string (⟨#[98]⟩ : ByteArray)] from rfl) (Reps.one (show Kd.M Kd.string _ _ _ (⟨#[99, 45, 49]⟩ : ByteArray) [.string (⟨#[99, 45, 49]⟩ : ByteArray)] from rfl) (Reps.one (show Kd.M Kd.string _ _ _ (⟨#[100, 117, 101, 115]⟩ : ByteArray) [.string (⟨#[100, 117, 101, 115]⟩ : ByteArray)] from rfl) (Reps.one (show Kd.M Kd.string _ _ _ (⟨#[116, 97, 120, 46, 100, 117, 101]⟩ : ByteArray) [.string (⟨#[116, 97, 120, 46, 100, 117, 101]⟩ : ByteArray)] from rfl) (Reps.one (show Kd.M Kd.string _ _ _ (⟨#[82, 50]⟩ : ByteArray) [.string (⟨#[82, 50]⟩ : ByteArray)] from rfl) (Reps.one (show Kd.M Kd.string _ _ _ (⟨#[103, 111, 111, 100, 115]⟩ : ByteArray) [.string (⟨#[103, 111, 111, 100, 115]⟩ : ByteArray)] from rfl) (Reps.one (show Kd.M Kd.string _ _ _ (⟨#[119, 97, 103, 101, 115]⟩ : ByteArray) [.string (⟨#[119, 97, 103, 101, 115]⟩ : ByteArray)] from rfl) (Reps.one (show Kd.M Kd.string _ _ _ (⟨#[114, 101, 110, 116]⟩ : ByteArray) [.string (⟨#[114, 101, 110, 116]⟩ : ByteArray)] from rfl) (Reps.one (show Kd.M Kd.string _ _ _ (⟨#[120, 95, 121]⟩ : ByteArray) [.string (⟨#[120, 95, 121]⟩ : ByteArray)] from rfl) (Reps.one (show Kd.M Kd.string _ _ _ (⟨#[112, 108, 97, 110, 116]⟩ : ByteArray) [.string (⟨#[112, 108, 97, 110, 116]⟩ : ByteArray)] from rfl) (Reps.none _ _))))))))))))))))); intro v319 w3 ho4 hb hg_ hnew_; clear hg_ hnew_; (first | rw [← Ny318.out] at ho4 | (simp only [Int.reduceToNat] at ho4; rw [← Ny318.out] at ho4)); have n0_ := Aside0.mk (Kd.qu1 ho4 (qx0 (w := w) (g := g) (row := none) z8_5)); have n1_ := Aside0.mk (IsS186.below z8_3 hb); have n2_ := Aside0.mk (qc0.trans z8_5 (qc0.of_below hb g none) (.inl rfl)); have n3_ := Aside0.mk (ql0 z8_8 hb); clear HI0; clear HK; clear HB; have HO320 := n0_; have HI0 := n1_; have HK := n2_; have HB := n3_; clear n0_ n1_ n2_ n3_; clear hb ho4; obtain ⟨Ao5, co5, eo5⟩ := Kd.qn1 HO320.out; subst eo5) | ((with_reducible refine qg0 (f := 76) rfl ?_); refine qt0 (some 5) rfl rfl Try.func76 z8_21 rfl #[.pointer (some ⟨g, 0, none⟩), .slice Ao5 y318.length co5] rfl z8_9 ?_; (with_reducible refine (spec_l1Pick.calls g s0_0 s0_1 s0_2 _ _ y318 t321 t322 t323 w0 _ ?side1 ?side2 ?side3 ?side4 ?side5 A2.out).mono ?_); (case side1 => exact z8_3); (case side2 => exact z8_8); (case side3 => repeat (first | exact (Kd.qn0 HO320.out).2.2 | (with_reducible refine Kd.qx1 ?_ _) | (with_reducible refine Kd.qw1 ?_ _) | (with_reducible refine Kd.qg2 ?_))); (case side4 => exact (Kd.qn0 HO320.out).2.1); (case side5 => exact far_slice (IsS186.own_ne HI0.out HO320.out (by decide))); rintro e w6 ⟨rfl, hi, hb, hk⟩; refine ⟨_, rfl, ?_⟩; have n0_ := Aside0.mk (Kd.qm0 (Kd.qy0 (IsS186.apart (show IsS186 w0 _ g s0_0 s0_1 s0_2 from z8_3) (by (with_reducible repeat (first | apply Kd.qr0 | apply Kd.qp0 | apply Kd.qu0)); exact HO320.out) (by decide)) hk (fun _ h => h.2)) (fun _ h => h.1)); have n1_ := Aside0.mk (qc0.trans z8_5 hk (.inl rfl)); have n2_ := Aside0.mk (hb); have n3_ := Aside0.mk (hi); clear HO320; clear HK; clear HB; clear HI0; have HO320 := n0_; have HK := n1_; have HB := n2_; have HI0 := n3_; clear n0_ n1_ n2_ n3_; (try clear hb); (try clear hb2); (try clear hk); (try clear hi)))
 go_ret
 exact ⟨z8_19, z8_3, z8_8, z8_5⟩

end Go.Proofs.Ytkkdmmefnicmaaa.PFnChained
