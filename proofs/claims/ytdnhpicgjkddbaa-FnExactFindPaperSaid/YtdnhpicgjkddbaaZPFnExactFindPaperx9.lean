/- Lines by a program (a changed copy of the kit's print: this repo's wip/tools): Go functions as Lean functions, and proofs that the calls answer so. -/
import Derived.Test.YtdnhpicgjkddbaaZPFnExactFindPaperx0
import Derived.Test.YtdnhpicgjkddbaaZPFnExactFindPaperx1
import Derived.Test.YtdnhpicgjkddbaaZPFnExactFindPaperx3
import Derived.Test.YtdnhpicgjkddbaaZPFnExactFindPaperx6
import Derived.Test.YtdnhpicgjkddbaaZPFnExactFindPaperx7
import Derived.Test.YtdnhpicgjkddbaaZPFnExactFindPaperx8
namespace Go.Proofs.Ytdnhpicgjkddbaa.PFnExactFindPaper
open Go.RowKit Go.Proofs.YtdnhpicgjkddbaaW.PrintWords Go.Proofs.YtdnhpicgjkddbaaW.PrintLast Go.Proofs.YtdnhpicgjkddbaaW.PrintMore
attribute [local go_sem] max2_int min2_int max_two min_two max_three min_three max_four min_four   -- for this text's walks alone
set_option linter.unusedVariables false
set_option linter.unusedSimpArgs false

/-! ### impl_paperText: function 91 -/
def impl_paperText.l0 : Nat → ByteArray → List (S122) → List (S53) → Int → Int → Int → Bool → Option (ByteArray)
 | 0, _, _, _, _, _, _, _ => none
 | k + 1, x5, x218000, x218001, x219000, x219001, x219002, x219003 => if 0 ≤ x219000 then (if x219000 < (x218000.length : Int) then (if (x5.size : Int) < ((rd_T122 x218000 x219000).f1) then (if 1 + x5.size ≤ 9223372036854775807 then (impl_paperText.l0 k ((⟨#[48]⟩ : ByteArray) ++ x5) x218000 x218001 x219000 x219001 x219002 x219003) else (none)) else (if ((rd_T122 x218000 x219000).f0).size + 1 ≤ 9223372036854775807 then (if (((rd_T122 x218000 x219000).f0) ++ (⟨#[45]⟩ : ByteArray)).size + x5.size ≤ 9223372036854775807 then (some ((((rd_T122 x218000 x219000).f0) ++ (⟨#[45]⟩ : ByteArray)) ++ x5)) else (none)) else (none))) else (none)) else (none)
def impl_paperText.f (k : Nat) (l0_0 : List (S122)) (l0_1 : List (S53)) (a1_0 : Int) (a1_1 : Int) (a1_2 : Int) (a1_3 : Bool) : Option (ByteArray) := (impl_decimal.f k a1_1).bind fun t219 => (impl_paperText.l0 k t219 l0_0 l0_1 a1_0 a1_1 a1_2 a1_3)
theorem impl_paperText.mono_l : ∀ k, (∀ y0 y1 y2 y3 y4 y5 y6, LeO (impl_paperText.l0 k y0 y1 y2 y3 y4 y5 y6) (impl_paperText.l0 (k + 1) y0 y1 y2 y3 y4 y5 y6))
 | 0 => fun _ _ _ _ _ _ _ r h => by simp [impl_paperText.l0] at h
 | k + 1 => by
  have ih0 := impl_paperText.mono_l k
  ·intro y0 y1 y2 y3 y4 y5 y6
   unfold impl_paperText.l0
   repeat' first
   | (with_reducible exact ih0 _ _ _ _ _ _ _)
   | (with_reducible exact impl_decimal.mono _ _)
   | (with_reducible exact LeO.refl _)
   | (with_reducible exact LeO.none _)
   | (with_reducible refine LeO.ite ?_ ?_)
   | (with_reducible refine LeO.bind ?_ (fun _ => ?_))
   | exact ih0 _ _ _ _ _ _ _
   | exact impl_decimal.mono _ _
   | exact LeO.none _
   | refine LeO.ite ?_ ?_
   | refine LeO.bind ?_ (fun _ => ?_)
theorem impl_paperText.mono : ∀ a0 a1 a2 a3 a4 a5 k, LeO (impl_paperText.f k a0 a1 a2 a3 a4 a5) (impl_paperText.f (k + 1) a0 a1 a2 a3 a4 a5) := by
 intro a0 a1 a2 a3 a4 a5 k
 have ih0 := impl_paperText.mono_l k
 unfold impl_paperText.f
 repeat' first
   | (with_reducible exact ih0 _ _ _ _ _ _ _)
   | (with_reducible exact impl_decimal.mono _ _)
   | (with_reducible exact LeO.refl _)
   | (with_reducible exact LeO.none _)
   | (with_reducible refine LeO.ite ?_ ?_)
   | (with_reducible refine LeO.bind ?_ (fun _ => ?_))
   | exact ih0 _ _ _ _ _ _ _
   | exact impl_decimal.mono _ _
   | exact LeO.none _
   | refine LeO.ite ?_ ?_
   | refine LeO.bind ?_ (fun _ => ?_)
set_option maxHeartbeats 8000000 in
set_option maxRecDepth 100000 in
theorem impl_paperText.calls (k : Nat) (A0_0 : Option Addr) (c0_0 : Nat) (l0_0 : List (S122)) (A0_1 : Option Addr) (c0_1 : Nat) (l0_1 : List (S53)) (a1_0 : Int) (a1_1 : Int) (a1_2 : Int) (a1_3 : Bool) (r : ByteArray) (w : World) (hr0_0 : Kd.C k122 w A0_0 l0_0.length l0_0) (hc0_0 : l0_0.length ≤ c0_0) (hr0_1 : Kd.C k53 w A0_1 l0_1.length l0_1) (hc0_1 : l0_1.length ≤ c0_1) (h : impl_paperText.f k l0_0 l0_1 a1_0 a1_1 a1_2 a1_3 = some r) :
  Calls Try.prog 91 #[.agg #[.slice A0_0 l0_0.length c0_0, .slice A0_1 l0_1.length c0_1], .agg #[.int .i64 a1_0, .int .i64 a1_1, .int .i64 a1_2, .bool a1_3]] w fun e w' => e = .returned (.string r) ∧ Below w.heap.size w w' := by
 have hu42 := Try.underlying42
 have hu53 := Try.underlying53
 have HR0_0 := Aside0.mk hr0_0
 have HC0_0 := Aside0.mk hc0_0
 clear hr0_0 hc0_0
 have HR0_1 := Aside0.mk hr0_1
 have HC0_1 := Aside0.mk hc0_1
 clear hr0_1 hc0_1
 have HB := Aside0.mk (Below.refl w.heap.size w)
 have H : ((impl_decimal.f k a1_1).bind fun t219 => (impl_paperText.l0 k t219 l0_0 l0_1 a1_0 a1_1 a1_2 a1_3)) = some r := h
 clear h
 replace H := Option.bind_eq_some_iff.mp H
 obtain ⟨t219, A30, H⟩ := H
 replace H : (impl_paperText.l0 k t219 l0_0 l0_1 a1_0 a1_1 a1_2 a1_3) = some r := H
 have A3 := Aside0.mk A30
 clear A30
 have H' := Aside0.mk H
 clear H
 go_enter Try.func91, Try.ntmps91
 go_wp2_with (first | ((with_reducible refine qs0 (N := 2) rfl ?_); refine qr0 ?hg (N := 2) ?hd (cs := #[.slice A0_0 l0_0.length c0_0, .slice A0_1 l0_1.length c0_1]) (t := 42) ?hr ?_; (case hd => rfl); (case hg => rfl); (case hr => first | (go_simp; done) | (go_simp; rfl)); intro gb217 hg w4 hbox hb; have n0_ := Aside0.mk (ql0 (by repeat (first | (with_reducible first | exact HB.out | apply qc0 | apply qa0 | apply qb0) | exact HB.out)) hb); have n1_ := Aside0.mk (hbox); have n2_ := Aside0.mk ((by rw [hg]; exact (qk0 (by repeat (first | (with_reducible first | exact HB.out | apply qc0 | apply qa0 | apply qb0) | exact HB.out))) : w.heap.size ≤ gb217)); have n3_ := Aside0.mk ((by rw [hg]; exact (qk0 (by repeat (first | (with_reducible first | exact HB.out | apply qc0 | apply qa0 | apply qb0) | exact HB.out))) : w.heap.size ≤ gb217)); clear HB; have HB := n0_; have BK217 := n1_; have GW217 := n2_; have GE217 := n3_; clear n0_ n1_ n2_ n3_; clear hb hbox hg) | ((with_reducible refine qs0 (N := 3) rfl ?_); refine qr0 ?hg (N := 3) ?hd (cs := #[.int .i64 a1_0, .int .i64 a1_1, .int .i64 a1_2, .bool a1_3]) (t := 53) ?hr ?_; (case hd => rfl); (case hg => rfl); (case hr => first | (go_simp; done) | (go_simp; rfl)); intro gb218 hg w5 hbox hb; have n0_ := Aside0.mk (qm0 (g := gb217) (o := .cells #[.slice A0_0 l0_0.length c0_0, .slice A0_1 l0_1.length c0_1] 42 (0, 0)) (by (with_reducible repeat (first | refine qd0 ?_ _ | refine qh0 ?_ | refine qe0 ?_ _)); exact BK217.out) hb); have n1_ := Aside0.mk (ql0 (by repeat (first | (with_reducible first | exact HB.out | apply qc0 | apply qa0 | apply qb0 | refine qf0 ?_ GE217.out) | exact HB.out)) hb); have n2_ := Aside0.mk (hbox); have n3_ := Aside0.mk ((by rw [hg]; exact (qk0 (by repeat (first | (with_reducible first | exact HB.out | apply qc0 | apply qa0 | apply qb0 | refine qf0 ?_ GE217.out) | exact HB.out))) : w.heap.size ≤ gb218)); have n4_ := Aside0.mk ((by rw [hg]; exact (qk0 (by repeat (first | (with_reducible first | exact HB.out | apply qc0 | apply qa0 | apply qb0 | refine qf0 ?_ GE217.out) | exact HB.out))) : w.heap.size ≤ gb218)); have n5_ := Aside0.mk ((by rw [hg]; exact Nat.ne_of_lt (qa1 (g := gb217) (o := .cells #[.slice A0_0 l0_0.length c0_0, .slice A0_1 l0_1.length c0_1] 42 (0, 0)) (by (with_reducible repeat (first | refine qd0 ?_ _ | refine qh0 ?_ | refine qe0 ?_ _)); exact BK217.out)) : gb217 ≠ gb218)); have n6_ := Aside0.mk ((by rw [hg]; exact Nat.ne_of_gt (qa1 (g := gb217) (o := .cells #[.slice A0_0 l0_0.length c0_0, .slice A0_1 l0_1.length c0_1] 42 (0, 0)) (by (with_reducible repeat (first | refine qd0 ?_ _ | refine qh0 ?_ | refine qe0 ?_ _)); exact BK217.out)) : gb218 ≠ gb217)); clear BK217; clear HB; have BK217 := n0_; have HB := n1_; have BK218 := n2_; have GW218 := n3_; have GE218 := n4_; have NB217_218 := n5_; have NB218_217 := n6_; clear n0_ n1_ n2_ n3_ n4_ n5_ n6_; clear hb hbox hg; have hnb6 := NB218_217.out; have hnc6 := NB217_218.out; have hcz7_0 : w5.cell? ⟨gb218, 0, none⟩ = some (.int .i64 a1_0) := (qg0 BK218.out 0).trans rfl; have hcz7_1 : w5.cell? ⟨gb218, 1, none⟩ = some (.int .i64 a1_1) := (qg0 BK218.out 1).trans rfl; have hcz7_2 : w5.cell? ⟨gb218, 2, none⟩ = some (.int .i64 a1_2) := (qg0 BK218.out 2).trans rfl; have hcz7_3 : w5.cell? ⟨gb218, 3, none⟩ = some (.bool a1_3) := (qg0 BK218.out 3).trans rfl; have hfz7_0 := qi0 BK218.out 0; have hfz7_1 := qi0 BK218.out 1; have hfz7_2 := qi0 BK218.out 2; have hfz7_3 := qi0 BK218.out 3) | ((with_reducible refine qn0 (f := 157) rfl ?_); refine qe1 (some 8) rfl rfl Try.func157 (by kernel_rfl) rfl #[.int .i64 a1_1] rfl (by (try simp only [List.map_toArray, List.map_cons, List.map_nil]); first | done | rfl | (simp only [List.length_drop, List.length_take]; rfl)) ?_; (with_reducible refine (impl_decimal.calls k a1_1 t219 _ A3.out).mono ?_); rintro e w8 ⟨rfl, hb⟩; refine ⟨_, rfl, ?_⟩; have n0_ := Aside0.mk (qm0 (g := gb217) (o := .cells #[.slice A0_0 l0_0.length c0_0, .slice A0_1 l0_1.length c0_1] 42 (0, 0)) (by (with_reducible repeat (first | refine qd0 ?_ _ | refine qh0 ?_ | refine qe0 ?_ _)); exact BK217.out) hb); have n1_ := Aside0.mk (qm0 (g := gb218) (o := .cells #[.int .i64 a1_0, .int .i64 a1_1, .int .i64 a1_2, .bool a1_3] 53 (0, 0)) (by (with_reducible repeat (first | refine qd0 ?_ _ | refine qh0 ?_ | refine qe0 ?_ _)); exact BK218.out) hb); have n2_ := Aside0.mk (ql0 (by repeat (first | (with_reducible first | exact HB.out | apply qc0 | apply qa0 | apply qb0 | refine qf0 ?_ GE217.out | refine qf0 ?_ GE218.out) | exact HB.out)) hb); clear BK217; clear BK218; clear HB; have BK217 := n0_; have BK218 := n1_; have HB := n2_; clear n0_ n1_ n2_; (try clear hb); (try clear hb2); (try clear hk); (try clear hi)))
 go_loopg [5] k (fun kq v5 w' => ∃ (x5_1 : ByteArray), v5 = .string x5_1 ∧ Aside0 (impl_paperText.l0 kq x5_1 l0_0 l0_1 a1_0 a1_1 a1_2 a1_3 = some r) ∧ Aside0 (kq ≤ k) ∧ Aside0 (w'.heap[gb217]? = some (.cells #[(.slice A0_0 l0_0.length c0_0), (.slice A0_1 l0_1.length c0_1)] 42 (0, 0))) ∧ Aside0 (w'.heap[gb218]? = some (.cells #[.int .i64 a1_0, .int .i64 a1_1, .int .i64 a1_2, .bool a1_3] 53 (0, 0))) ∧ Aside0 (Below w.heap.size w w'))
 case atStart => exact ⟨(t219), (by first | rfl | (simp; done) | (simp [*]; done)), H', ⟨Nat.le_refl _⟩, ⟨by (with_reducible repeat (first | refine qd0 ?_ _ | refine qh0 ?_ | refine qe0 ?_ _)); exact BK217.out⟩, ⟨by (with_reducible repeat (first | refine qd0 ?_ _ | refine qh0 ?_ | refine qe0 ?_ _)); exact BK218.out⟩, ⟨by repeat (first | (with_reducible first | exact HB.out | apply qc0 | apply qa0 | apply qb0 | refine qf0 ?_ GE217.out | refine qf0 ?_ GE218.out) | exact HB.out)⟩⟩
 case round =>
  clear H'
  try clear c1
  try clear p2
  try clear c6
  try clear hcz7_0
  try clear hcz7_1
  try clear hcz7_2
  try clear hcz7_3
  try clear hfz7_0
  try clear hfz7_1
  try clear hfz7_2
  try clear hfz7_3
  obtain ⟨x5_1, rfl, HA, HK1, BK217, BK218, HB⟩ := hrel
  cases gk with
  | zero => exact absurd HA.out (by simp [impl_paperText.l0])
  | succ k1 =>
   have H := HA.out
   clear HA
   simp only [impl_paperText.l0] at H
   by_cases c9 : 0 ≤ a1_0
   case neg => rw [if_neg c9] at H; exact absurd H (by simp)
   rw [if_pos c9] at H
   have c9b0 : decide (0 ≤ a1_0) = true := decide_eq_true c9
   clear c9
   by_cases c10 : a1_0 < (l0_0.length : Int)
   case neg => rw [if_neg c10] at H; exact absurd H (by simp)
   rw [if_pos c10] at H
   have c10b0 : decide (a1_0 < (l0_0.length : Int)) = true := decide_eq_true c10
   clear c10
   by_cases c11 : (x5_1.size : Int) < ((rd_T122 l0_0 a1_0).f1)
   ·rw [if_pos c11] at H
    have c11b0 : decide ((x5_1.size : Int) < ((rd_T122 l0_0 a1_0).f1)) = true := decide_eq_true c11
    clear c11
    by_cases c12 : 1 + x5_1.size ≤ 9223372036854775807
    case neg => rw [if_neg c12] at H; exact absurd H (by simp)
    rw [if_pos c12] at H
    have c12b0 := eq_true c12
    have c12b1 : decide (1 + x5_1.size ≤ 9223372036854775807) = true := decide_eq_true c12
    try have c12b2 : (9223372036854775807 < 1 + x5_1.size) = False := eq_false (Nat.not_lt.2 c12)
    have H' := Aside0.mk H
    clear H
    have hnb13 := NB217_218.out
    have hnc13 := NB218_217.out
    have hcz14_0 : wr.cell? ⟨gb217, 0, none⟩ = some (.slice A0_0 l0_0.length c0_0) := (qg0 BK217.out 0).trans rfl
    have hcz14_1 : wr.cell? ⟨gb217, 1, none⟩ = some (.slice A0_1 l0_1.length c0_1) := (qg0 BK217.out 1).trans rfl
    have hfz14_0 := qi0 BK217.out 0
    have hfz14_1 := qi0 BK217.out 1
    have hcz15_0 : wr.cell? ⟨gb218, 0, none⟩ = some (.int .i64 a1_0) := (qg0 BK218.out 0).trans rfl
    have hcz15_1 : wr.cell? ⟨gb218, 1, none⟩ = some (.int .i64 a1_1) := (qg0 BK218.out 1).trans rfl
    have hcz15_2 : wr.cell? ⟨gb218, 2, none⟩ = some (.int .i64 a1_2) := (qg0 BK218.out 2).trans rfl
    have hcz15_3 : wr.cell? ⟨gb218, 3, none⟩ = some (.bool a1_3) := (qg0 BK218.out 3).trans rfl
    have hfz15_0 := qi0 BK218.out 0
    have hfz15_1 := qi0 BK218.out 1
    have hfz15_2 := qi0 BK218.out 2
    have hfz15_3 := qi0 BK218.out 3
    have p220 : 0 ≤ (a1_0 : Int) := of_decide_eq_true (by first | (with_reducible assumption) | assumption)
    have q220 : a1_0 < (l0_0.length : Int) := of_decide_eq_true (by first | (with_reducible assumption) | assumption)
    obtain ⟨ad220, e220, hx220_0, hx220_1⟩ := at_T122 HR0_0.out a1_0 p220 q220
    cases e220
    replace hx220_0 := (HB.out.cell (World.block_lt_of_cell? w _ hx220_0)).trans hx220_0
    replace hx220_1 := (HB.out.cell (World.block_lt_of_cell? w _ hx220_1)).trans hx220_1
    replace p220 := eq_true p220
    replace q220 := eq_true q220
    go_wp2
    go_roundg k1
    case measure => have := HK1.out; omega
    case rel => exact ⟨((⟨#[48]⟩ : ByteArray) ++ x5_1), (by first | rfl | (simp; done) | (simp [*]; done)), H', ⟨by have := HK1.out; omega⟩, ⟨by (with_reducible repeat (first | refine qd0 ?_ _ | refine qh0 ?_ | refine qe0 ?_ _)); exact BK217.out⟩, ⟨by (with_reducible repeat (first | refine qd0 ?_ _ | refine qh0 ?_ | refine qe0 ?_ _)); exact BK218.out⟩, ⟨by repeat (first | (with_reducible first | exact HB.out | apply qc0 | apply qa0 | apply qb0 | refine qf0 ?_ GE217.out | refine qf0 ?_ GE218.out) | exact HB.out)⟩⟩
   rw [if_neg c11] at H
   have c11b0 : decide ((x5_1.size : Int) < ((rd_T122 l0_0 a1_0).f1)) = false := decide_eq_false c11
   clear c11
   by_cases c16 : ((rd_T122 l0_0 a1_0).f0).size + 1 ≤ 9223372036854775807
   case neg => rw [if_neg c16] at H; exact absurd H (by simp)
   rw [if_pos c16] at H
   have c16b0 := eq_true c16
   have c16b1 : decide (((rd_T122 l0_0 a1_0).f0).size + 1 ≤ 9223372036854775807) = true := decide_eq_true c16
   try have c16b2 : (9223372036854775807 < ((rd_T122 l0_0 a1_0).f0).size + 1) = False := eq_false (Nat.not_lt.2 c16)
   by_cases c17 : (((rd_T122 l0_0 a1_0).f0) ++ (⟨#[45]⟩ : ByteArray)).size + x5_1.size ≤ 9223372036854775807
   case neg => rw [if_neg c17] at H; exact absurd H (by simp)
   rw [if_pos c17] at H
   have c17b0 := eq_true c17
   have c17b1 : decide ((((rd_T122 l0_0 a1_0).f0) ++ (⟨#[45]⟩ : ByteArray)).size + x5_1.size ≤ 9223372036854775807) = true := decide_eq_true c17
   try have c17b2 : (9223372036854775807 < (((rd_T122 l0_0 a1_0).f0) ++ (⟨#[45]⟩ : ByteArray)).size + x5_1.size) = False := eq_false (Nat.not_lt.2 c17)
   obtain rfl := Option.some.inj H
   have hnb18 := NB217_218.out
   have hnc18 := NB218_217.out
   have hcz19_0 : wr.cell? ⟨gb217, 0, none⟩ = some (.slice A0_0 l0_0.length c0_0) := (qg0 BK217.out 0).trans rfl
   have hcz19_1 : wr.cell? ⟨gb217, 1, none⟩ = some (.slice A0_1 l0_1.length c0_1) := (qg0 BK217.out 1).trans rfl
   have hfz19_0 := qi0 BK217.out 0
   have hfz19_1 := qi0 BK217.out 1
   have hcz20_0 : wr.cell? ⟨gb218, 0, none⟩ = some (.int .i64 a1_0) := (qg0 BK218.out 0).trans rfl
   have hcz20_1 : wr.cell? ⟨gb218, 1, none⟩ = some (.int .i64 a1_1) := (qg0 BK218.out 1).trans rfl
   have hcz20_2 : wr.cell? ⟨gb218, 2, none⟩ = some (.int .i64 a1_2) := (qg0 BK218.out 2).trans rfl
   have hcz20_3 : wr.cell? ⟨gb218, 3, none⟩ = some (.bool a1_3) := (qg0 BK218.out 3).trans rfl
   have hfz20_0 := qi0 BK218.out 0
   have hfz20_1 := qi0 BK218.out 1
   have hfz20_2 := qi0 BK218.out 2
   have hfz20_3 := qi0 BK218.out 3
   have p220 : 0 ≤ (a1_0 : Int) := of_decide_eq_true (by first | (with_reducible assumption) | assumption)
   have q220 : a1_0 < (l0_0.length : Int) := of_decide_eq_true (by first | (with_reducible assumption) | assumption)
   obtain ⟨ad220, e220, hx220_0, hx220_1⟩ := at_T122 HR0_0.out a1_0 p220 q220
   cases e220
   replace hx220_0 := (HB.out.cell (World.block_lt_of_cell? w _ hx220_0)).trans hx220_0
   replace hx220_1 := (HB.out.cell (World.block_lt_of_cell? w _ hx220_1)).trans hx220_1
   replace p220 := eq_true p220
   replace q220 := eq_true q220
   have p221 : 0 ≤ (a1_0 : Int) := of_decide_eq_true (by first | (with_reducible assumption) | assumption)
   have q221 : a1_0 < (l0_0.length : Int) := of_decide_eq_true (by first | (with_reducible assumption) | assumption)
   obtain ⟨ad221, e221, hx221_0, hx221_1⟩ := at_T122 HR0_0.out a1_0 p221 q221
   obtain rfl : ad220 = ad221 := (by injection e221)
   replace hx221_0 := (HB.out.cell (World.block_lt_of_cell? w _ hx221_0)).trans hx221_0
   replace hx221_1 := (HB.out.cell (World.block_lt_of_cell? w _ hx221_1)).trans hx221_1
   replace p221 := eq_true p221
   replace q221 := eq_true q221
   go_wp2
   go_ret
   exact ⟨by first | rfl | (simp [errW_none, errW_some] <;> rfl) | (simp [*, errW_none, errW_some] <;> rfl), by repeat (first | (with_reducible first | exact HB.out | apply qc0 | apply qa0 | apply qb0 | refine qf0 ?_ GE217.out | refine qf0 ?_ GE218.out) | exact HB.out)⟩

/-! ### impl_FindPaper: function 29 -/
def impl_FindPaper.l0 : Nat → ByteArray → List (S53) → Int → Int → List (S122) → List (S53) → Option (Int)
 | 0, _, _, _, _, _, _ => none
 | k + 1, x1, x11, x12, x13, x223000, x223001 => if x13 < x12 then (if 0 ≤ x13 then (if x13 < (x11.length : Int) then ((impl_paperText.f k x223000 x223001 ((rd_T53 x11 x13).f0) ((rd_T53 x11 x13).f1) ((rd_T53 x11 x13).f2) ((rd_T53 x11 x13).f3)).bind fun t226 => (if t226.toList = x1.toList then (some x13) else (impl_FindPaper.l0 k x1 x11 x12 (wrap64 (x13 + 1)) x223000 x223001))) else (none)) else (none)) else (some (-1))
def impl_FindPaper.f (k : Nat) (l0_0 : List (S122)) (l0_1 : List (S53)) (a1 : ByteArray) : Option (Int) := (impl_RegisterOk.f k l0_0 l0_1).bind fun t223 => (if t223 = true then (impl_FindPaper.l0 k a1 l0_1 (l0_1.length : Int) 0 l0_0 l0_1) else (some (-1)))
theorem impl_FindPaper.mono_l : ∀ k, (∀ y0 y1 y2 y3 y4 y5, LeO (impl_FindPaper.l0 k y0 y1 y2 y3 y4 y5) (impl_FindPaper.l0 (k + 1) y0 y1 y2 y3 y4 y5))
 | 0 => fun _ _ _ _ _ _ r h => by simp [impl_FindPaper.l0] at h
 | k + 1 => by
  have ih0 := impl_FindPaper.mono_l k
  ·intro y0 y1 y2 y3 y4 y5
   unfold impl_FindPaper.l0
   repeat' first
   | (with_reducible exact ih0 _ _ _ _ _ _)
   | (with_reducible exact impl_RegisterOk.mono _ _ _)
   | (with_reducible exact impl_paperText.mono _ _ _ _ _ _ _)
   | (with_reducible exact LeO.refl _)
   | (with_reducible exact LeO.none _)
   | (with_reducible refine LeO.ite ?_ ?_)
   | (with_reducible refine LeO.bind ?_ (fun _ => ?_))
   | exact ih0 _ _ _ _ _ _
   | exact impl_RegisterOk.mono _ _ _
   | exact impl_paperText.mono _ _ _ _ _ _ _
   | exact LeO.none _
   | refine LeO.ite ?_ ?_
   | refine LeO.bind ?_ (fun _ => ?_)
theorem impl_FindPaper.mono : ∀ a0 a1 a2 k, LeO (impl_FindPaper.f k a0 a1 a2) (impl_FindPaper.f (k + 1) a0 a1 a2) := by
 intro a0 a1 a2 k
 have ih0 := impl_FindPaper.mono_l k
 unfold impl_FindPaper.f
 repeat' first
   | (with_reducible exact ih0 _ _ _ _ _ _)
   | (with_reducible exact impl_RegisterOk.mono _ _ _)
   | (with_reducible exact impl_paperText.mono _ _ _ _ _ _ _)
   | (with_reducible exact LeO.refl _)
   | (with_reducible exact LeO.none _)
   | (with_reducible refine LeO.ite ?_ ?_)
   | (with_reducible refine LeO.bind ?_ (fun _ => ?_))
   | exact ih0 _ _ _ _ _ _
   | exact impl_RegisterOk.mono _ _ _
   | exact impl_paperText.mono _ _ _ _ _ _ _
   | exact LeO.none _
   | refine LeO.ite ?_ ?_
   | refine LeO.bind ?_ (fun _ => ?_)
set_option maxHeartbeats 8000000 in
set_option maxRecDepth 100000 in
theorem impl_FindPaper.calls (k : Nat) (A0_0 : Option Addr) (c0_0 : Nat) (l0_0 : List (S122)) (A0_1 : Option Addr) (c0_1 : Nat) (l0_1 : List (S53)) (a1 : ByteArray) (r : Int) (w : World) (hr0_0 : Kd.C k122 w A0_0 l0_0.length l0_0) (hc0_0 : l0_0.length ≤ c0_0) (hr0_1 : Kd.C k53 w A0_1 l0_1.length l0_1) (hc0_1 : l0_1.length ≤ c0_1) (h : impl_FindPaper.f k l0_0 l0_1 a1 = some r) :
  Calls Try.prog 29 #[.agg #[.slice A0_0 l0_0.length c0_0, .slice A0_1 l0_1.length c0_1], .string a1] w fun e w' => e = .returned (.int .i64 r) ∧ Below w.heap.size w w' := by
 have hu42 := Try.underlying42
 have hu53 := Try.underlying53
 have HR0_0 := Aside0.mk hr0_0
 have HC0_0 := Aside0.mk hc0_0
 clear hr0_0 hc0_0
 have HR0_1 := Aside0.mk hr0_1
 have HC0_1 := Aside0.mk hc0_1
 clear hr0_1 hc0_1
 have HB := Aside0.mk (Below.refl w.heap.size w)
 have H : ((impl_RegisterOk.f k l0_0 l0_1).bind fun t223 => (if t223 = true then (impl_FindPaper.l0 k a1 l0_1 (l0_1.length : Int) 0 l0_0 l0_1) else (some (-1)))) = some r := h
 clear h
 replace H := Option.bind_eq_some_iff.mp H
 obtain ⟨t223, A30, H⟩ := H
 replace H : (if t223 = true then (impl_FindPaper.l0 k a1 l0_1 (l0_1.length : Int) 0 l0_0 l0_1) else (some (-1))) = some r := H
 have A3 := Aside0.mk A30
 clear A30
 by_cases c4 : t223 = true
 ·subst c4
  have H1 : (impl_FindPaper.l0 k a1 l0_1 (l0_1.length : Int) 0 l0_0 l0_1) = some r := by rw [if_pos rfl] at H; exact H
  clear H
  have H := H1
  clear H1
  have H' := Aside0.mk H
  clear H
  go_enter Try.func29, Try.ntmps29
  go_wp2_with (first | ((with_reducible refine qs0 (N := 2) rfl ?_); refine qr0 ?hg (N := 2) ?hd (cs := #[.slice A0_0 l0_0.length c0_0, .slice A0_1 l0_1.length c0_1]) (t := 42) ?hr ?_; (case hd => rfl); (case hg => rfl); (case hr => first | (go_simp; done) | (go_simp; rfl)); intro gb222 hg w5 hbox hb; have n0_ := Aside0.mk (ql0 (by repeat (first | (with_reducible first | exact HB.out | apply qc0 | apply qa0 | apply qb0) | exact HB.out)) hb); have n1_ := Aside0.mk (hbox); have n2_ := Aside0.mk ((by rw [hg]; exact (qk0 (by repeat (first | (with_reducible first | exact HB.out | apply qc0 | apply qa0 | apply qb0) | exact HB.out))) : w.heap.size ≤ gb222)); have n3_ := Aside0.mk ((by rw [hg]; exact (qk0 (by repeat (first | (with_reducible first | exact HB.out | apply qc0 | apply qa0 | apply qb0) | exact HB.out))) : w.heap.size ≤ gb222)); clear HB; have HB := n0_; have BK222 := n1_; have GW222 := n2_; have GE222 := n3_; clear n0_ n1_ n2_ n3_; clear hb hbox hg; have hcz6_0 : w5.cell? ⟨gb222, 0, none⟩ = some (.slice A0_0 l0_0.length c0_0) := (qg0 BK222.out 0).trans rfl; have hcz6_1 : w5.cell? ⟨gb222, 1, none⟩ = some (.slice A0_1 l0_1.length c0_1) := (qg0 BK222.out 1).trans rfl; have hfz6_0 := qi0 BK222.out 0; have hfz6_1 := qi0 BK222.out 1) | ((with_reducible refine qn0 (f := 24) rfl ?_); refine qe1 (some 8) rfl rfl Try.func24 (by kernel_rfl) rfl #[.agg #[.slice A0_0 l0_0.length c0_0, .slice A0_1 l0_1.length c0_1]] rfl (by (try simp only [List.map_toArray, List.map_cons, List.map_nil]); first | done | rfl | (simp only [List.length_drop, List.length_take]; rfl)) ?_; (with_reducible refine (impl_RegisterOk.calls k _ _ l0_0 _ _ l0_1 true _ ?side1 ?side2 ?side3 ?side4 A3.out).mono ?_); (case side1 => repeat (first | exact (Kd.qy0 HR0_0.out HB.out) | (with_reducible refine Kd.qw0 ?_ _) | (with_reducible refine Kd.qv0 ?_ _) | (with_reducible refine Kd.qb1 ?_))); (case side2 => exact HC0_0.out); (case side3 => repeat (first | exact (Kd.qy0 HR0_1.out HB.out) | (with_reducible refine Kd.qw0 ?_ _) | (with_reducible refine Kd.qv0 ?_ _) | (with_reducible refine Kd.qb1 ?_))); (case side4 => exact HC0_1.out); rintro e w7 ⟨rfl, hb⟩; refine ⟨_, rfl, ?_⟩; have n0_ := Aside0.mk (qm0 (g := gb222) (o := .cells #[.slice A0_0 l0_0.length c0_0, .slice A0_1 l0_1.length c0_1] 42 (0, 0)) (by (with_reducible repeat (first | refine qd0 ?_ _ | refine qh0 ?_ | refine qe0 ?_ _)); exact BK222.out) hb); have n1_ := Aside0.mk (ql0 (by repeat (first | (with_reducible first | exact HB.out | apply qc0 | apply qa0 | apply qb0 | refine qf0 ?_ GE222.out) | exact HB.out)) hb); clear BK222; clear HB; have BK222 := n0_; have HB := n1_; clear n0_ n1_; (try clear hb); (try clear hb2); (try clear hk); (try clear hi); have hcz8_0 : w7.cell? ⟨gb222, 0, none⟩ = some (.slice A0_0 l0_0.length c0_0) := (qg0 BK222.out 0).trans rfl; have hcz8_1 : w7.cell? ⟨gb222, 1, none⟩ = some (.slice A0_1 l0_1.length c0_1) := (qg0 BK222.out 1).trans rfl; have hfz8_0 := qi0 BK222.out 0; have hfz8_1 := qi0 BK222.out 1))
  go_loopg [13] k (fun kq v13 w' => ∃ (x13_1 : Int), v13 = .int .i64 x13_1 ∧ Aside0 (impl_FindPaper.l0 kq a1 l0_1 (l0_1.length : Int) x13_1 l0_0 l0_1 = some r) ∧ Aside0 (kq ≤ k) ∧ Aside0 (w'.heap[gb222]? = some (.cells #[(.slice A0_0 l0_0.length c0_0), (.slice A0_1 l0_1.length c0_1)] 42 (0, 0))) ∧ Aside0 (Below w.heap.size w w'))
  case atStart => exact ⟨(0), (by first | rfl | (simp; done) | (simp [*]; done)), H', ⟨Nat.le_refl _⟩, ⟨by (with_reducible repeat (first | refine qd0 ?_ _ | refine qh0 ?_ | refine qe0 ?_ _)); exact BK222.out⟩, ⟨by repeat (first | (with_reducible first | exact HB.out | apply qc0 | apply qa0 | apply qb0 | refine qf0 ?_ GE222.out) | exact HB.out)⟩⟩
  case round =>
   clear H'
   try clear c2
   try clear p2
   try clear c4
   try clear hcz6_0
   try clear hcz6_1
   try clear hcz8_0
   try clear hcz8_1
   try clear hfz6_0
   try clear hfz6_1
   try clear hfz8_0
   try clear hfz8_1
   obtain ⟨x13_1, rfl, HA, HK1, BK222, HB⟩ := hrel
   cases gk with
   | zero => exact absurd HA.out (by simp [impl_FindPaper.l0])
   | succ k1 =>
    have H := HA.out
    clear HA
    simp only [impl_FindPaper.l0] at H
    by_cases c9 : x13_1 < (l0_1.length : Int)
    ·rw [if_pos c9] at H
     have c9b0 : decide (x13_1 < (l0_1.length : Int)) = true := decide_eq_true c9
     clear c9
     by_cases c10 : 0 ≤ x13_1
     case neg => rw [if_neg c10] at H; exact absurd H (by simp)
     rw [if_pos c10] at H
     have c10b0 : decide (0 ≤ x13_1) = true := decide_eq_true c10
     clear c10
     by_cases c11 : x13_1 < (l0_1.length : Int)
     case neg => rw [if_neg c11] at H; exact absurd H (by simp)
     rw [if_pos c11] at H
     have c11b0 : decide (x13_1 < (l0_1.length : Int)) = true := decide_eq_true c11
     clear c11
     replace H := Option.bind_eq_some_iff.mp H
     obtain ⟨t226, A120, H⟩ := H
     replace H : (if t226.toList = a1.toList then (some x13_1) else (impl_FindPaper.l0 k1 a1 l0_1 (l0_1.length : Int) (wrap64 (x13_1 + 1)) l0_0 l0_1)) = some r := H
     have A12 := Aside0.mk A120
     clear A120
     by_cases c13 : t226.toList = a1.toList
     ·rw [if_pos c13] at H
      have c13b0 : (t226.toList == a1.toList) = true := beq_iff_eq.mpr c13
      have c13b1 : (t226.toList != a1.toList) = false := bne_eq_false_iff_eq.mpr c13
      clear c13
      obtain rfl := Option.some.inj H
      have p224 : 0 ≤ (x13_1 : Int) := of_decide_eq_true (by first | (with_reducible assumption) | assumption)
      have q224 : x13_1 < (l0_1.length : Int) := of_decide_eq_true (by first | (with_reducible assumption) | assumption)
      obtain ⟨ad224, e224, hx224_0, hx224_1, hx224_2, hx224_3⟩ := at_T53 HR0_1.out x13_1 p224 q224
      cases e224
      replace hx224_0 := (HB.out.cell (World.block_lt_of_cell? w _ hx224_0)).trans hx224_0
      replace hx224_1 := (HB.out.cell (World.block_lt_of_cell? w _ hx224_1)).trans hx224_1
      replace hx224_2 := (HB.out.cell (World.block_lt_of_cell? w _ hx224_2)).trans hx224_2
      replace hx224_3 := (HB.out.cell (World.block_lt_of_cell? w _ hx224_3)).trans hx224_3
      replace p224 := eq_true p224
      replace q224 := eq_true q224
      go_wp2_with (first | ((with_reducible refine qs0 (N := 6) rfl ?_); refine qr0 ?hg (N := 6) ?hd (cs := #[.int .i64 0, .int .i64 0, .int .i64 0, .bool false]) (t := 53) ?hr ?_; (case hd => rfl); (case hg => rfl); (case hr => first | (go_simp; done) | (go_simp; rfl)); intro gb225 hg w14 hbox hb; have n0_ := Aside0.mk (qm0 (g := gb222) (o := .cells #[.slice A0_0 l0_0.length c0_0, .slice (some ad224) l0_1.length c0_1] 42 (0, 0)) (by (with_reducible repeat (first | refine qd0 ?_ _ | refine qh0 ?_ | refine qe0 ?_ _)); exact BK222.out) hb); have n1_ := Aside0.mk (ql0 (by repeat (first | (with_reducible first | exact HB.out | apply qc0 | apply qa0 | apply qb0 | refine qf0 ?_ GE222.out) | exact HB.out)) hb); have n2_ := Aside0.mk (hbox); have n3_ := Aside0.mk ((by rw [hg]; exact (qk0 (by repeat (first | (with_reducible first | exact HB.out | apply qc0 | apply qa0 | apply qb0 | refine qf0 ?_ GE222.out) | exact HB.out))) : w.heap.size ≤ gb225)); have n4_ := Aside0.mk ((by rw [hg]; exact (qk0 (by repeat (first | (with_reducible first | exact HB.out | apply qc0 | apply qa0 | apply qb0 | refine qf0 ?_ GE222.out) | exact HB.out))) : w.heap.size ≤ gb225)); have n5_ := Aside0.mk ((by rw [hg]; exact Nat.ne_of_lt (qa1 (g := gb222) (o := .cells #[.slice A0_0 l0_0.length c0_0, .slice (some ad224) l0_1.length c0_1] 42 (0, 0)) (by (with_reducible repeat (first | refine qd0 ?_ _ | refine qh0 ?_ | refine qe0 ?_ _)); exact BK222.out)) : gb222 ≠ gb225)); have n6_ := Aside0.mk ((by rw [hg]; exact Nat.ne_of_gt (qa1 (g := gb222) (o := .cells #[.slice A0_0 l0_0.length c0_0, .slice (some ad224) l0_1.length c0_1] 42 (0, 0)) (by (with_reducible repeat (first | refine qd0 ?_ _ | refine qh0 ?_ | refine qe0 ?_ _)); exact BK222.out)) : gb225 ≠ gb222)); clear BK222; clear HB; have BK222 := n0_; have HB := n1_; have BK225 := n2_; have GW225 := n3_; have GE225 := n4_; have NB222_225 := n5_; have NB225_222 := n6_; clear n0_ n1_ n2_ n3_ n4_ n5_ n6_; clear hb hbox hg; have hnb15 := NB225_222.out; have hnc15 := NB222_225.out; have hcz16_0 : w14.cell? ⟨gb225, 0, none⟩ = some (.int .i64 0) := (qg0 BK225.out 0).trans rfl; have hcz16_1 : w14.cell? ⟨gb225, 1, none⟩ = some (.int .i64 0) := (qg0 BK225.out 1).trans rfl; have hcz16_2 : w14.cell? ⟨gb225, 2, none⟩ = some (.int .i64 0) := (qg0 BK225.out 2).trans rfl; have hcz16_3 : w14.cell? ⟨gb225, 3, none⟩ = some (.bool false) := (qg0 BK225.out 3).trans rfl; have hfz16_0 := qi0 BK225.out 0; have hfz16_1 := qi0 BK225.out 1; have hfz16_2 := qi0 BK225.out 2; have hfz16_3 := qi0 BK225.out 3; have hcz17_0 : w14.cell? ⟨gb222, 0, none⟩ = some (.slice A0_0 l0_0.length c0_0) := (qg0 BK222.out 0).trans rfl; have hcz17_1 : w14.cell? ⟨gb222, 1, none⟩ = some (.slice (some ad224) l0_1.length c0_1) := (qg0 BK222.out 1).trans rfl; have hfz17_0 := qi0 BK222.out 0; have hfz17_1 := qi0 BK222.out 1) | ((with_reducible refine qn0 (f := 91) rfl ?_); refine qe1 (some 20) rfl rfl Try.func91 (by kernel_rfl) rfl #[.agg #[.slice A0_0 l0_0.length c0_0, .slice (some ad224) l0_1.length c0_1], .agg #[.int .i64 ((rd_T53 l0_1 x13_1).f0), .int .i64 ((rd_T53 l0_1 x13_1).f1), .int .i64 ((rd_T53 l0_1 x13_1).f2), .bool ((rd_T53 l0_1 x13_1).f3)]] rfl (by (try simp only [List.map_toArray, List.map_cons, List.map_nil]); first | done | rfl | (simp only [List.length_drop, List.length_take]; rfl)) ?_; (with_reducible refine (impl_paperText.calls k1 _ _ l0_0 _ _ l0_1 ((rd_T53 l0_1 x13_1).f0) ((rd_T53 l0_1 x13_1).f1) ((rd_T53 l0_1 x13_1).f2) ((rd_T53 l0_1 x13_1).f3) t226 _ ?side1 ?side2 ?side3 ?side4 A12.out).mono ?_); (case side1 => exact Kd.qy0 HR0_0.out (by repeat (first | (with_reducible first | exact HB.out | apply qc0 | apply qa0 | apply qb0 | refine qf0 ?_ GE222.out | refine qf0 ?_ GE225.out) | exact HB.out))); (case side2 => exact HC0_0.out); (case side3 => exact Kd.qy0 HR0_1.out (by repeat (first | (with_reducible first | exact HB.out | apply qc0 | apply qa0 | apply qb0 | refine qf0 ?_ GE222.out | refine qf0 ?_ GE225.out) | exact HB.out))); (case side4 => exact HC0_1.out); rintro e w18 ⟨rfl, hb⟩; refine ⟨_, rfl, ?_⟩; have n0_ := Aside0.mk (qm0 (g := gb222) (o := .cells #[.slice A0_0 l0_0.length c0_0, .slice (some ad224) l0_1.length c0_1] 42 (0, 0)) (by (with_reducible repeat (first | refine qd0 ?_ _ | refine qh0 ?_ | refine qe0 ?_ _)); refine qu0 ?_ NB222_225.out _; (with_reducible repeat (first | refine qd0 ?_ _ | refine qh0 ?_ | refine qe0 ?_ _)); refine qu0 ?_ NB222_225.out _; (with_reducible repeat (first | refine qd0 ?_ _ | refine qh0 ?_ | refine qe0 ?_ _)); refine qu0 ?_ NB222_225.out _; (with_reducible repeat (first | refine qd0 ?_ _ | refine qh0 ?_ | refine qe0 ?_ _)); refine qu0 ?_ NB222_225.out _; (with_reducible repeat (first | refine qd0 ?_ _ | refine qh0 ?_ | refine qe0 ?_ _)); exact BK222.out) hb); have n1_ := Aside0.mk (qm0 (g := gb225) (o := .cells #[.int .i64 ((rd_T53 l0_1 x13_1).f0), .int .i64 ((rd_T53 l0_1 x13_1).f1), .int .i64 ((rd_T53 l0_1 x13_1).f2), .bool ((rd_T53 l0_1 x13_1).f3)] 53 (0, 0)) (by (with_reducible repeat (first | refine qd0 ?_ _ | refine qh0 ?_ | refine qe0 ?_ _)); refine qx0 (cs := #[.int .i64 ((rd_T53 l0_1 x13_1).f0), .int .i64 ((rd_T53 l0_1 x13_1).f1), .int .i64 ((rd_T53 l0_1 x13_1).f2), .bool false]) ?_ 3 _ rfl; (with_reducible repeat (first | refine qd0 ?_ _ | refine qh0 ?_ | refine qe0 ?_ _)); refine qx0 (cs := #[.int .i64 ((rd_T53 l0_1 x13_1).f0), .int .i64 ((rd_T53 l0_1 x13_1).f1), .int .i64 0, .bool false]) ?_ 2 _ rfl; (with_reducible repeat (first | refine qd0 ?_ _ | refine qh0 ?_ | refine qe0 ?_ _)); refine qx0 (cs := #[.int .i64 ((rd_T53 l0_1 x13_1).f0), .int .i64 0, .int .i64 0, .bool false]) ?_ 1 _ rfl; (with_reducible repeat (first | refine qd0 ?_ _ | refine qh0 ?_ | refine qe0 ?_ _)); refine qx0 (cs := #[.int .i64 0, .int .i64 0, .int .i64 0, .bool false]) ?_ 0 _ rfl; (with_reducible repeat (first | refine qd0 ?_ _ | refine qh0 ?_ | refine qe0 ?_ _)); exact BK225.out) hb); have n2_ := Aside0.mk (ql0 (by repeat (first | (with_reducible first | exact HB.out | apply qc0 | apply qa0 | apply qb0 | refine qf0 ?_ GE222.out | refine qf0 ?_ GE225.out) | exact HB.out)) hb); clear BK222; clear BK225; clear HB; have BK222 := n0_; have BK225 := n1_; have HB := n2_; clear n0_ n1_ n2_; (try clear hb); (try clear hb2); (try clear hk); (try clear hi)))
      go_ret
      exact ⟨by first | rfl | (simp [errW_none, errW_some] <;> rfl) | (simp [*, errW_none, errW_some] <;> rfl), by repeat (first | (with_reducible first | exact HB.out | apply qc0 | apply qa0 | apply qb0 | refine qf0 ?_ GE222.out | refine qf0 ?_ GE225.out) | exact HB.out)⟩
     rw [if_neg c13] at H
     have c13b0 : (t226.toList == a1.toList) = false := beq_eq_false_iff_ne.mpr c13
     have c13b1 : (t226.toList != a1.toList) = true := bne_iff_ne.mpr c13
     have H' := Aside0.mk H
     clear H
     have p224 : 0 ≤ (x13_1 : Int) := of_decide_eq_true (by first | (with_reducible assumption) | assumption)
     have q224 : x13_1 < (l0_1.length : Int) := of_decide_eq_true (by first | (with_reducible assumption) | assumption)
     obtain ⟨ad224, e224, hx224_0, hx224_1, hx224_2, hx224_3⟩ := at_T53 HR0_1.out x13_1 p224 q224
     cases e224
     replace hx224_0 := (HB.out.cell (World.block_lt_of_cell? w _ hx224_0)).trans hx224_0
     replace hx224_1 := (HB.out.cell (World.block_lt_of_cell? w _ hx224_1)).trans hx224_1
     replace hx224_2 := (HB.out.cell (World.block_lt_of_cell? w _ hx224_2)).trans hx224_2
     replace hx224_3 := (HB.out.cell (World.block_lt_of_cell? w _ hx224_3)).trans hx224_3
     replace p224 := eq_true p224
     replace q224 := eq_true q224
     go_wp2_with (first | ((with_reducible refine qs0 (N := 6) rfl ?_); refine qr0 ?hg (N := 6) ?hd (cs := #[.int .i64 0, .int .i64 0, .int .i64 0, .bool false]) (t := 53) ?hr ?_; (case hd => rfl); (case hg => rfl); (case hr => first | (go_simp; done) | (go_simp; rfl)); intro gb225 hg w19 hbox hb; have n0_ := Aside0.mk (qm0 (g := gb222) (o := .cells #[.slice A0_0 l0_0.length c0_0, .slice (some ad224) l0_1.length c0_1] 42 (0, 0)) (by (with_reducible repeat (first | refine qd0 ?_ _ | refine qh0 ?_ | refine qe0 ?_ _)); exact BK222.out) hb); have n1_ := Aside0.mk (ql0 (by repeat (first | (with_reducible first | exact HB.out | apply qc0 | apply qa0 | apply qb0 | refine qf0 ?_ GE222.out) | exact HB.out)) hb); have n2_ := Aside0.mk (hbox); have n3_ := Aside0.mk ((by rw [hg]; exact (qk0 (by repeat (first | (with_reducible first | exact HB.out | apply qc0 | apply qa0 | apply qb0 | refine qf0 ?_ GE222.out) | exact HB.out))) : w.heap.size ≤ gb225)); have n4_ := Aside0.mk ((by rw [hg]; exact (qk0 (by repeat (first | (with_reducible first | exact HB.out | apply qc0 | apply qa0 | apply qb0 | refine qf0 ?_ GE222.out) | exact HB.out))) : w.heap.size ≤ gb225)); have n5_ := Aside0.mk ((by rw [hg]; exact Nat.ne_of_lt (qa1 (g := gb222) (o := .cells #[.slice A0_0 l0_0.length c0_0, .slice (some ad224) l0_1.length c0_1] 42 (0, 0)) (by (with_reducible repeat (first | refine qd0 ?_ _ | refine qh0 ?_ | refine qe0 ?_ _)); exact BK222.out)) : gb222 ≠ gb225)); have n6_ := Aside0.mk ((by rw [hg]; exact Nat.ne_of_gt (qa1 (g := gb222) (o := .cells #[.slice A0_0 l0_0.length c0_0, .slice (some ad224) l0_1.length c0_1] 42 (0, 0)) (by (with_reducible repeat (first | refine qd0 ?_ _ | refine qh0 ?_ | refine qe0 ?_ _)); exact BK222.out)) : gb225 ≠ gb222)); clear BK222; clear HB; have BK222 := n0_; have HB := n1_; have BK225 := n2_; have GW225 := n3_; have GE225 := n4_; have NB222_225 := n5_; have NB225_222 := n6_; clear n0_ n1_ n2_ n3_ n4_ n5_ n6_; clear hb hbox hg; have hnb20 := NB225_222.out; have hnc20 := NB222_225.out; have hcz21_0 : w19.cell? ⟨gb225, 0, none⟩ = some (.int .i64 0) := (qg0 BK225.out 0).trans rfl; have hcz21_1 : w19.cell? ⟨gb225, 1, none⟩ = some (.int .i64 0) := (qg0 BK225.out 1).trans rfl; have hcz21_2 : w19.cell? ⟨gb225, 2, none⟩ = some (.int .i64 0) := (qg0 BK225.out 2).trans rfl; have hcz21_3 : w19.cell? ⟨gb225, 3, none⟩ = some (.bool false) := (qg0 BK225.out 3).trans rfl; have hfz21_0 := qi0 BK225.out 0; have hfz21_1 := qi0 BK225.out 1; have hfz21_2 := qi0 BK225.out 2; have hfz21_3 := qi0 BK225.out 3; have hcz22_0 : w19.cell? ⟨gb222, 0, none⟩ = some (.slice A0_0 l0_0.length c0_0) := (qg0 BK222.out 0).trans rfl; have hcz22_1 : w19.cell? ⟨gb222, 1, none⟩ = some (.slice (some ad224) l0_1.length c0_1) := (qg0 BK222.out 1).trans rfl; have hfz22_0 := qi0 BK222.out 0; have hfz22_1 := qi0 BK222.out 1) | ((with_reducible refine qn0 (f := 91) rfl ?_); refine qe1 (some 20) rfl rfl Try.func91 (by kernel_rfl) rfl #[.agg #[.slice A0_0 l0_0.length c0_0, .slice (some ad224) l0_1.length c0_1], .agg #[.int .i64 ((rd_T53 l0_1 x13_1).f0), .int .i64 ((rd_T53 l0_1 x13_1).f1), .int .i64 ((rd_T53 l0_1 x13_1).f2), .bool ((rd_T53 l0_1 x13_1).f3)]] rfl (by (try simp only [List.map_toArray, List.map_cons, List.map_nil]); first | done | rfl | (simp only [List.length_drop, List.length_take]; rfl)) ?_; (with_reducible refine (impl_paperText.calls k1 _ _ l0_0 _ _ l0_1 ((rd_T53 l0_1 x13_1).f0) ((rd_T53 l0_1 x13_1).f1) ((rd_T53 l0_1 x13_1).f2) ((rd_T53 l0_1 x13_1).f3) t226 _ ?side1 ?side2 ?side3 ?side4 A12.out).mono ?_); (case side1 => exact Kd.qy0 HR0_0.out (by repeat (first | (with_reducible first | exact HB.out | apply qc0 | apply qa0 | apply qb0 | refine qf0 ?_ GE222.out | refine qf0 ?_ GE225.out) | exact HB.out))); (case side2 => exact HC0_0.out); (case side3 => exact Kd.qy0 HR0_1.out (by repeat (first | (with_reducible first | exact HB.out | apply qc0 | apply qa0 | apply qb0 | refine qf0 ?_ GE222.out | refine qf0 ?_ GE225.out) | exact HB.out))); (case side4 => exact HC0_1.out); rintro e w23 ⟨rfl, hb⟩; refine ⟨_, rfl, ?_⟩; have n0_ := Aside0.mk (qm0 (g := gb222) (o := .cells #[.slice A0_0 l0_0.length c0_0, .slice (some ad224) l0_1.length c0_1] 42 (0, 0)) (by (with_reducible repeat (first | refine qd0 ?_ _ | refine qh0 ?_ | refine qe0 ?_ _)); refine qu0 ?_ NB222_225.out _; (with_reducible repeat (first | refine qd0 ?_ _ | refine qh0 ?_ | refine qe0 ?_ _)); refine qu0 ?_ NB222_225.out _; (with_reducible repeat (first | refine qd0 ?_ _ | refine qh0 ?_ | refine qe0 ?_ _)); refine qu0 ?_ NB222_225.out _; (with_reducible repeat (first | refine qd0 ?_ _ | refine qh0 ?_ | refine qe0 ?_ _)); refine qu0 ?_ NB222_225.out _; (with_reducible repeat (first | refine qd0 ?_ _ | refine qh0 ?_ | refine qe0 ?_ _)); exact BK222.out) hb); have n1_ := Aside0.mk (qm0 (g := gb225) (o := .cells #[.int .i64 ((rd_T53 l0_1 x13_1).f0), .int .i64 ((rd_T53 l0_1 x13_1).f1), .int .i64 ((rd_T53 l0_1 x13_1).f2), .bool ((rd_T53 l0_1 x13_1).f3)] 53 (0, 0)) (by (with_reducible repeat (first | refine qd0 ?_ _ | refine qh0 ?_ | refine qe0 ?_ _)); refine qx0 (cs := #[.int .i64 ((rd_T53 l0_1 x13_1).f0), .int .i64 ((rd_T53 l0_1 x13_1).f1), .int .i64 ((rd_T53 l0_1 x13_1).f2), .bool false]) ?_ 3 _ rfl; (with_reducible repeat (first | refine qd0 ?_ _ | refine qh0 ?_ | refine qe0 ?_ _)); refine qx0 (cs := #[.int .i64 ((rd_T53 l0_1 x13_1).f0), .int .i64 ((rd_T53 l0_1 x13_1).f1), .int .i64 0, .bool false]) ?_ 2 _ rfl; (with_reducible repeat (first | refine qd0 ?_ _ | refine qh0 ?_ | refine qe0 ?_ _)); refine qx0 (cs := #[.int .i64 ((rd_T53 l0_1 x13_1).f0), .int .i64 0, .int .i64 0, .bool false]) ?_ 1 _ rfl; (with_reducible repeat (first | refine qd0 ?_ _ | refine qh0 ?_ | refine qe0 ?_ _)); refine qx0 (cs := #[.int .i64 0, .int .i64 0, .int .i64 0, .bool false]) ?_ 0 _ rfl; (with_reducible repeat (first | refine qd0 ?_ _ | refine qh0 ?_ | refine qe0 ?_ _)); exact BK225.out) hb); have n2_ := Aside0.mk (ql0 (by repeat (first | (with_reducible first | exact HB.out | apply qc0 | apply qa0 | apply qb0 | refine qf0 ?_ GE222.out | refine qf0 ?_ GE225.out) | exact HB.out)) hb); clear BK222; clear BK225; clear HB; have BK222 := n0_; have BK225 := n1_; have HB := n2_; clear n0_ n1_ n2_; (try clear hb); (try clear hb2); (try clear hk); (try clear hi)))
     go_roundg k1
     case measure => have := HK1.out; omega
     case rel => exact ⟨(wrap64 (x13_1 + 1)), (by first | rfl | (simp; done) | (simp [*]; done)), H', ⟨by have := HK1.out; omega⟩, ⟨by (with_reducible repeat (first | refine qd0 ?_ _ | refine qh0 ?_ | refine qe0 ?_ _)); exact BK222.out⟩, ⟨by repeat (first | (with_reducible first | exact HB.out | apply qc0 | apply qa0 | apply qb0 | refine qf0 ?_ GE222.out | refine qf0 ?_ GE225.out) | exact HB.out)⟩⟩
    rw [if_neg c9] at H
    have c9b0 : decide (x13_1 < (l0_1.length : Int)) = false := decide_eq_false c9
    clear c9
    obtain rfl := Option.some.inj H
    go_wp2
    go_ret
    exact ⟨by first | rfl | (simp [errW_none, errW_some] <;> rfl) | (simp [*, errW_none, errW_some] <;> rfl), by repeat (first | (with_reducible first | exact HB.out | apply qc0 | apply qa0 | apply qb0 | refine qf0 ?_ GE222.out) | exact HB.out)⟩
 replace c4 := Bool.eq_false_iff.mpr c4
 subst c4
 have H1 : (some (-1)) = some r := by rw [if_neg (show ¬ (false = true) by decide)] at H; exact H
 clear H
 have H := H1
 clear H1
 obtain rfl := Option.some.inj H
 go_enter Try.func29, Try.ntmps29
 go_wp2_with (first | ((with_reducible refine qs0 (N := 2) rfl ?_); refine qr0 ?hg (N := 2) ?hd (cs := #[.slice A0_0 l0_0.length c0_0, .slice A0_1 l0_1.length c0_1]) (t := 42) ?hr ?_; (case hd => rfl); (case hg => rfl); (case hr => first | (go_simp; done) | (go_simp; rfl)); intro gb222 hg w24 hbox hb; have n0_ := Aside0.mk (ql0 (by repeat (first | (with_reducible first | exact HB.out | apply qc0 | apply qa0 | apply qb0) | exact HB.out)) hb); have n1_ := Aside0.mk (hbox); have n2_ := Aside0.mk ((by rw [hg]; exact (qk0 (by repeat (first | (with_reducible first | exact HB.out | apply qc0 | apply qa0 | apply qb0) | exact HB.out))) : w.heap.size ≤ gb222)); have n3_ := Aside0.mk ((by rw [hg]; exact (qk0 (by repeat (first | (with_reducible first | exact HB.out | apply qc0 | apply qa0 | apply qb0) | exact HB.out))) : w.heap.size ≤ gb222)); clear HB; have HB := n0_; have BK222 := n1_; have GW222 := n2_; have GE222 := n3_; clear n0_ n1_ n2_ n3_; clear hb hbox hg; have hcz25_0 : w24.cell? ⟨gb222, 0, none⟩ = some (.slice A0_0 l0_0.length c0_0) := (qg0 BK222.out 0).trans rfl; have hcz25_1 : w24.cell? ⟨gb222, 1, none⟩ = some (.slice A0_1 l0_1.length c0_1) := (qg0 BK222.out 1).trans rfl; have hfz25_0 := qi0 BK222.out 0; have hfz25_1 := qi0 BK222.out 1) | ((with_reducible refine qn0 (f := 24) rfl ?_); refine qe1 (some 8) rfl rfl Try.func24 (by kernel_rfl) rfl #[.agg #[.slice A0_0 l0_0.length c0_0, .slice A0_1 l0_1.length c0_1]] rfl (by (try simp only [List.map_toArray, List.map_cons, List.map_nil]); first | done | rfl | (simp only [List.length_drop, List.length_take]; rfl)) ?_; (with_reducible refine (impl_RegisterOk.calls k _ _ l0_0 _ _ l0_1 false _ ?side1 ?side2 ?side3 ?side4 A3.out).mono ?_); (case side1 => repeat (first | exact (Kd.qy0 HR0_0.out HB.out) | (with_reducible refine Kd.qw0 ?_ _) | (with_reducible refine Kd.qv0 ?_ _) | (with_reducible refine Kd.qb1 ?_))); (case side2 => exact HC0_0.out); (case side3 => repeat (first | exact (Kd.qy0 HR0_1.out HB.out) | (with_reducible refine Kd.qw0 ?_ _) | (with_reducible refine Kd.qv0 ?_ _) | (with_reducible refine Kd.qb1 ?_))); (case side4 => exact HC0_1.out); rintro e w26 ⟨rfl, hb⟩; refine ⟨_, rfl, ?_⟩; have n0_ := Aside0.mk (qm0 (g := gb222) (o := .cells #[.slice A0_0 l0_0.length c0_0, .slice A0_1 l0_1.length c0_1] 42 (0, 0)) (by (with_reducible repeat (first | refine qd0 ?_ _ | refine qh0 ?_ | refine qe0 ?_ _)); exact BK222.out) hb); have n1_ := Aside0.mk (ql0 (by repeat (first | (with_reducible first | exact HB.out | apply qc0 | apply qa0 | apply qb0 | refine qf0 ?_ GE222.out) | exact HB.out)) hb); clear BK222; clear HB; have BK222 := n0_; have HB := n1_; clear n0_ n1_; (try clear hb); (try clear hb2); (try clear hk); (try clear hi)))
 go_ret
 exact ⟨by first | rfl | (simp [errW_none, errW_some] <;> rfl) | (simp [*, errW_none, errW_some] <;> rfl), by repeat (first | (with_reducible first | exact HB.out | apply qc0 | apply qa0 | apply qb0 | refine qf0 ?_ GE222.out) | exact HB.out)⟩

/-! ### laws_FnExactFindPaper: function 6 -/
def laws_FnExactFindPaper.f (k : Nat) (l0_0 : List (S207)) (l0_1 : List (S210)) (a1 : ByteArray) : Option (Bool) := if (a1.size : Int) > 1048576 then (some true) else ((laws_szRegister.f k l0_0 l0_1 1048576).bind fun t228 => (if t228 < 0 then (some true) else ((laws_toRegister.f k l0_0 l0_1).bind fun bt229 => ((spec_FindPaper.f k bt229.1 bt229.2 a1).bind fun t235 => ((laws_toRegister.f k l0_0 l0_1).bind fun bt236 => ((impl_FindPaper.f k bt236.1 bt236.2 a1).bind fun t243 => (if t243 = t235 then ((laws_toRegister.f k l0_0 l0_1).bind fun bt244 => ((laws_eqRegister.f k bt236.1 bt236.2 bt244.1 bt244.2).bind fun t250 => (if t250 = true then (some true) else (some false)))) else (some false))))))))
theorem laws_FnExactFindPaper.mono : ∀ a0 a1 a2 k, LeO (laws_FnExactFindPaper.f k a0 a1 a2) (laws_FnExactFindPaper.f (k + 1) a0 a1 a2) := by
 intro a0 a1 a2 k
 unfold laws_FnExactFindPaper.f
 repeat' first
   | (with_reducible exact impl_FindPaper.mono _ _ _ _)
   | (with_reducible exact laws_eqRegister.mono _ _ _ _ _)
   | (with_reducible exact laws_szRegister.mono _ _ _ _)
   | (with_reducible exact laws_toRegister.mono _ _ _)
   | (with_reducible exact spec_FindPaper.mono _ _ _ _)
   | (with_reducible exact LeO.refl _)
   | (with_reducible exact LeO.none _)
   | (with_reducible refine LeO.ite ?_ ?_)
   | (with_reducible refine LeO.bind ?_ (fun _ => ?_))
   | exact impl_FindPaper.mono _ _ _ _
   | exact laws_eqRegister.mono _ _ _ _ _
   | exact laws_szRegister.mono _ _ _ _
   | exact laws_toRegister.mono _ _ _
   | exact spec_FindPaper.mono _ _ _ _
   | exact LeO.none _
   | refine LeO.ite ?_ ?_
   | refine LeO.bind ?_ (fun _ => ?_)
set_option maxHeartbeats 8000000 in
set_option maxRecDepth 100000 in
theorem laws_FnExactFindPaper.calls (k : Nat) (A0_0 : Option Addr) (c0_0 : Nat) (l0_0 : List (S207)) (A0_1 : Option Addr) (c0_1 : Nat) (l0_1 : List (S210)) (a1 : ByteArray) (r : Bool) (w : World) (hr0_0 : Kd.C k207 w A0_0 l0_0.length l0_0) (hc0_0 : l0_0.length ≤ c0_0) (hr0_1 : Kd.C k210 w A0_1 l0_1.length l0_1) (hc0_1 : l0_1.length ≤ c0_1) (h : laws_FnExactFindPaper.f k l0_0 l0_1 a1 = some r) :
  Calls Try.prog 6 #[.agg #[.slice A0_0 l0_0.length c0_0, .slice A0_1 l0_1.length c0_1], .string a1] w fun e w' => e = .returned (.bool r) ∧ Below w.heap.size w w' := by
 have hu36 := Try.underlying36
 have hu42 := Try.underlying42
 have HR0_0 := Aside0.mk hr0_0
 have HC0_0 := Aside0.mk hc0_0
 clear hr0_0 hc0_0
 have HR0_1 := Aside0.mk hr0_1
 have HC0_1 := Aside0.mk hc0_1
 clear hr0_1 hc0_1
 have HB := Aside0.mk (Below.refl w.heap.size w)
 have H : (if (a1.size : Int) > 1048576 then (some true) else ((laws_szRegister.f k l0_0 l0_1 1048576).bind fun t228 => (if t228 < 0 then (some true) else ((laws_toRegister.f k l0_0 l0_1).bind fun bt229 => ((spec_FindPaper.f k bt229.1 bt229.2 a1).bind fun t235 => ((laws_toRegister.f k l0_0 l0_1).bind fun bt236 => ((impl_FindPaper.f k bt236.1 bt236.2 a1).bind fun t243 => (if t243 = t235 then ((laws_toRegister.f k l0_0 l0_1).bind fun bt244 => ((laws_eqRegister.f k bt236.1 bt236.2 bt244.1 bt244.2).bind fun t250 => (if t250 = true then (some true) else (some false)))) else (some false))))))))) = some r := h
 clear h
 by_cases c3 : (a1.size : Int) > 1048576
 ·rw [if_pos c3] at H
  have c3b0 : decide (1048576 < (a1.size : Int)) = true := decide_eq_true c3
  have c3b1 : decide (1048576 < a1.size) = true := decide_eq_true (by omega)
  clear c3
  obtain rfl := Option.some.inj H
  go_enter Try.func6, Try.ntmps6
  go_wp2_with (first | ((with_reducible refine qs0 (N := 2) rfl ?_); refine qr0 ?hg (N := 2) ?hd (cs := #[.slice A0_0 l0_0.length c0_0, .slice A0_1 l0_1.length c0_1]) (t := 36) ?hr ?_; (case hd => rfl); (case hg => rfl); (case hr => first | (go_simp; done) | (go_simp; rfl)); intro gb227 hg w4 hbox hb; have n0_ := Aside0.mk (ql0 (by repeat (first | (with_reducible first | exact HB.out | apply qc0 | apply qa0 | apply qb0) | exact HB.out)) hb); have n1_ := Aside0.mk (hbox); have n2_ := Aside0.mk ((by rw [hg]; exact (qk0 (by repeat (first | (with_reducible first | exact HB.out | apply qc0 | apply qa0 | apply qb0) | exact HB.out))) : w.heap.size ≤ gb227)); have n3_ := Aside0.mk ((by rw [hg]; exact (qk0 (by repeat (first | (with_reducible first | exact HB.out | apply qc0 | apply qa0 | apply qb0) | exact HB.out))) : w.heap.size ≤ gb227)); clear HB; have HB := n0_; have BK227 := n1_; have GW227 := n2_; have GE227 := n3_; clear n0_ n1_ n2_ n3_; clear hb hbox hg))
  go_ret
  exact ⟨by first | rfl | (simp [errW_none, errW_some] <;> rfl) | (simp [*, errW_none, errW_some] <;> rfl), by repeat (first | (with_reducible first | exact HB.out | apply qc0 | apply qa0 | apply qb0 | refine qf0 ?_ GE227.out) | exact HB.out)⟩
 rw [if_neg c3] at H
 have c3b0 : decide (1048576 < (a1.size : Int)) = false := decide_eq_false c3
 have c3b1 : decide (1048576 < a1.size) = false := decide_eq_false (by omega)
 clear c3
 replace H := Option.bind_eq_some_iff.mp H
 obtain ⟨t228, A50, H⟩ := H
 replace H : (if t228 < 0 then (some true) else ((laws_toRegister.f k l0_0 l0_1).bind fun bt229 => ((spec_FindPaper.f k bt229.1 bt229.2 a1).bind fun t235 => ((laws_toRegister.f k l0_0 l0_1).bind fun bt236 => ((impl_FindPaper.f k bt236.1 bt236.2 a1).bind fun t243 => (if t243 = t235 then ((laws_toRegister.f k l0_0 l0_1).bind fun bt244 => ((laws_eqRegister.f k bt236.1 bt236.2 bt244.1 bt244.2).bind fun t250 => (if t250 = true then (some true) else (some false)))) else (some false))))))) = some r := H
 have A5 := Aside0.mk A50
 clear A50
 by_cases c6 : t228 < 0
 ·rw [if_pos c6] at H
  have c6b0 : decide (t228 < 0) = true := decide_eq_true c6
  clear c6
  obtain rfl := Option.some.inj H
  go_enter Try.func6, Try.ntmps6
  go_wp2_with (first | ((with_reducible refine qs0 (N := 2) rfl ?_); refine qr0 ?hg (N := 2) ?hd (cs := #[.slice A0_0 l0_0.length c0_0, .slice A0_1 l0_1.length c0_1]) (t := 36) ?hr ?_; (case hd => rfl); (case hg => rfl); (case hr => first | (go_simp; done) | (go_simp; rfl)); intro gb227 hg w7 hbox hb; have n0_ := Aside0.mk (ql0 (by repeat (first | (with_reducible first | exact HB.out | apply qc0 | apply qa0 | apply qb0) | exact HB.out)) hb); have n1_ := Aside0.mk (hbox); have n2_ := Aside0.mk ((by rw [hg]; exact (qk0 (by repeat (first | (with_reducible first | exact HB.out | apply qc0 | apply qa0 | apply qb0) | exact HB.out))) : w.heap.size ≤ gb227)); have n3_ := Aside0.mk ((by rw [hg]; exact (qk0 (by repeat (first | (with_reducible first | exact HB.out | apply qc0 | apply qa0 | apply qb0) | exact HB.out))) : w.heap.size ≤ gb227)); clear HB; have HB := n0_; have BK227 := n1_; have GW227 := n2_; have GE227 := n3_; clear n0_ n1_ n2_ n3_; clear hb hbox hg; have hcz8_0 : w7.cell? ⟨gb227, 0, none⟩ = some (.slice A0_0 l0_0.length c0_0) := (qg0 BK227.out 0).trans rfl; have hcz8_1 : w7.cell? ⟨gb227, 1, none⟩ = some (.slice A0_1 l0_1.length c0_1) := (qg0 BK227.out 1).trans rfl; have hfz8_0 := qi0 BK227.out 0; have hfz8_1 := qi0 BK227.out 1) | ((with_reducible refine qn0 (f := 21) rfl ?_); refine qe1 (some 14) rfl rfl Try.func21 (by kernel_rfl) rfl #[.agg #[.slice A0_0 l0_0.length c0_0, .slice A0_1 l0_1.length c0_1], .int .i64 1048576] rfl (by (try simp only [List.map_toArray, List.map_cons, List.map_nil]); first | done | rfl | (simp only [List.length_drop, List.length_take]; rfl)) ?_; (with_reducible refine (laws_szRegister.calls k _ _ l0_0 _ _ l0_1 1048576 t228 _ ?side1 ?side2 ?side3 ?side4 A5.out).mono ?_); (case side1 => repeat (first | exact (Kd.qy0 HR0_0.out HB.out) | (with_reducible refine Kd.qw0 ?_ _) | (with_reducible refine Kd.qv0 ?_ _) | (with_reducible refine Kd.qb1 ?_))); (case side2 => exact HC0_0.out); (case side3 => repeat (first | exact (Kd.qy0 HR0_1.out HB.out) | (with_reducible refine Kd.qw0 ?_ _) | (with_reducible refine Kd.qv0 ?_ _) | (with_reducible refine Kd.qb1 ?_))); (case side4 => exact HC0_1.out); rintro e w9 ⟨rfl, hb⟩; refine ⟨_, rfl, ?_⟩; have n0_ := Aside0.mk (qm0 (g := gb227) (o := .cells #[.slice A0_0 l0_0.length c0_0, .slice A0_1 l0_1.length c0_1] 36 (0, 0)) (by (with_reducible repeat (first | refine qd0 ?_ _ | refine qh0 ?_ | refine qe0 ?_ _)); exact BK227.out) hb); have n1_ := Aside0.mk (ql0 (by repeat (first | (with_reducible first | exact HB.out | apply qc0 | apply qa0 | apply qb0 | refine qf0 ?_ GE227.out) | exact HB.out)) hb); clear BK227; clear HB; have BK227 := n0_; have HB := n1_; clear n0_ n1_; (try clear hb); (try clear hb2); (try clear hk); (try clear hi)))
  go_ret
  exact ⟨by first | rfl | (simp [errW_none, errW_some] <;> rfl) | (simp [*, errW_none, errW_some] <;> rfl), by repeat (first | (with_reducible first | exact HB.out | apply qc0 | apply qa0 | apply qb0 | refine qf0 ?_ GE227.out) | exact HB.out)⟩
 rw [if_neg c6] at H
 have c6b0 : decide (t228 < 0) = false := decide_eq_false c6
 clear c6
 replace H := Option.bind_eq_some_iff.mp H
 obtain ⟨⟨t229, t232⟩, A100, H⟩ := H
 replace H : ((spec_FindPaper.f k t229 t232 a1).bind fun t235 => ((laws_toRegister.f k l0_0 l0_1).bind fun bt236 => ((impl_FindPaper.f k bt236.1 bt236.2 a1).bind fun t243 => (if t243 = t235 then ((laws_toRegister.f k l0_0 l0_1).bind fun bt244 => ((laws_eqRegister.f k bt236.1 bt236.2 bt244.1 bt244.2).bind fun t250 => (if t250 = true then (some true) else (some false)))) else (some false))))) = some r := H
 have A10 := Aside0.mk A100
 clear A100
 replace H := Option.bind_eq_some_iff.mp H
 obtain ⟨t235, A110, H⟩ := H
 replace H : ((laws_toRegister.f k l0_0 l0_1).bind fun bt236 => ((impl_FindPaper.f k bt236.1 bt236.2 a1).bind fun t243 => (if t243 = t235 then ((laws_toRegister.f k l0_0 l0_1).bind fun bt244 => ((laws_eqRegister.f k bt236.1 bt236.2 bt244.1 bt244.2).bind fun t250 => (if t250 = true then (some true) else (some false)))) else (some false)))) = some r := H
 have A11 := Aside0.mk A110
 clear A110
 replace H := Option.bind_eq_some_iff.mp H
 obtain ⟨⟨t236, t239⟩, A120, H⟩ := H
 replace H : ((impl_FindPaper.f k t236 t239 a1).bind fun t243 => (if t243 = t235 then ((laws_toRegister.f k l0_0 l0_1).bind fun bt244 => ((laws_eqRegister.f k t236 t239 bt244.1 bt244.2).bind fun t250 => (if t250 = true then (some true) else (some false)))) else (some false))) = some r := H
 have A12 := Aside0.mk A120
 clear A120
 replace H := Option.bind_eq_some_iff.mp H
 obtain ⟨t243, A130, H⟩ := H
 replace H : (if t243 = t235 then ((laws_toRegister.f k l0_0 l0_1).bind fun bt244 => ((laws_eqRegister.f k t236 t239 bt244.1 bt244.2).bind fun t250 => (if t250 = true then (some true) else (some false)))) else (some false)) = some r := H
 have A13 := Aside0.mk A130
 clear A130
 by_cases c14 : t243 = t235
 ·rw [if_pos c14] at H
  have c14b0 : (t243 == t235) = true := beq_iff_eq.mpr c14
  have c14b1 : (t243 != t235) = false := bne_eq_false_iff_eq.mpr c14
  clear c14
  replace H := Option.bind_eq_some_iff.mp H
  obtain ⟨⟨t244, t247⟩, A150, H⟩ := H
  replace H : ((laws_eqRegister.f k t236 t239 t244 t247).bind fun t250 => (if t250 = true then (some true) else (some false))) = some r := H
  have A15 := Aside0.mk A150
  clear A150
  replace H := Option.bind_eq_some_iff.mp H
  obtain ⟨t250, A160, H⟩ := H
  replace H : (if t250 = true then (some true) else (some false)) = some r := H
  have A16 := Aside0.mk A160
  clear A160
  by_cases c17 : t250 = true
  ·subst c17
   have H1 : (some true) = some r := by rw [if_pos rfl] at H; exact H
   clear H
   have H := H1
   clear H1
   obtain rfl := Option.some.inj H
   go_enter Try.func6, Try.ntmps6
   try go_wp2_with (first | ((with_reducible refine qs0 (N := 2) rfl ?_); refine qr0 ?hg (N := 2) ?hd (cs := #[.slice A0_0 l0_0.length c0_0, .slice A0_1 l0_1.length c0_1]) (t := 36) ?hr ?_; (case hd => rfl); (case hg => rfl); (case hr => first | (go_simp; done) | (go_simp; rfl)); intro gb227 hg w18 hbox hb; have n0_ := Aside0.mk (ql0 (by repeat (first | (with_reducible first | exact HB.out | apply qc0 | apply qa0 | apply qb0) | exact HB.out)) hb); have n1_ := Aside0.mk (hbox); have n2_ := Aside0.mk ((by rw [hg]; exact (qk0 (by repeat (first | (with_reducible first | exact HB.out | apply qc0 | apply qa0 | apply qb0) | exact HB.out))) : w.heap.size ≤ gb227)); have n3_ := Aside0.mk ((by rw [hg]; exact (qk0 (by repeat (first | (with_reducible first | exact HB.out | apply qc0 | apply qa0 | apply qb0) | exact HB.out))) : w.heap.size ≤ gb227)); clear HB; have HB := n0_; have BK227 := n1_; have GW227 := n2_; have GE227 := n3_; clear n0_ n1_ n2_ n3_; clear hb hbox hg; have hcz19_0 : w18.cell? ⟨gb227, 0, none⟩ = some (.slice A0_0 l0_0.length c0_0) := (qg0 BK227.out 0).trans rfl; have hcz19_1 : w18.cell? ⟨gb227, 1, none⟩ = some (.slice A0_1 l0_1.length c0_1) := (qg0 BK227.out 1).trans rfl; have hfz19_0 := qi0 BK227.out 0; have hfz19_1 := qi0 BK227.out 1) | ((with_reducible refine qn0 (f := 21) rfl ?_); refine qe1 (some 14) rfl rfl Try.func21 (by kernel_rfl) rfl #[.agg #[.slice A0_0 l0_0.length c0_0, .slice A0_1 l0_1.length c0_1], .int .i64 1048576] rfl (by (try simp only [List.map_toArray, List.map_cons, List.map_nil]); first | done | rfl | (simp only [List.length_drop, List.length_take]; rfl)) ?_; (with_reducible refine (laws_szRegister.calls k _ _ l0_0 _ _ l0_1 1048576 t228 _ ?side1 ?side2 ?side3 ?side4 A5.out).mono ?_); (case side1 => repeat (first | exact (Kd.qy0 HR0_0.out HB.out) | (with_reducible refine Kd.qw0 ?_ _) | (with_reducible refine Kd.qv0 ?_ _) | (with_reducible refine Kd.qb1 ?_))); (case side2 => exact HC0_0.out); (case side3 => repeat (first | exact (Kd.qy0 HR0_1.out HB.out) | (with_reducible refine Kd.qw0 ?_ _) | (with_reducible refine Kd.qv0 ?_ _) | (with_reducible refine Kd.qb1 ?_))); (case side4 => exact HC0_1.out); rintro e w20 ⟨rfl, hb⟩; refine ⟨_, rfl, ?_⟩; have n0_ := Aside0.mk (qm0 (g := gb227) (o := .cells #[.slice A0_0 l0_0.length c0_0, .slice A0_1 l0_1.length c0_1] 36 (0, 0)) (by (with_reducible repeat (first | refine qd0 ?_ _ | refine qh0 ?_ | refine qe0 ?_ _)); exact BK227.out) hb); have n1_ := Aside0.mk (ql0 (by repeat (first | (with_reducible first | exact HB.out | apply qc0 | apply qa0 | apply qb0 | refine qf0 ?_ GE227.out) | exact HB.out)) hb); clear BK227; clear HB; have BK227 := n0_; have HB := n1_; clear n0_ n1_; (try clear hb); (try clear hb2); (try clear hk); (try clear hi); have hcz21_0 : w20.cell? ⟨gb227, 0, none⟩ = some (.slice A0_0 l0_0.length c0_0) := (qg0 BK227.out 0).trans rfl; have hcz21_1 : w20.cell? ⟨gb227, 1, none⟩ = some (.slice A0_1 l0_1.length c0_1) := (qg0 BK227.out 1).trans rfl; have hfz21_0 := qi0 BK227.out 0; have hfz21_1 := qi0 BK227.out 1) | ((with_reducible refine qn0 (f := 23) rfl ?_); refine qe1 (some 18) rfl rfl Try.func23 (by kernel_rfl) rfl #[.agg #[.slice A0_0 l0_0.length c0_0, .slice A0_1 l0_1.length c0_1]] rfl (by (try simp only [List.map_toArray, List.map_cons, List.map_nil]); first | done | rfl | (simp only [List.length_drop, List.length_take]; rfl)) ?_; (with_reducible refine (laws_toRegister.calls k _ _ l0_0 _ _ l0_1 t229 t232 _ ?side1 ?side2 ?side3 ?side4 A10.out).mono ?_); (case side1 => repeat (first | exact (Kd.qy0 HR0_0.out HB.out) | (with_reducible refine Kd.qw0 ?_ _) | (with_reducible refine Kd.qv0 ?_ _) | (with_reducible refine Kd.qb1 ?_))); (case side2 => exact HC0_0.out); (case side3 => repeat (first | exact (Kd.qy0 HR0_1.out HB.out) | (with_reducible refine Kd.qw0 ?_ _) | (with_reducible refine Kd.qv0 ?_ _) | (with_reducible refine Kd.qb1 ?_))); (case side4 => exact HC0_1.out); rintro e w22 ⟨v230, v233, rfl, ho0, ho1, hb⟩; refine ⟨_, rfl, ?_⟩; have n0_ := Aside0.mk (Kd.qj1 ho0 (qk0 (by repeat (first | (with_reducible first | exact HB.out | apply qc0 | apply qa0 | apply qb0 | refine qf0 ?_ GE227.out) | exact HB.out)))); have n1_ := Aside0.mk (Kd.qj1 ho1 (qk0 (by repeat (first | (with_reducible first | exact HB.out | apply qc0 | apply qa0 | apply qb0 | refine qf0 ?_ GE227.out) | exact HB.out)))); have n2_ := Aside0.mk (qm0 (g := gb227) (o := .cells #[.slice A0_0 l0_0.length c0_0, .slice A0_1 l0_1.length c0_1] 36 (0, 0)) (by (with_reducible repeat (first | refine qd0 ?_ _ | refine qh0 ?_ | refine qe0 ?_ _)); exact BK227.out) hb); have n3_ := Aside0.mk (ql0 (by repeat (first | (with_reducible first | exact HB.out | apply qc0 | apply qa0 | apply qb0 | refine qf0 ?_ GE227.out) | exact HB.out)) hb); clear BK227; clear HB; have HO231 := n0_; have HO234 := n1_; have BK227 := n2_; have HB := n3_; clear n0_ n1_ n2_ n3_; (try clear hb); (try clear hb2); (try clear hk); (try clear hi); (try clear ho0); (try clear ho1); obtain ⟨Ao23, co23, eo23⟩ := Kd.R_slice HO231.out; subst eo23; obtain ⟨Ao24, co24, eo24⟩ := Kd.R_slice HO234.out; subst eo24) | ((with_reducible refine qn0 (f := 28) rfl ?_); refine qe1 (some 20) rfl rfl Try.func28 (by kernel_rfl) rfl #[.agg #[.slice Ao23 t229.length co23, .slice Ao24 t232.length co24], .string a1] rfl (by (try simp only [List.map_toArray, List.map_cons, List.map_nil]); first | done | rfl | (simp only [List.length_drop, List.length_take]; rfl)) ?_; (with_reducible refine (spec_FindPaper.calls k _ _ t229 _ _ t232 a1 t235 _ ?side1 ?side2 ?side3 ?side4 A11.out).mono ?_); (case side1 => repeat (first | exact (Kd.qz0 HO231.out).2.2 | (with_reducible refine Kd.qw0 ?_ _) | (with_reducible refine Kd.qv0 ?_ _) | (with_reducible refine Kd.qb1 ?_))); (case side2 => exact (Kd.qz0 HO231.out).2.1); (case side3 => repeat (first | exact (Kd.qz0 HO234.out).2.2 | (with_reducible refine Kd.qw0 ?_ _) | (with_reducible refine Kd.qv0 ?_ _) | (with_reducible refine Kd.qb1 ?_))); (case side4 => exact (Kd.qz0 HO234.out).2.1); rintro e w25 ⟨rfl, hb⟩; refine ⟨_, rfl, ?_⟩; have n0_ := Aside0.mk (Kd.R_below (by (with_reducible repeat (first | apply Kd.qq0 | apply Kd.qp0 | apply Kd.qt0)); exact HO231.out) hb); have n1_ := Aside0.mk (Kd.R_below (by (with_reducible repeat (first | apply Kd.qq0 | apply Kd.qp0 | apply Kd.qt0)); exact HO234.out) hb); have n2_ := Aside0.mk (qm0 (g := gb227) (o := .cells #[.slice A0_0 l0_0.length c0_0, .slice A0_1 l0_1.length c0_1] 36 (0, 0)) (by (with_reducible repeat (first | refine qd0 ?_ _ | refine qh0 ?_ | refine qe0 ?_ _)); exact BK227.out) hb); have n3_ := Aside0.mk (ql0 (by repeat (first | (with_reducible first | exact HB.out | apply qc0 | apply qa0 | apply qb0 | refine qf0 ?_ GE227.out) | exact HB.out)) hb); clear HO231; clear HO234; clear BK227; clear HB; have HO231 := n0_; have HO234 := n1_; have BK227 := n2_; have HB := n3_; clear n0_ n1_ n2_ n3_; (try clear hb); (try clear hb2); (try clear hk); (try clear hi); have hcz26_0 : w25.cell? ⟨gb227, 0, none⟩ = some (.slice A0_0 l0_0.length c0_0) := (qg0 BK227.out 0).trans rfl; have hcz26_1 : w25.cell? ⟨gb227, 1, none⟩ = some (.slice A0_1 l0_1.length c0_1) := (qg0 BK227.out 1).trans rfl; have hfz26_0 := qi0 BK227.out 0; have hfz26_1 := qi0 BK227.out 1) | ((with_reducible refine qn0 (f := 23) rfl ?_); refine qe1 (some 22) rfl rfl Try.func23 (by kernel_rfl) rfl #[.agg #[.slice A0_0 l0_0.length c0_0, .slice A0_1 l0_1.length c0_1]] rfl (by (try simp only [List.map_toArray, List.map_cons, List.map_nil]); first | done | rfl | (simp only [List.length_drop, List.length_take]; rfl)) ?_; (with_reducible refine (laws_toRegister.calls k _ _ l0_0 _ _ l0_1 t236 t239 _ ?side1 ?side2 ?side3 ?side4 A12.out).mono ?_); (case side1 => repeat (first | exact (Kd.qy0 HR0_0.out HB.out) | (with_reducible refine Kd.qw0 ?_ _) | (with_reducible refine Kd.qv0 ?_ _) | (with_reducible refine Kd.qb1 ?_))); (case side2 => exact HC0_0.out); (case side3 => repeat (first | exact (Kd.qy0 HR0_1.out HB.out) | (with_reducible refine Kd.qw0 ?_ _) | (with_reducible refine Kd.qv0 ?_ _) | (with_reducible refine Kd.qb1 ?_))); (case side4 => exact HC0_1.out); rintro e w27 ⟨v237, v240, rfl, ho0, ho1, hb⟩; refine ⟨_, rfl, ?_⟩; have n0_ := Aside0.mk (Kd.R_elder' (by (with_reducible repeat (first | apply Kd.qq0 | apply Kd.qp0 | apply Kd.qt0)); exact HO231.out) (Kd.R_base ho0) hb); have n1_ := Aside0.mk (Kd.R_elder' (by (with_reducible repeat (first | apply Kd.qq0 | apply Kd.qp0 | apply Kd.qt0)); exact HO234.out) (Kd.R_base ho1) hb); have n2_ := Aside0.mk (Kd.qj1 (Kd.R_new' ho0 (Kd.R_lt (by (with_reducible repeat (first | apply Kd.qq0 | apply Kd.qp0 | apply Kd.qt0)); exact HO231.out))) (qk0 (by repeat (first | (with_reducible first | exact HB.out | apply qc0 | apply qa0 | apply qb0 | refine qf0 ?_ GE227.out) | exact HB.out)))); have n3_ := Aside0.mk (Kd.qj1 (Kd.R_new' ho1 (Kd.R_lt (by (with_reducible repeat (first | apply Kd.qq0 | apply Kd.qp0 | apply Kd.qt0)); exact HO234.out))) (qk0 (by repeat (first | (with_reducible first | exact HB.out | apply qc0 | apply qa0 | apply qb0 | refine qf0 ?_ GE227.out) | exact HB.out)))); have n4_ := Aside0.mk (qm0 (g := gb227) (o := .cells #[.slice A0_0 l0_0.length c0_0, .slice A0_1 l0_1.length c0_1] 36 (0, 0)) (by (with_reducible repeat (first | refine qd0 ?_ _ | refine qh0 ?_ | refine qe0 ?_ _)); exact BK227.out) hb); have n5_ := Aside0.mk (ql0 (by repeat (first | (with_reducible first | exact HB.out | apply qc0 | apply qa0 | apply qb0 | refine qf0 ?_ GE227.out) | exact HB.out)) hb); clear HO231; clear HO234; clear BK227; clear HB; have HO231 := n0_; have HO234 := n1_; have HO238 := n2_; have HO241 := n3_; have BK227 := n4_; have HB := n5_; clear n0_ n1_ n2_ n3_ n4_ n5_; (try clear hb); (try clear hb2); (try clear hk); (try clear hi); (try clear ho0); (try clear ho1)) | ((with_reducible refine qs0 (N := 7) rfl ?_); refine qr0 ?hg (N := 7) ?hd (cs := #[.slice none 0 0, .slice none 0 0]) (t := 42) ?hr ?_; (case hd => rfl); (case hg => rfl); (case hr => first | (go_simp; done) | (go_simp; rfl)); intro gb242 hg w28 hbox hb; have n0_ := Aside0.mk (Kd.R_below (by (with_reducible repeat (first | apply Kd.qq0 | apply Kd.qp0 | apply Kd.qt0)); exact HO231.out) hb); have n1_ := Aside0.mk (Kd.R_below (by (with_reducible repeat (first | apply Kd.qq0 | apply Kd.qp0 | apply Kd.qt0)); exact HO234.out) hb); have n2_ := Aside0.mk (Kd.R_below (by (with_reducible repeat (first | apply Kd.qq0 | apply Kd.qp0 | apply Kd.qt0)); exact HO238.out) hb); have n3_ := Aside0.mk (Kd.R_below (by (with_reducible repeat (first | apply Kd.qq0 | apply Kd.qp0 | apply Kd.qt0)); exact HO241.out) hb); have n4_ := Aside0.mk (qm0 (g := gb227) (o := .cells #[.slice A0_0 l0_0.length c0_0, .slice A0_1 l0_1.length c0_1] 36 (0, 0)) (by (with_reducible repeat (first | refine qd0 ?_ _ | refine qh0 ?_ | refine qe0 ?_ _)); exact BK227.out) hb); have n5_ := Aside0.mk (ql0 (by repeat (first | (with_reducible first | exact HB.out | apply qc0 | apply qa0 | apply qb0 | refine qf0 ?_ GE227.out) | exact HB.out)) hb); have n6_ := Aside0.mk (hbox); have n7_ := Aside0.mk ((by rw [hg]; exact (qk0 (by repeat (first | (with_reducible first | exact HB.out | apply qc0 | apply qa0 | apply qb0 | refine qf0 ?_ GE227.out) | exact HB.out))) : w.heap.size ≤ gb242)); have n8_ := Aside0.mk ((by rw [hg]; exact (qk0 (by repeat (first | (with_reducible first | exact HB.out | apply qc0 | apply qa0 | apply qb0 | refine qf0 ?_ GE227.out) | exact HB.out))) : w.heap.size ≤ gb242)); have n9_ := Aside0.mk ((by rw [hg]; exact Nat.ne_of_lt (qa1 (g := gb227) (o := .cells #[.slice A0_0 l0_0.length c0_0, .slice A0_1 l0_1.length c0_1] 36 (0, 0)) (by (with_reducible repeat (first | refine qd0 ?_ _ | refine qh0 ?_ | refine qe0 ?_ _)); exact BK227.out)) : gb227 ≠ gb242)); have n10_ := Aside0.mk ((by rw [hg]; exact Nat.ne_of_gt (qa1 (g := gb227) (o := .cells #[.slice A0_0 l0_0.length c0_0, .slice A0_1 l0_1.length c0_1] 36 (0, 0)) (by (with_reducible repeat (first | refine qd0 ?_ _ | refine qh0 ?_ | refine qe0 ?_ _)); exact BK227.out)) : gb242 ≠ gb227)); clear HO231; clear HO234; clear HO238; clear HO241; clear BK227; clear HB; have HO231 := n0_; have HO234 := n1_; have HO238 := n2_; have HO241 := n3_; have BK227 := n4_; have HB := n5_; have BK242 := n6_; have GW242 := n7_; have GE242 := n8_; have NB227_242 := n9_; have NB242_227 := n10_; clear n0_ n1_ n2_ n3_ n4_ n5_ n6_ n7_ n8_ n9_ n10_; clear hb hbox hg; obtain ⟨Ao29, co29, eo29⟩ := Kd.R_slice HO238.out; subst eo29; have hnb30 := NB242_227.out; have hnc30 := NB227_242.out; have hcz31_0 : w28.cell? ⟨gb242, 0, none⟩ = some (.slice none 0 0) := (qg0 BK242.out 0).trans rfl; have hcz31_1 : w28.cell? ⟨gb242, 1, none⟩ = some (.slice none 0 0) := (qg0 BK242.out 1).trans rfl; have hfz31_0 := qi0 BK242.out 0; have hfz31_1 := qi0 BK242.out 1; obtain ⟨Ao32, co32, eo32⟩ := Kd.R_slice HO241.out; subst eo32) | ((with_reducible refine qn0 (f := 29) rfl ?_); refine qe1 (some 25) rfl rfl Try.func29 (by kernel_rfl) rfl #[.agg #[.slice Ao29 t236.length co29, .slice Ao32 t239.length co32], .string a1] rfl (by (try simp only [List.map_toArray, List.map_cons, List.map_nil]); first | done | rfl | (simp only [List.length_drop, List.length_take]; rfl)) ?_; (with_reducible refine (impl_FindPaper.calls k _ _ t236 _ _ t239 a1 t243 _ ?side1 ?side2 ?side3 ?side4 A13.out).mono ?_); (case side1 => refine (Kd.qz0 (e := 122) (base := w.heap.size) (ok := fun k_ => (True ∧ some k_ ≠ (.slice Ao23 t229.length co23 : Value).ownBlock)) (n := t236.length) (c := co29) ?_).2.2; exact (by (with_reducible repeat (first | apply Kd.qq0 | apply Kd.qp0 | apply Kd.qt0)); exact (Kd.qm1 (Kd.R_far (p := ⟨gb242, 1, none⟩) (Kd.R_far (p := ⟨gb242, 0, none⟩) (Kd.qi1 HO238.out BK242.out (by decide)) (fun _ hk => hk.2) (.slice Ao29 t236.length co29)) (fun _ hk => hk.2) (.slice Ao32 t239.length co32)) (fun _ h_ => h_.1)))); (case side2 => exact (Kd.qz0 HO238.out).2.1); (case side3 => refine (Kd.qz0 (e := 53) (base := w.heap.size) (ok := fun k_ => (True ∧ some k_ ≠ (.slice Ao24 t232.length co24 : Value).ownBlock)) (n := t239.length) (c := co32) ?_).2.2; exact (by (with_reducible repeat (first | apply Kd.qq0 | apply Kd.qp0 | apply Kd.qt0)); exact (Kd.qm1 (Kd.R_far (p := ⟨gb242, 1, none⟩) (Kd.R_far (p := ⟨gb242, 0, none⟩) (Kd.qi1 HO241.out BK242.out (by decide)) (fun _ hk => hk.2) (.slice Ao29 t236.length co29)) (fun _ hk => hk.2) (.slice Ao32 t239.length co32)) (fun _ h_ => h_.1)))); (case side4 => exact (Kd.qz0 HO241.out).2.1); rintro e w33 ⟨rfl, hb⟩; refine ⟨_, rfl, ?_⟩; have n0_ := Aside0.mk (Kd.R_below (by (with_reducible repeat (first | apply Kd.qq0 | apply Kd.qp0 | apply Kd.qt0)); exact (Kd.qm1 (Kd.R_far (p := ⟨gb242, 1, none⟩) (Kd.R_far (p := ⟨gb242, 0, none⟩) (Kd.qi1 HO231.out BK242.out (by decide)) (fun _ hk => hk.2) (.slice Ao29 t236.length co29)) (fun _ hk => hk.2) (.slice Ao32 t239.length co32)) (fun _ h_ => h_.1))) hb); have n1_ := Aside0.mk (Kd.R_below (by (with_reducible repeat (first | apply Kd.qq0 | apply Kd.qp0 | apply Kd.qt0)); exact (Kd.qm1 (Kd.R_far (p := ⟨gb242, 1, none⟩) (Kd.R_far (p := ⟨gb242, 0, none⟩) (Kd.qi1 HO234.out BK242.out (by decide)) (fun _ hk => hk.2) (.slice Ao29 t236.length co29)) (fun _ hk => hk.2) (.slice Ao32 t239.length co32)) (fun _ h_ => h_.1))) hb); have n2_ := Aside0.mk (Kd.R_below (by (with_reducible repeat (first | apply Kd.qq0 | apply Kd.qp0 | apply Kd.qt0)); exact (Kd.qm1 (Kd.R_far (p := ⟨gb242, 1, none⟩) (Kd.R_far (p := ⟨gb242, 0, none⟩) (Kd.qi1 HO238.out BK242.out (by decide)) (fun _ hk => hk.2) (.slice Ao29 t236.length co29)) (fun _ hk => hk.2) (.slice Ao32 t239.length co32)) (fun _ h_ => h_.1))) hb); have n3_ := Aside0.mk (Kd.R_below (by (with_reducible repeat (first | apply Kd.qq0 | apply Kd.qp0 | apply Kd.qt0)); exact (Kd.qm1 (Kd.R_far (p := ⟨gb242, 1, none⟩) (Kd.R_far (p := ⟨gb242, 0, none⟩) (Kd.qi1 HO241.out BK242.out (by decide)) (fun _ hk => hk.2) (.slice Ao29 t236.length co29)) (fun _ hk => hk.2) (.slice Ao32 t239.length co32)) (fun _ h_ => h_.1))) hb); have n4_ := Aside0.mk (qm0 (g := gb227) (o := .cells #[.slice A0_0 l0_0.length c0_0, .slice A0_1 l0_1.length c0_1] 36 (0, 0)) (by (with_reducible repeat (first | refine qd0 ?_ _ | refine qh0 ?_ | refine qe0 ?_ _)); refine qu0 ?_ NB227_242.out _; (with_reducible repeat (first | refine qd0 ?_ _ | refine qh0 ?_ | refine qe0 ?_ _)); refine qu0 ?_ NB227_242.out _; (with_reducible repeat (first | refine qd0 ?_ _ | refine qh0 ?_ | refine qe0 ?_ _)); exact BK227.out) hb); have n5_ := Aside0.mk (qm0 (g := gb242) (o := .cells #[.slice Ao29 t236.length co29, .slice Ao32 t239.length co32] 42 (0, 0)) (by (with_reducible repeat (first | refine qd0 ?_ _ | refine qh0 ?_ | refine qe0 ?_ _)); refine qx0 (cs := #[.slice Ao29 t236.length co29, .slice none 0 0]) ?_ 1 _ rfl; (with_reducible repeat (first | refine qd0 ?_ _ | refine qh0 ?_ | refine qe0 ?_ _)); refine qx0 (cs := #[.slice none 0 0, .slice none 0 0]) ?_ 0 _ rfl; (with_reducible repeat (first | refine qd0 ?_ _ | refine qh0 ?_ | refine qe0 ?_ _)); exact BK242.out) hb); have n6_ := Aside0.mk (ql0 (by repeat (first | (with_reducible first | exact HB.out | apply qc0 | apply qa0 | apply qb0 | refine qf0 ?_ GE227.out | refine qf0 ?_ GE242.out) | exact HB.out)) hb); clear HO231; clear HO234; clear HO238; clear HO241; clear BK227; clear BK242; clear HB; have HO231 := n0_; have HO234 := n1_; have HO238 := n2_; have HO241 := n3_; have BK227 := n4_; have BK242 := n5_; have HB := n6_; clear n0_ n1_ n2_ n3_ n4_ n5_ n6_; (try clear hb); (try clear hb2); (try clear hk); (try clear hi)))
   have n0_ := Aside0.mk (Kd.qt0 HO231.out)
   have n1_ := Aside0.mk (Kd.qt0 HO234.out)
   have n2_ := Aside0.mk (Kd.qt0 HO238.out)
   have n3_ := Aside0.mk (Kd.qt0 HO241.out)
   have n4_ := Aside0.mk (qh0 BK227.out)
   have n5_ := Aside0.mk (qh0 BK242.out)
   have n6_ := Aside0.mk (qb0 HB.out)
   clear HO231
   clear HO234
   clear HO238
   clear HO241
   clear BK227
   clear BK242
   clear HB
   have HO231 := n0_
   have HO234 := n1_
   have HO238 := n2_
   have HO241 := n3_
   have BK227 := n4_
   have BK242 := n5_
   have HB := n6_
   clear n0_ n1_ n2_ n3_ n4_ n5_ n6_
   refine qo1 (n := 5) (S := fun w' => w'.cell? ⟨gb242, 0, none⟩ = some (.slice Ao29 t236.length co29) ∧ w'.cell? ⟨gb242, 1, none⟩ = some (.slice Ao32 t239.length co32) ∧ w'.cell? ⟨gb227, 0, none⟩ = some (.slice A0_0 l0_0.length c0_0) ∧ w'.cell? ⟨gb227, 1, none⟩ = some (.slice A0_1 l0_1.length c0_1)) (ds := []) #[false, false, false, false, false] (by kernel_rfl) rfl rfl ⟨(qg0 BK242.out 0).trans rfl, (qg0 BK242.out 1).trans rfl, (qg0 BK227.out 0).trans rfl, (qg0 BK227.out 1).trans rfl⟩ (fun hHeld => ?_)
   generalize w33.drew = w34 at HO231 HO234 HO238 HO241 BK227 BK242 HB hHeld ⊢
   refine take_ (i := 0) (N := some 29) (v := ?_) (a' := ?_) #[true, false, false, false, false] rfl rfl (by kernel_rfl) (fun _ _ _ h => h) (Or.inl ⟨by rfl, ?_⟩) hHeld ?_ ?_
   rotate_left
   ·rintro w' ⟨s0, s1, s2, s3⟩
    go_simp
    with_reducible rfl
   rotate_left
   ·simp only [Act.put, List.setIfInBounds_toArray, List.set_cons_zero, List.set_cons_succ, i64_w, i32_w]
    rfl
   refine take_ (i := 1) (N := some 30) (v := ?_) (a' := ?_) #[true, true, false, false, false] rfl rfl (by kernel_rfl) (fun _ _ _ h => h) (Or.inl ⟨by rfl, ?_⟩) hHeld ?_ ?_
   rotate_left
   ·rintro w' ⟨s0, s1, s2, s3⟩
    go_simp
    with_reducible rfl
   rotate_left
   ·simp only [Act.put, List.setIfInBounds_toArray, List.set_cons_zero, List.set_cons_succ, i64_w, i32_w]
    rfl
   refine one_ (i := 2) (N := some 31) #[true, true, true, false, false] rfl rfl (by kernel_rfl) (by decide) (fun K hK => ?_)
   refine goes_ Try.func23 (by kernel_rfl) rfl #[.agg #[.slice A0_0 l0_0.length c0_0, .slice A0_1 l0_1.length c0_1]] (by rfl) rfl rfl (by (try simp only [List.map_toArray, List.map_cons, List.map_nil]); first | done | rfl | (simp only [List.length_drop, List.length_take]; rfl)) ?_
   with_reducible refine (laws_toRegister.calls k _ _ l0_0 _ _ l0_1 t244 t247 _ ?side1 ?side2 ?side3 ?side4 A15.out).mono ?_
   (case side1 => repeat (first | exact (Kd.qy0 HR0_0.out HB.out) | (with_reducible refine Kd.qw0 ?_ _) | (with_reducible refine Kd.qv0 ?_ _) | (with_reducible refine Kd.qb1 ?_)))
   (case side2 => exact HC0_0.out)
   (case side3 => repeat (first | exact (Kd.qy0 HR0_1.out HB.out) | (with_reducible refine Kd.qw0 ?_ _) | (with_reducible refine Kd.qv0 ?_ _) | (with_reducible refine Kd.qb1 ?_)))
   (case side4 => exact HC0_1.out)
   rintro e w35 ⟨v245, v248, rfl, ho0, ho1, hb⟩
   refine ⟨_, rfl, ?_⟩
   have n0_ := Aside0.mk (Kd.R_elder' (by (with_reducible repeat (first | apply Kd.qq0 | apply Kd.qp0 | apply Kd.qt0)); exact HO231.out) (Kd.R_base ho0) hb)
   have n1_ := Aside0.mk (Kd.R_elder' (by (with_reducible repeat (first | apply Kd.qq0 | apply Kd.qp0 | apply Kd.qt0)); exact HO234.out) (Kd.R_base ho1) hb)
   have n2_ := Aside0.mk (Kd.R_elder' (by (with_reducible repeat (first | apply Kd.qq0 | apply Kd.qp0 | apply Kd.qt0)); exact HO238.out) (Kd.R_base ho0) hb)
   have n3_ := Aside0.mk (Kd.R_elder' (by (with_reducible repeat (first | apply Kd.qq0 | apply Kd.qp0 | apply Kd.qt0)); exact HO241.out) (Kd.R_base ho1) hb)
   have n4_ := Aside0.mk (Kd.qj1 (Kd.R_new' (Kd.R_new' ho0 (Kd.R_lt (by (with_reducible repeat (first | apply Kd.qq0 | apply Kd.qp0 | apply Kd.qt0)); exact HO231.out))) (Kd.R_lt (by (with_reducible repeat (first | apply Kd.qq0 | apply Kd.qp0 | apply Kd.qt0)); exact HO238.out))) (qk0 (by repeat (first | (with_reducible first | exact HB.out | apply qc0 | apply qa0 | apply qb0 | refine qf0 ?_ GE227.out | refine qf0 ?_ GE242.out) | exact HB.out))))
   have n5_ := Aside0.mk (Kd.qj1 (Kd.R_new' (Kd.R_new' ho1 (Kd.R_lt (by (with_reducible repeat (first | apply Kd.qq0 | apply Kd.qp0 | apply Kd.qt0)); exact HO234.out))) (Kd.R_lt (by (with_reducible repeat (first | apply Kd.qq0 | apply Kd.qp0 | apply Kd.qt0)); exact HO241.out))) (qk0 (by repeat (first | (with_reducible first | exact HB.out | apply qc0 | apply qa0 | apply qb0 | refine qf0 ?_ GE227.out | refine qf0 ?_ GE242.out) | exact HB.out))))
   have n6_ := Aside0.mk (qm0 (g := gb227) (o := .cells #[.slice A0_0 l0_0.length c0_0, .slice A0_1 l0_1.length c0_1] 36 (0, 0)) (by (with_reducible repeat (first | refine qd0 ?_ _ | refine qh0 ?_ | refine qe0 ?_ _)); exact BK227.out) hb)
   have n7_ := Aside0.mk (qm0 (g := gb242) (o := .cells #[.slice Ao29 t236.length co29, .slice Ao32 t239.length co32] 42 (0, 0)) (by (with_reducible repeat (first | refine qd0 ?_ _ | refine qh0 ?_ | refine qe0 ?_ _)); exact BK242.out) hb)
   have n8_ := Aside0.mk (ql0 (by repeat (first | (with_reducible first | exact HB.out | apply qc0 | apply qa0 | apply qb0 | refine qf0 ?_ GE227.out | refine qf0 ?_ GE242.out) | exact HB.out)) hb)
   clear HO231
   clear HO234
   clear HO238
   clear HO241
   clear BK227
   clear BK242
   clear HB
   have HO231 := n0_
   have HO234 := n1_
   have HO238 := n2_
   have HO241 := n3_
   have HO246 := n4_
   have HO249 := n5_
   have BK227 := n6_
   have BK242 := n7_
   have HB := n8_
   clear n0_ n1_ n2_ n3_ n4_ n5_ n6_ n7_ n8_
   (try clear hb)
   (try clear hb2)
   (try clear hk)
   (try clear hi)
   (try clear ho0)
   (try clear ho1)
   obtain ⟨Ao36, co36, eo36⟩ := Kd.R_slice HO246.out
   (first | subst eo36 | (injection eo36 with f1_ f2_ f3_; have f4_ := f1_.symm; have f5_ := f3_.symm; clear f1_ f2_ f3_; subst f4_; subst f5_))
   obtain ⟨Ao37, co37, eo37⟩ := Kd.R_slice HO249.out
   (first | subst eo37 | (injection eo37 with f1_ f2_ f3_; have f4_ := f1_.symm; have f5_ := f3_.symm; clear f1_ f2_ f3_; subst f4_; subst f5_))
   refine hK.out _ _ ⟨(qg0 BK242.out 0).trans rfl, (qg0 BK242.out 1).trans rfl, (qg0 BK227.out 0).trans rfl, (qg0 BK227.out 1).trans rfl⟩ (fun hHeld => ?_)
   clear hK K
   refine norm_ (a' := ?_) ?_ ?_
   rotate_left
   ·show Act.put _ (some 31) _ = _
    simp only [Act.put, List.setIfInBounds_toArray, List.set_cons_zero, List.set_cons_succ, i64_w, i32_w]
    rfl
   refine one_ (i := 3) (N := some 32) #[true, true, true, true, false] rfl rfl (by kernel_rfl) (by decide) (fun K hK => ?_)
   refine goes_ Try.func25 (by kernel_rfl) rfl #[.agg #[.slice Ao29 t236.length co29, .slice Ao32 t239.length co32], .agg #[.slice Ao36 t244.length co36, .slice Ao37 t247.length co37]] (by rfl) rfl rfl (by (try simp only [List.map_toArray, List.map_cons, List.map_nil]); first | done | rfl | (simp only [List.length_drop, List.length_take]; rfl)) ?_
   with_reducible refine (laws_eqRegister.calls k _ _ t236 _ _ t239 _ _ t244 _ _ t247 true _ ?side1 ?side2 ?side3 ?side4 ?side5 ?side6 ?side7 ?side8 A16.out).mono ?_
   (case side1 => repeat (first | exact (Kd.qz0 HO238.out).2.2 | (with_reducible refine Kd.qw0 ?_ _) | (with_reducible refine Kd.qv0 ?_ _) | (with_reducible refine Kd.qb1 ?_)))
   (case side2 => exact (Kd.qz0 HO238.out).2.1)
   (case side3 => repeat (first | exact (Kd.qz0 HO241.out).2.2 | (with_reducible refine Kd.qw0 ?_ _) | (with_reducible refine Kd.qv0 ?_ _) | (with_reducible refine Kd.qb1 ?_)))
   (case side4 => exact (Kd.qz0 HO241.out).2.1)
   (case side5 => repeat (first | exact (Kd.qz0 HO246.out).2.2 | (with_reducible refine Kd.qw0 ?_ _) | (with_reducible refine Kd.qv0 ?_ _) | (with_reducible refine Kd.qb1 ?_)))
   (case side6 => exact (Kd.qz0 HO246.out).2.1)
   (case side7 => repeat (first | exact (Kd.qz0 HO249.out).2.2 | (with_reducible refine Kd.qw0 ?_ _) | (with_reducible refine Kd.qv0 ?_ _) | (with_reducible refine Kd.qb1 ?_)))
   (case side8 => exact (Kd.qz0 HO249.out).2.1)
   rintro e w38 ⟨rfl, hb⟩
   refine ⟨_, rfl, ?_⟩
   have n0_ := Aside0.mk (Kd.R_below (by (with_reducible repeat (first | apply Kd.qq0 | apply Kd.qp0 | apply Kd.qt0)); exact HO231.out) hb)
   have n1_ := Aside0.mk (Kd.R_below (by (with_reducible repeat (first | apply Kd.qq0 | apply Kd.qp0 | apply Kd.qt0)); exact HO234.out) hb)
   have n2_ := Aside0.mk (Kd.R_below (by (with_reducible repeat (first | apply Kd.qq0 | apply Kd.qp0 | apply Kd.qt0)); exact HO238.out) hb)
   have n3_ := Aside0.mk (Kd.R_below (by (with_reducible repeat (first | apply Kd.qq0 | apply Kd.qp0 | apply Kd.qt0)); exact HO241.out) hb)
   have n4_ := Aside0.mk (Kd.R_below (by (with_reducible repeat (first | apply Kd.qq0 | apply Kd.qp0 | apply Kd.qt0)); exact HO246.out) hb)
   have n5_ := Aside0.mk (Kd.R_below (by (with_reducible repeat (first | apply Kd.qq0 | apply Kd.qp0 | apply Kd.qt0)); exact HO249.out) hb)
   have n6_ := Aside0.mk (qm0 (g := gb227) (o := .cells #[.slice A0_0 l0_0.length c0_0, .slice A0_1 l0_1.length c0_1] 36 (0, 0)) (by (with_reducible repeat (first | refine qd0 ?_ _ | refine qh0 ?_ | refine qe0 ?_ _)); exact BK227.out) hb)
   have n7_ := Aside0.mk (qm0 (g := gb242) (o := .cells #[.slice Ao29 t236.length co29, .slice Ao32 t239.length co32] 42 (0, 0)) (by (with_reducible repeat (first | refine qd0 ?_ _ | refine qh0 ?_ | refine qe0 ?_ _)); exact BK242.out) hb)
   have n8_ := Aside0.mk (ql0 (by repeat (first | (with_reducible first | exact HB.out | apply qc0 | apply qa0 | apply qb0 | refine qf0 ?_ GE227.out | refine qf0 ?_ GE242.out) | exact HB.out)) hb)
   clear HO231
   clear HO234
   clear HO238
   clear HO241
   clear HO246
   clear HO249
   clear BK227
   clear BK242
   clear HB
   have HO231 := n0_
   have HO234 := n1_
   have HO238 := n2_
   have HO241 := n3_
   have HO246 := n4_
   have HO249 := n5_
   have BK227 := n6_
   have BK242 := n7_
   have HB := n8_
   clear n0_ n1_ n2_ n3_ n4_ n5_ n6_ n7_ n8_
   (try clear hb)
   (try clear hb2)
   (try clear hk)
   (try clear hi)
   refine hK.out _ _ ⟨(qg0 BK242.out 0).trans rfl, (qg0 BK242.out 1).trans rfl, (qg0 BK227.out 0).trans rfl, (qg0 BK227.out 1).trans rfl⟩ (fun hHeld => ?_)
   clear hK K
   refine norm_ (a' := ?_) ?_ ?_
   rotate_left
   ·show Act.put _ (some 32) _ = _
    simp only [Act.put, List.setIfInBounds_toArray, List.set_cons_zero, List.set_cons_succ, i64_w, i32_w]
    rfl
   refine pure_ (i := 4) (N := some 33) (v := ?_) (a' := ?_) #[true, true, true, true, true] rfl rfl (by kernel_rfl) (fun _ _ _ h => h) (Or.inl ⟨by rfl, ?_⟩) ?_ ?_
   rotate_left
   ·intro w'
    go_simp
    with_reducible rfl
   rotate_left
   ·simp only [Act.put, List.setIfInBounds_toArray, List.set_cons_zero, List.set_cons_succ, i64_w, i32_w]
    rfl
   refine done_ (by kernel_rfl) ?_
   try go_wp2
   go_ret
   exact ⟨by first | rfl | (simp [errW_none, errW_some] <;> rfl) | (simp [*, errW_none, errW_some] <;> rfl), by repeat (first | (with_reducible first | exact HB.out | apply qc0 | apply qa0 | apply qb0 | refine qf0 ?_ GE227.out | refine qf0 ?_ GE242.out) | exact HB.out)⟩
  replace c17 := Bool.eq_false_iff.mpr c17
  subst c17
  have H1 : (some false) = some r := by rw [if_neg (show ¬ (false = true) by decide)] at H; exact H
  clear H
  have H := H1
  clear H1
  obtain rfl := Option.some.inj H
  go_enter Try.func6, Try.ntmps6
  try go_wp2_with (first | ((with_reducible refine qs0 (N := 2) rfl ?_); refine qr0 ?hg (N := 2) ?hd (cs := #[.slice A0_0 l0_0.length c0_0, .slice A0_1 l0_1.length c0_1]) (t := 36) ?hr ?_; (case hd => rfl); (case hg => rfl); (case hr => first | (go_simp; done) | (go_simp; rfl)); intro gb227 hg w39 hbox hb; have n0_ := Aside0.mk (ql0 (by repeat (first | (with_reducible first | exact HB.out | apply qc0 | apply qa0 | apply qb0) | exact HB.out)) hb); have n1_ := Aside0.mk (hbox); have n2_ := Aside0.mk ((by rw [hg]; exact (qk0 (by repeat (first | (with_reducible first | exact HB.out | apply qc0 | apply qa0 | apply qb0) | exact HB.out))) : w.heap.size ≤ gb227)); have n3_ := Aside0.mk ((by rw [hg]; exact (qk0 (by repeat (first | (with_reducible first | exact HB.out | apply qc0 | apply qa0 | apply qb0) | exact HB.out))) : w.heap.size ≤ gb227)); clear HB; have HB := n0_; have BK227 := n1_; have GW227 := n2_; have GE227 := n3_; clear n0_ n1_ n2_ n3_; clear hb hbox hg; have hcz40_0 : w39.cell? ⟨gb227, 0, none⟩ = some (.slice A0_0 l0_0.length c0_0) := (qg0 BK227.out 0).trans rfl; have hcz40_1 : w39.cell? ⟨gb227, 1, none⟩ = some (.slice A0_1 l0_1.length c0_1) := (qg0 BK227.out 1).trans rfl; have hfz40_0 := qi0 BK227.out 0; have hfz40_1 := qi0 BK227.out 1) | ((with_reducible refine qn0 (f := 21) rfl ?_); refine qe1 (some 14) rfl rfl Try.func21 (by kernel_rfl) rfl #[.agg #[.slice A0_0 l0_0.length c0_0, .slice A0_1 l0_1.length c0_1], .int .i64 1048576] rfl (by (try simp only [List.map_toArray, List.map_cons, List.map_nil]); first | done | rfl | (simp only [List.length_drop, List.length_take]; rfl)) ?_; (with_reducible refine (laws_szRegister.calls k _ _ l0_0 _ _ l0_1 1048576 t228 _ ?side1 ?side2 ?side3 ?side4 A5.out).mono ?_); (case side1 => repeat (first | exact (Kd.qy0 HR0_0.out HB.out) | (with_reducible refine Kd.qw0 ?_ _) | (with_reducible refine Kd.qv0 ?_ _) | (with_reducible refine Kd.qb1 ?_))); (case side2 => exact HC0_0.out); (case side3 => repeat (first | exact (Kd.qy0 HR0_1.out HB.out) | (with_reducible refine Kd.qw0 ?_ _) | (with_reducible refine Kd.qv0 ?_ _) | (with_reducible refine Kd.qb1 ?_))); (case side4 => exact HC0_1.out); rintro e w41 ⟨rfl, hb⟩; refine ⟨_, rfl, ?_⟩; have n0_ := Aside0.mk (qm0 (g := gb227) (o := .cells #[.slice A0_0 l0_0.length c0_0, .slice A0_1 l0_1.length c0_1] 36 (0, 0)) (by (with_reducible repeat (first | refine qd0 ?_ _ | refine qh0 ?_ | refine qe0 ?_ _)); exact BK227.out) hb); have n1_ := Aside0.mk (ql0 (by repeat (first | (with_reducible first | exact HB.out | apply qc0 | apply qa0 | apply qb0 | refine qf0 ?_ GE227.out) | exact HB.out)) hb); clear BK227; clear HB; have BK227 := n0_; have HB := n1_; clear n0_ n1_; (try clear hb); (try clear hb2); (try clear hk); (try clear hi); have hcz42_0 : w41.cell? ⟨gb227, 0, none⟩ = some (.slice A0_0 l0_0.length c0_0) := (qg0 BK227.out 0).trans rfl; have hcz42_1 : w41.cell? ⟨gb227, 1, none⟩ = some (.slice A0_1 l0_1.length c0_1) := (qg0 BK227.out 1).trans rfl; have hfz42_0 := qi0 BK227.out 0; have hfz42_1 := qi0 BK227.out 1) | ((with_reducible refine qn0 (f := 23) rfl ?_); refine qe1 (some 18) rfl rfl Try.func23 (by kernel_rfl) rfl #[.agg #[.slice A0_0 l0_0.length c0_0, .slice A0_1 l0_1.length c0_1]] rfl (by (try simp only [List.map_toArray, List.map_cons, List.map_nil]); first | done | rfl | (simp only [List.length_drop, List.length_take]; rfl)) ?_; (with_reducible refine (laws_toRegister.calls k _ _ l0_0 _ _ l0_1 t229 t232 _ ?side1 ?side2 ?side3 ?side4 A10.out).mono ?_); (case side1 => repeat (first | exact (Kd.qy0 HR0_0.out HB.out) | (with_reducible refine Kd.qw0 ?_ _) | (with_reducible refine Kd.qv0 ?_ _) | (with_reducible refine Kd.qb1 ?_))); (case side2 => exact HC0_0.out); (case side3 => repeat (first | exact (Kd.qy0 HR0_1.out HB.out) | (with_reducible refine Kd.qw0 ?_ _) | (with_reducible refine Kd.qv0 ?_ _) | (with_reducible refine Kd.qb1 ?_))); (case side4 => exact HC0_1.out); rintro e w43 ⟨v230, v233, rfl, ho0, ho1, hb⟩; refine ⟨_, rfl, ?_⟩; have n0_ := Aside0.mk (Kd.qj1 ho0 (qk0 (by repeat (first | (with_reducible first | exact HB.out | apply qc0 | apply qa0 | apply qb0 | refine qf0 ?_ GE227.out) | exact HB.out)))); have n1_ := Aside0.mk (Kd.qj1 ho1 (qk0 (by repeat (first | (with_reducible first | exact HB.out | apply qc0 | apply qa0 | apply qb0 | refine qf0 ?_ GE227.out) | exact HB.out)))); have n2_ := Aside0.mk (qm0 (g := gb227) (o := .cells #[.slice A0_0 l0_0.length c0_0, .slice A0_1 l0_1.length c0_1] 36 (0, 0)) (by (with_reducible repeat (first | refine qd0 ?_ _ | refine qh0 ?_ | refine qe0 ?_ _)); exact BK227.out) hb); have n3_ := Aside0.mk (ql0 (by repeat (first | (with_reducible first | exact HB.out | apply qc0 | apply qa0 | apply qb0 | refine qf0 ?_ GE227.out) | exact HB.out)) hb); clear BK227; clear HB; have HO231 := n0_; have HO234 := n1_; have BK227 := n2_; have HB := n3_; clear n0_ n1_ n2_ n3_; (try clear hb); (try clear hb2); (try clear hk); (try clear hi); (try clear ho0); (try clear ho1); obtain ⟨Ao44, co44, eo44⟩ := Kd.R_slice HO231.out; subst eo44; obtain ⟨Ao45, co45, eo45⟩ := Kd.R_slice HO234.out; subst eo45) | ((with_reducible refine qn0 (f := 28) rfl ?_); refine qe1 (some 20) rfl rfl Try.func28 (by kernel_rfl) rfl #[.agg #[.slice Ao44 t229.length co44, .slice Ao45 t232.length co45], .string a1] rfl (by (try simp only [List.map_toArray, List.map_cons, List.map_nil]); first | done | rfl | (simp only [List.length_drop, List.length_take]; rfl)) ?_; (with_reducible refine (spec_FindPaper.calls k _ _ t229 _ _ t232 a1 t235 _ ?side1 ?side2 ?side3 ?side4 A11.out).mono ?_); (case side1 => repeat (first | exact (Kd.qz0 HO231.out).2.2 | (with_reducible refine Kd.qw0 ?_ _) | (with_reducible refine Kd.qv0 ?_ _) | (with_reducible refine Kd.qb1 ?_))); (case side2 => exact (Kd.qz0 HO231.out).2.1); (case side3 => repeat (first | exact (Kd.qz0 HO234.out).2.2 | (with_reducible refine Kd.qw0 ?_ _) | (with_reducible refine Kd.qv0 ?_ _) | (with_reducible refine Kd.qb1 ?_))); (case side4 => exact (Kd.qz0 HO234.out).2.1); rintro e w46 ⟨rfl, hb⟩; refine ⟨_, rfl, ?_⟩; have n0_ := Aside0.mk (Kd.R_below (by (with_reducible repeat (first | apply Kd.qq0 | apply Kd.qp0 | apply Kd.qt0)); exact HO231.out) hb); have n1_ := Aside0.mk (Kd.R_below (by (with_reducible repeat (first | apply Kd.qq0 | apply Kd.qp0 | apply Kd.qt0)); exact HO234.out) hb); have n2_ := Aside0.mk (qm0 (g := gb227) (o := .cells #[.slice A0_0 l0_0.length c0_0, .slice A0_1 l0_1.length c0_1] 36 (0, 0)) (by (with_reducible repeat (first | refine qd0 ?_ _ | refine qh0 ?_ | refine qe0 ?_ _)); exact BK227.out) hb); have n3_ := Aside0.mk (ql0 (by repeat (first | (with_reducible first | exact HB.out | apply qc0 | apply qa0 | apply qb0 | refine qf0 ?_ GE227.out) | exact HB.out)) hb); clear HO231; clear HO234; clear BK227; clear HB; have HO231 := n0_; have HO234 := n1_; have BK227 := n2_; have HB := n3_; clear n0_ n1_ n2_ n3_; (try clear hb); (try clear hb2); (try clear hk); (try clear hi); have hcz47_0 : w46.cell? ⟨gb227, 0, none⟩ = some (.slice A0_0 l0_0.length c0_0) := (qg0 BK227.out 0).trans rfl; have hcz47_1 : w46.cell? ⟨gb227, 1, none⟩ = some (.slice A0_1 l0_1.length c0_1) := (qg0 BK227.out 1).trans rfl; have hfz47_0 := qi0 BK227.out 0; have hfz47_1 := qi0 BK227.out 1) | ((with_reducible refine qn0 (f := 23) rfl ?_); refine qe1 (some 22) rfl rfl Try.func23 (by kernel_rfl) rfl #[.agg #[.slice A0_0 l0_0.length c0_0, .slice A0_1 l0_1.length c0_1]] rfl (by (try simp only [List.map_toArray, List.map_cons, List.map_nil]); first | done | rfl | (simp only [List.length_drop, List.length_take]; rfl)) ?_; (with_reducible refine (laws_toRegister.calls k _ _ l0_0 _ _ l0_1 t236 t239 _ ?side1 ?side2 ?side3 ?side4 A12.out).mono ?_); (case side1 => repeat (first | exact (Kd.qy0 HR0_0.out HB.out) | (with_reducible refine Kd.qw0 ?_ _) | (with_reducible refine Kd.qv0 ?_ _) | (with_reducible refine Kd.qb1 ?_))); (case side2 => exact HC0_0.out); (case side3 => repeat (first | exact (Kd.qy0 HR0_1.out HB.out) | (with_reducible refine Kd.qw0 ?_ _) | (with_reducible refine Kd.qv0 ?_ _) | (with_reducible refine Kd.qb1 ?_))); (case side4 => exact HC0_1.out); rintro e w48 ⟨v237, v240, rfl, ho0, ho1, hb⟩; refine ⟨_, rfl, ?_⟩; have n0_ := Aside0.mk (Kd.R_elder' (by (with_reducible repeat (first | apply Kd.qq0 | apply Kd.qp0 | apply Kd.qt0)); exact HO231.out) (Kd.R_base ho0) hb); have n1_ := Aside0.mk (Kd.R_elder' (by (with_reducible repeat (first | apply Kd.qq0 | apply Kd.qp0 | apply Kd.qt0)); exact HO234.out) (Kd.R_base ho1) hb); have n2_ := Aside0.mk (Kd.qj1 (Kd.R_new' ho0 (Kd.R_lt (by (with_reducible repeat (first | apply Kd.qq0 | apply Kd.qp0 | apply Kd.qt0)); exact HO231.out))) (qk0 (by repeat (first | (with_reducible first | exact HB.out | apply qc0 | apply qa0 | apply qb0 | refine qf0 ?_ GE227.out) | exact HB.out)))); have n3_ := Aside0.mk (Kd.qj1 (Kd.R_new' ho1 (Kd.R_lt (by (with_reducible repeat (first | apply Kd.qq0 | apply Kd.qp0 | apply Kd.qt0)); exact HO234.out))) (qk0 (by repeat (first | (with_reducible first | exact HB.out | apply qc0 | apply qa0 | apply qb0 | refine qf0 ?_ GE227.out) | exact HB.out)))); have n4_ := Aside0.mk (qm0 (g := gb227) (o := .cells #[.slice A0_0 l0_0.length c0_0, .slice A0_1 l0_1.length c0_1] 36 (0, 0)) (by (with_reducible repeat (first | refine qd0 ?_ _ | refine qh0 ?_ | refine qe0 ?_ _)); exact BK227.out) hb); have n5_ := Aside0.mk (ql0 (by repeat (first | (with_reducible first | exact HB.out | apply qc0 | apply qa0 | apply qb0 | refine qf0 ?_ GE227.out) | exact HB.out)) hb); clear HO231; clear HO234; clear BK227; clear HB; have HO231 := n0_; have HO234 := n1_; have HO238 := n2_; have HO241 := n3_; have BK227 := n4_; have HB := n5_; clear n0_ n1_ n2_ n3_ n4_ n5_; (try clear hb); (try clear hb2); (try clear hk); (try clear hi); (try clear ho0); (try clear ho1)) | ((with_reducible refine qs0 (N := 7) rfl ?_); refine qr0 ?hg (N := 7) ?hd (cs := #[.slice none 0 0, .slice none 0 0]) (t := 42) ?hr ?_; (case hd => rfl); (case hg => rfl); (case hr => first | (go_simp; done) | (go_simp; rfl)); intro gb242 hg w49 hbox hb; have n0_ := Aside0.mk (Kd.R_below (by (with_reducible repeat (first | apply Kd.qq0 | apply Kd.qp0 | apply Kd.qt0)); exact HO231.out) hb); have n1_ := Aside0.mk (Kd.R_below (by (with_reducible repeat (first | apply Kd.qq0 | apply Kd.qp0 | apply Kd.qt0)); exact HO234.out) hb); have n2_ := Aside0.mk (Kd.R_below (by (with_reducible repeat (first | apply Kd.qq0 | apply Kd.qp0 | apply Kd.qt0)); exact HO238.out) hb); have n3_ := Aside0.mk (Kd.R_below (by (with_reducible repeat (first | apply Kd.qq0 | apply Kd.qp0 | apply Kd.qt0)); exact HO241.out) hb); have n4_ := Aside0.mk (qm0 (g := gb227) (o := .cells #[.slice A0_0 l0_0.length c0_0, .slice A0_1 l0_1.length c0_1] 36 (0, 0)) (by (with_reducible repeat (first | refine qd0 ?_ _ | refine qh0 ?_ | refine qe0 ?_ _)); exact BK227.out) hb); have n5_ := Aside0.mk (ql0 (by repeat (first | (with_reducible first | exact HB.out | apply qc0 | apply qa0 | apply qb0 | refine qf0 ?_ GE227.out) | exact HB.out)) hb); have n6_ := Aside0.mk (hbox); have n7_ := Aside0.mk ((by rw [hg]; exact (qk0 (by repeat (first | (with_reducible first | exact HB.out | apply qc0 | apply qa0 | apply qb0 | refine qf0 ?_ GE227.out) | exact HB.out))) : w.heap.size ≤ gb242)); have n8_ := Aside0.mk ((by rw [hg]; exact (qk0 (by repeat (first | (with_reducible first | exact HB.out | apply qc0 | apply qa0 | apply qb0 | refine qf0 ?_ GE227.out) | exact HB.out))) : w.heap.size ≤ gb242)); have n9_ := Aside0.mk ((by rw [hg]; exact Nat.ne_of_lt (qa1 (g := gb227) (o := .cells #[.slice A0_0 l0_0.length c0_0, .slice A0_1 l0_1.length c0_1] 36 (0, 0)) (by (with_reducible repeat (first | refine qd0 ?_ _ | refine qh0 ?_ | refine qe0 ?_ _)); exact BK227.out)) : gb227 ≠ gb242)); have n10_ := Aside0.mk ((by rw [hg]; exact Nat.ne_of_gt (qa1 (g := gb227) (o := .cells #[.slice A0_0 l0_0.length c0_0, .slice A0_1 l0_1.length c0_1] 36 (0, 0)) (by (with_reducible repeat (first | refine qd0 ?_ _ | refine qh0 ?_ | refine qe0 ?_ _)); exact BK227.out)) : gb242 ≠ gb227)); clear HO231; clear HO234; clear HO238; clear HO241; clear BK227; clear HB; have HO231 := n0_; have HO234 := n1_; have HO238 := n2_; have HO241 := n3_; have BK227 := n4_; have HB := n5_; have BK242 := n6_; have GW242 := n7_; have GE242 := n8_; have NB227_242 := n9_; have NB242_227 := n10_; clear n0_ n1_ n2_ n3_ n4_ n5_ n6_ n7_ n8_ n9_ n10_; clear hb hbox hg; obtain ⟨Ao50, co50, eo50⟩ := Kd.R_slice HO238.out; subst eo50; have hnb51 := NB242_227.out; have hnc51 := NB227_242.out; have hcz52_0 : w49.cell? ⟨gb242, 0, none⟩ = some (.slice none 0 0) := (qg0 BK242.out 0).trans rfl; have hcz52_1 : w49.cell? ⟨gb242, 1, none⟩ = some (.slice none 0 0) := (qg0 BK242.out 1).trans rfl; have hfz52_0 := qi0 BK242.out 0; have hfz52_1 := qi0 BK242.out 1; obtain ⟨Ao53, co53, eo53⟩ := Kd.R_slice HO241.out; subst eo53) | ((with_reducible refine qn0 (f := 29) rfl ?_); refine qe1 (some 25) rfl rfl Try.func29 (by kernel_rfl) rfl #[.agg #[.slice Ao50 t236.length co50, .slice Ao53 t239.length co53], .string a1] rfl (by (try simp only [List.map_toArray, List.map_cons, List.map_nil]); first | done | rfl | (simp only [List.length_drop, List.length_take]; rfl)) ?_; (with_reducible refine (impl_FindPaper.calls k _ _ t236 _ _ t239 a1 t243 _ ?side1 ?side2 ?side3 ?side4 A13.out).mono ?_); (case side1 => refine (Kd.qz0 (e := 122) (base := w.heap.size) (ok := fun k_ => (True ∧ some k_ ≠ (.slice Ao44 t229.length co44 : Value).ownBlock)) (n := t236.length) (c := co50) ?_).2.2; exact (by (with_reducible repeat (first | apply Kd.qq0 | apply Kd.qp0 | apply Kd.qt0)); exact (Kd.qm1 (Kd.R_far (p := ⟨gb242, 1, none⟩) (Kd.R_far (p := ⟨gb242, 0, none⟩) (Kd.qi1 HO238.out BK242.out (by decide)) (fun _ hk => hk.2) (.slice Ao50 t236.length co50)) (fun _ hk => hk.2) (.slice Ao53 t239.length co53)) (fun _ h_ => h_.1)))); (case side2 => exact (Kd.qz0 HO238.out).2.1); (case side3 => refine (Kd.qz0 (e := 53) (base := w.heap.size) (ok := fun k_ => (True ∧ some k_ ≠ (.slice Ao45 t232.length co45 : Value).ownBlock)) (n := t239.length) (c := co53) ?_).2.2; exact (by (with_reducible repeat (first | apply Kd.qq0 | apply Kd.qp0 | apply Kd.qt0)); exact (Kd.qm1 (Kd.R_far (p := ⟨gb242, 1, none⟩) (Kd.R_far (p := ⟨gb242, 0, none⟩) (Kd.qi1 HO241.out BK242.out (by decide)) (fun _ hk => hk.2) (.slice Ao50 t236.length co50)) (fun _ hk => hk.2) (.slice Ao53 t239.length co53)) (fun _ h_ => h_.1)))); (case side4 => exact (Kd.qz0 HO241.out).2.1); rintro e w54 ⟨rfl, hb⟩; refine ⟨_, rfl, ?_⟩; have n0_ := Aside0.mk (Kd.R_below (by (with_reducible repeat (first | apply Kd.qq0 | apply Kd.qp0 | apply Kd.qt0)); exact (Kd.qm1 (Kd.R_far (p := ⟨gb242, 1, none⟩) (Kd.R_far (p := ⟨gb242, 0, none⟩) (Kd.qi1 HO231.out BK242.out (by decide)) (fun _ hk => hk.2) (.slice Ao50 t236.length co50)) (fun _ hk => hk.2) (.slice Ao53 t239.length co53)) (fun _ h_ => h_.1))) hb); have n1_ := Aside0.mk (Kd.R_below (by (with_reducible repeat (first | apply Kd.qq0 | apply Kd.qp0 | apply Kd.qt0)); exact (Kd.qm1 (Kd.R_far (p := ⟨gb242, 1, none⟩) (Kd.R_far (p := ⟨gb242, 0, none⟩) (Kd.qi1 HO234.out BK242.out (by decide)) (fun _ hk => hk.2) (.slice Ao50 t236.length co50)) (fun _ hk => hk.2) (.slice Ao53 t239.length co53)) (fun _ h_ => h_.1))) hb); have n2_ := Aside0.mk (Kd.R_below (by (with_reducible repeat (first | apply Kd.qq0 | apply Kd.qp0 | apply Kd.qt0)); exact (Kd.qm1 (Kd.R_far (p := ⟨gb242, 1, none⟩) (Kd.R_far (p := ⟨gb242, 0, none⟩) (Kd.qi1 HO238.out BK242.out (by decide)) (fun _ hk => hk.2) (.slice Ao50 t236.length co50)) (fun _ hk => hk.2) (.slice Ao53 t239.length co53)) (fun _ h_ => h_.1))) hb); have n3_ := Aside0.mk (Kd.R_below (by (with_reducible repeat (first | apply Kd.qq0 | apply Kd.qp0 | apply Kd.qt0)); exact (Kd.qm1 (Kd.R_far (p := ⟨gb242, 1, none⟩) (Kd.R_far (p := ⟨gb242, 0, none⟩) (Kd.qi1 HO241.out BK242.out (by decide)) (fun _ hk => hk.2) (.slice Ao50 t236.length co50)) (fun _ hk => hk.2) (.slice Ao53 t239.length co53)) (fun _ h_ => h_.1))) hb); have n4_ := Aside0.mk (qm0 (g := gb227) (o := .cells #[.slice A0_0 l0_0.length c0_0, .slice A0_1 l0_1.length c0_1] 36 (0, 0)) (by (with_reducible repeat (first | refine qd0 ?_ _ | refine qh0 ?_ | refine qe0 ?_ _)); refine qu0 ?_ NB227_242.out _; (with_reducible repeat (first | refine qd0 ?_ _ | refine qh0 ?_ | refine qe0 ?_ _)); refine qu0 ?_ NB227_242.out _; (with_reducible repeat (first | refine qd0 ?_ _ | refine qh0 ?_ | refine qe0 ?_ _)); exact BK227.out) hb); have n5_ := Aside0.mk (qm0 (g := gb242) (o := .cells #[.slice Ao50 t236.length co50, .slice Ao53 t239.length co53] 42 (0, 0)) (by (with_reducible repeat (first | refine qd0 ?_ _ | refine qh0 ?_ | refine qe0 ?_ _)); refine qx0 (cs := #[.slice Ao50 t236.length co50, .slice none 0 0]) ?_ 1 _ rfl; (with_reducible repeat (first | refine qd0 ?_ _ | refine qh0 ?_ | refine qe0 ?_ _)); refine qx0 (cs := #[.slice none 0 0, .slice none 0 0]) ?_ 0 _ rfl; (with_reducible repeat (first | refine qd0 ?_ _ | refine qh0 ?_ | refine qe0 ?_ _)); exact BK242.out) hb); have n6_ := Aside0.mk (ql0 (by repeat (first | (with_reducible first | exact HB.out | apply qc0 | apply qa0 | apply qb0 | refine qf0 ?_ GE227.out | refine qf0 ?_ GE242.out) | exact HB.out)) hb); clear HO231; clear HO234; clear HO238; clear HO241; clear BK227; clear BK242; clear HB; have HO231 := n0_; have HO234 := n1_; have HO238 := n2_; have HO241 := n3_; have BK227 := n4_; have BK242 := n5_; have HB := n6_; clear n0_ n1_ n2_ n3_ n4_ n5_ n6_; (try clear hb); (try clear hb2); (try clear hk); (try clear hi)))
  have n0_ := Aside0.mk (Kd.qt0 HO231.out)
  have n1_ := Aside0.mk (Kd.qt0 HO234.out)
  have n2_ := Aside0.mk (Kd.qt0 HO238.out)
  have n3_ := Aside0.mk (Kd.qt0 HO241.out)
  have n4_ := Aside0.mk (qh0 BK227.out)
  have n5_ := Aside0.mk (qh0 BK242.out)
  have n6_ := Aside0.mk (qb0 HB.out)
  clear HO231
  clear HO234
  clear HO238
  clear HO241
  clear BK227
  clear BK242
  clear HB
  have HO231 := n0_
  have HO234 := n1_
  have HO238 := n2_
  have HO241 := n3_
  have BK227 := n4_
  have BK242 := n5_
  have HB := n6_
  clear n0_ n1_ n2_ n3_ n4_ n5_ n6_
  refine qo1 (n := 5) (S := fun w' => w'.cell? ⟨gb242, 0, none⟩ = some (.slice Ao50 t236.length co50) ∧ w'.cell? ⟨gb242, 1, none⟩ = some (.slice Ao53 t239.length co53) ∧ w'.cell? ⟨gb227, 0, none⟩ = some (.slice A0_0 l0_0.length c0_0) ∧ w'.cell? ⟨gb227, 1, none⟩ = some (.slice A0_1 l0_1.length c0_1)) (ds := []) #[false, false, false, false, false] (by kernel_rfl) rfl rfl ⟨(qg0 BK242.out 0).trans rfl, (qg0 BK242.out 1).trans rfl, (qg0 BK227.out 0).trans rfl, (qg0 BK227.out 1).trans rfl⟩ (fun hHeld => ?_)
  generalize w54.drew = w55 at HO231 HO234 HO238 HO241 BK227 BK242 HB hHeld ⊢
  refine take_ (i := 0) (N := some 29) (v := ?_) (a' := ?_) #[true, false, false, false, false] rfl rfl (by kernel_rfl) (fun _ _ _ h => h) (Or.inl ⟨by rfl, ?_⟩) hHeld ?_ ?_
  rotate_left
  ·rintro w' ⟨s0, s1, s2, s3⟩
   go_simp
   with_reducible rfl
  rotate_left
  ·simp only [Act.put, List.setIfInBounds_toArray, List.set_cons_zero, List.set_cons_succ, i64_w, i32_w]
   rfl
  refine take_ (i := 1) (N := some 30) (v := ?_) (a' := ?_) #[true, true, false, false, false] rfl rfl (by kernel_rfl) (fun _ _ _ h => h) (Or.inl ⟨by rfl, ?_⟩) hHeld ?_ ?_
  rotate_left
  ·rintro w' ⟨s0, s1, s2, s3⟩
   go_simp
   with_reducible rfl
  rotate_left
  ·simp only [Act.put, List.setIfInBounds_toArray, List.set_cons_zero, List.set_cons_succ, i64_w, i32_w]
   rfl
  refine one_ (i := 2) (N := some 31) #[true, true, true, false, false] rfl rfl (by kernel_rfl) (by decide) (fun K hK => ?_)
  refine goes_ Try.func23 (by kernel_rfl) rfl #[.agg #[.slice A0_0 l0_0.length c0_0, .slice A0_1 l0_1.length c0_1]] (by rfl) rfl rfl (by (try simp only [List.map_toArray, List.map_cons, List.map_nil]); first | done | rfl | (simp only [List.length_drop, List.length_take]; rfl)) ?_
  with_reducible refine (laws_toRegister.calls k _ _ l0_0 _ _ l0_1 t244 t247 _ ?side1 ?side2 ?side3 ?side4 A15.out).mono ?_
  (case side1 => repeat (first | exact (Kd.qy0 HR0_0.out HB.out) | (with_reducible refine Kd.qw0 ?_ _) | (with_reducible refine Kd.qv0 ?_ _) | (with_reducible refine Kd.qb1 ?_)))
  (case side2 => exact HC0_0.out)
  (case side3 => repeat (first | exact (Kd.qy0 HR0_1.out HB.out) | (with_reducible refine Kd.qw0 ?_ _) | (with_reducible refine Kd.qv0 ?_ _) | (with_reducible refine Kd.qb1 ?_)))
  (case side4 => exact HC0_1.out)
  rintro e w56 ⟨v245, v248, rfl, ho0, ho1, hb⟩
  refine ⟨_, rfl, ?_⟩
  have n0_ := Aside0.mk (Kd.R_elder' (by (with_reducible repeat (first | apply Kd.qq0 | apply Kd.qp0 | apply Kd.qt0)); exact HO231.out) (Kd.R_base ho0) hb)
  have n1_ := Aside0.mk (Kd.R_elder' (by (with_reducible repeat (first | apply Kd.qq0 | apply Kd.qp0 | apply Kd.qt0)); exact HO234.out) (Kd.R_base ho1) hb)
  have n2_ := Aside0.mk (Kd.R_elder' (by (with_reducible repeat (first | apply Kd.qq0 | apply Kd.qp0 | apply Kd.qt0)); exact HO238.out) (Kd.R_base ho0) hb)
  have n3_ := Aside0.mk (Kd.R_elder' (by (with_reducible repeat (first | apply Kd.qq0 | apply Kd.qp0 | apply Kd.qt0)); exact HO241.out) (Kd.R_base ho1) hb)
  have n4_ := Aside0.mk (Kd.qj1 (Kd.R_new' (Kd.R_new' ho0 (Kd.R_lt (by (with_reducible repeat (first | apply Kd.qq0 | apply Kd.qp0 | apply Kd.qt0)); exact HO231.out))) (Kd.R_lt (by (with_reducible repeat (first | apply Kd.qq0 | apply Kd.qp0 | apply Kd.qt0)); exact HO238.out))) (qk0 (by repeat (first | (with_reducible first | exact HB.out | apply qc0 | apply qa0 | apply qb0 | refine qf0 ?_ GE227.out | refine qf0 ?_ GE242.out) | exact HB.out))))
  have n5_ := Aside0.mk (Kd.qj1 (Kd.R_new' (Kd.R_new' ho1 (Kd.R_lt (by (with_reducible repeat (first | apply Kd.qq0 | apply Kd.qp0 | apply Kd.qt0)); exact HO234.out))) (Kd.R_lt (by (with_reducible repeat (first | apply Kd.qq0 | apply Kd.qp0 | apply Kd.qt0)); exact HO241.out))) (qk0 (by repeat (first | (with_reducible first | exact HB.out | apply qc0 | apply qa0 | apply qb0 | refine qf0 ?_ GE227.out | refine qf0 ?_ GE242.out) | exact HB.out))))
  have n6_ := Aside0.mk (qm0 (g := gb227) (o := .cells #[.slice A0_0 l0_0.length c0_0, .slice A0_1 l0_1.length c0_1] 36 (0, 0)) (by (with_reducible repeat (first | refine qd0 ?_ _ | refine qh0 ?_ | refine qe0 ?_ _)); exact BK227.out) hb)
  have n7_ := Aside0.mk (qm0 (g := gb242) (o := .cells #[.slice Ao50 t236.length co50, .slice Ao53 t239.length co53] 42 (0, 0)) (by (with_reducible repeat (first | refine qd0 ?_ _ | refine qh0 ?_ | refine qe0 ?_ _)); exact BK242.out) hb)
  have n8_ := Aside0.mk (ql0 (by repeat (first | (with_reducible first | exact HB.out | apply qc0 | apply qa0 | apply qb0 | refine qf0 ?_ GE227.out | refine qf0 ?_ GE242.out) | exact HB.out)) hb)
  clear HO231
  clear HO234
  clear HO238
  clear HO241
  clear BK227
  clear BK242
  clear HB
  have HO231 := n0_
  have HO234 := n1_
  have HO238 := n2_
  have HO241 := n3_
  have HO246 := n4_
  have HO249 := n5_
  have BK227 := n6_
  have BK242 := n7_
  have HB := n8_
  clear n0_ n1_ n2_ n3_ n4_ n5_ n6_ n7_ n8_
  (try clear hb)
  (try clear hb2)
  (try clear hk)
  (try clear hi)
  (try clear ho0)
  (try clear ho1)
  obtain ⟨Ao57, co57, eo57⟩ := Kd.R_slice HO246.out
  (first | subst eo57 | (injection eo57 with f1_ f2_ f3_; have f4_ := f1_.symm; have f5_ := f3_.symm; clear f1_ f2_ f3_; subst f4_; subst f5_))
  obtain ⟨Ao58, co58, eo58⟩ := Kd.R_slice HO249.out
  (first | subst eo58 | (injection eo58 with f1_ f2_ f3_; have f4_ := f1_.symm; have f5_ := f3_.symm; clear f1_ f2_ f3_; subst f4_; subst f5_))
  refine hK.out _ _ ⟨(qg0 BK242.out 0).trans rfl, (qg0 BK242.out 1).trans rfl, (qg0 BK227.out 0).trans rfl, (qg0 BK227.out 1).trans rfl⟩ (fun hHeld => ?_)
  clear hK K
  refine norm_ (a' := ?_) ?_ ?_
  rotate_left
  ·show Act.put _ (some 31) _ = _
   simp only [Act.put, List.setIfInBounds_toArray, List.set_cons_zero, List.set_cons_succ, i64_w, i32_w]
   rfl
  refine one_ (i := 3) (N := some 32) #[true, true, true, true, false] rfl rfl (by kernel_rfl) (by decide) (fun K hK => ?_)
  refine goes_ Try.func25 (by kernel_rfl) rfl #[.agg #[.slice Ao50 t236.length co50, .slice Ao53 t239.length co53], .agg #[.slice Ao57 t244.length co57, .slice Ao58 t247.length co58]] (by rfl) rfl rfl (by (try simp only [List.map_toArray, List.map_cons, List.map_nil]); first | done | rfl | (simp only [List.length_drop, List.length_take]; rfl)) ?_
  with_reducible refine (laws_eqRegister.calls k _ _ t236 _ _ t239 _ _ t244 _ _ t247 false _ ?side1 ?side2 ?side3 ?side4 ?side5 ?side6 ?side7 ?side8 A16.out).mono ?_
  (case side1 => repeat (first | exact (Kd.qz0 HO238.out).2.2 | (with_reducible refine Kd.qw0 ?_ _) | (with_reducible refine Kd.qv0 ?_ _) | (with_reducible refine Kd.qb1 ?_)))
  (case side2 => exact (Kd.qz0 HO238.out).2.1)
  (case side3 => repeat (first | exact (Kd.qz0 HO241.out).2.2 | (with_reducible refine Kd.qw0 ?_ _) | (with_reducible refine Kd.qv0 ?_ _) | (with_reducible refine Kd.qb1 ?_)))
  (case side4 => exact (Kd.qz0 HO241.out).2.1)
  (case side5 => repeat (first | exact (Kd.qz0 HO246.out).2.2 | (with_reducible refine Kd.qw0 ?_ _) | (with_reducible refine Kd.qv0 ?_ _) | (with_reducible refine Kd.qb1 ?_)))
  (case side6 => exact (Kd.qz0 HO246.out).2.1)
  (case side7 => repeat (first | exact (Kd.qz0 HO249.out).2.2 | (with_reducible refine Kd.qw0 ?_ _) | (with_reducible refine Kd.qv0 ?_ _) | (with_reducible refine Kd.qb1 ?_)))
  (case side8 => exact (Kd.qz0 HO249.out).2.1)
  rintro e w59 ⟨rfl, hb⟩
  refine ⟨_, rfl, ?_⟩
  have n0_ := Aside0.mk (Kd.R_below (by (with_reducible repeat (first | apply Kd.qq0 | apply Kd.qp0 | apply Kd.qt0)); exact HO231.out) hb)
  have n1_ := Aside0.mk (Kd.R_below (by (with_reducible repeat (first | apply Kd.qq0 | apply Kd.qp0 | apply Kd.qt0)); exact HO234.out) hb)
  have n2_ := Aside0.mk (Kd.R_below (by (with_reducible repeat (first | apply Kd.qq0 | apply Kd.qp0 | apply Kd.qt0)); exact HO238.out) hb)
  have n3_ := Aside0.mk (Kd.R_below (by (with_reducible repeat (first | apply Kd.qq0 | apply Kd.qp0 | apply Kd.qt0)); exact HO241.out) hb)
  have n4_ := Aside0.mk (Kd.R_below (by (with_reducible repeat (first | apply Kd.qq0 | apply Kd.qp0 | apply Kd.qt0)); exact HO246.out) hb)
  have n5_ := Aside0.mk (Kd.R_below (by (with_reducible repeat (first | apply Kd.qq0 | apply Kd.qp0 | apply Kd.qt0)); exact HO249.out) hb)
  have n6_ := Aside0.mk (qm0 (g := gb227) (o := .cells #[.slice A0_0 l0_0.length c0_0, .slice A0_1 l0_1.length c0_1] 36 (0, 0)) (by (with_reducible repeat (first | refine qd0 ?_ _ | refine qh0 ?_ | refine qe0 ?_ _)); exact BK227.out) hb)
  have n7_ := Aside0.mk (qm0 (g := gb242) (o := .cells #[.slice Ao50 t236.length co50, .slice Ao53 t239.length co53] 42 (0, 0)) (by (with_reducible repeat (first | refine qd0 ?_ _ | refine qh0 ?_ | refine qe0 ?_ _)); exact BK242.out) hb)
  have n8_ := Aside0.mk (ql0 (by repeat (first | (with_reducible first | exact HB.out | apply qc0 | apply qa0 | apply qb0 | refine qf0 ?_ GE227.out | refine qf0 ?_ GE242.out) | exact HB.out)) hb)
  clear HO231
  clear HO234
  clear HO238
  clear HO241
  clear HO246
  clear HO249
  clear BK227
  clear BK242
  clear HB
  have HO231 := n0_
  have HO234 := n1_
  have HO238 := n2_
  have HO241 := n3_
  have HO246 := n4_
  have HO249 := n5_
  have BK227 := n6_
  have BK242 := n7_
  have HB := n8_
  clear n0_ n1_ n2_ n3_ n4_ n5_ n6_ n7_ n8_
  (try clear hb)
  (try clear hb2)
  (try clear hk)
  (try clear hi)
  refine hK.out _ _ ⟨(qg0 BK242.out 0).trans rfl, (qg0 BK242.out 1).trans rfl, (qg0 BK227.out 0).trans rfl, (qg0 BK227.out 1).trans rfl⟩ (fun hHeld => ?_)
  clear hK K
  refine norm_ (a' := ?_) ?_ ?_
  rotate_left
  ·show Act.put _ (some 32) _ = _
   simp only [Act.put, List.setIfInBounds_toArray, List.set_cons_zero, List.set_cons_succ, i64_w, i32_w]
   rfl
  refine pure_ (i := 4) (N := some 33) (v := ?_) (a' := ?_) #[true, true, true, true, true] rfl rfl (by kernel_rfl) (fun _ _ _ h => h) (Or.inl ⟨by rfl, ?_⟩) ?_ ?_
  rotate_left
  ·intro w'
   go_simp
   with_reducible rfl
  rotate_left
  ·simp only [Act.put, List.setIfInBounds_toArray, List.set_cons_zero, List.set_cons_succ, i64_w, i32_w]
   rfl
  refine done_ (by kernel_rfl) ?_
  try go_wp2
  go_ret
  exact ⟨by first | rfl | (simp [errW_none, errW_some] <;> rfl) | (simp [*, errW_none, errW_some] <;> rfl), by repeat (first | (with_reducible first | exact HB.out | apply qc0 | apply qa0 | apply qb0 | refine qf0 ?_ GE227.out | refine qf0 ?_ GE242.out) | exact HB.out)⟩
 rw [if_neg c14] at H
 have c14b0 : (t243 == t235) = false := beq_eq_false_iff_ne.mpr c14
 have c14b1 : (t243 != t235) = true := bne_iff_ne.mpr c14
 obtain rfl := Option.some.inj H
 go_enter Try.func6, Try.ntmps6
 go_wp2_with (first | ((with_reducible refine qs0 (N := 2) rfl ?_); refine qr0 ?hg (N := 2) ?hd (cs := #[.slice A0_0 l0_0.length c0_0, .slice A0_1 l0_1.length c0_1]) (t := 36) ?hr ?_; (case hd => rfl); (case hg => rfl); (case hr => first | (go_simp; done) | (go_simp; rfl)); intro gb227 hg w60 hbox hb; have n0_ := Aside0.mk (ql0 (by repeat (first | (with_reducible first | exact HB.out | apply qc0 | apply qa0 | apply qb0) | exact HB.out)) hb); have n1_ := Aside0.mk (hbox); have n2_ := Aside0.mk ((by rw [hg]; exact (qk0 (by repeat (first | (with_reducible first | exact HB.out | apply qc0 | apply qa0 | apply qb0) | exact HB.out))) : w.heap.size ≤ gb227)); have n3_ := Aside0.mk ((by rw [hg]; exact (qk0 (by repeat (first | (with_reducible first | exact HB.out | apply qc0 | apply qa0 | apply qb0) | exact HB.out))) : w.heap.size ≤ gb227)); clear HB; have HB := n0_; have BK227 := n1_; have GW227 := n2_; have GE227 := n3_; clear n0_ n1_ n2_ n3_; clear hb hbox hg; have hcz61_0 : w60.cell? ⟨gb227, 0, none⟩ = some (.slice A0_0 l0_0.length c0_0) := (qg0 BK227.out 0).trans rfl; have hcz61_1 : w60.cell? ⟨gb227, 1, none⟩ = some (.slice A0_1 l0_1.length c0_1) := (qg0 BK227.out 1).trans rfl; have hfz61_0 := qi0 BK227.out 0; have hfz61_1 := qi0 BK227.out 1) | ((with_reducible refine qn0 (f := 21) rfl ?_); refine qe1 (some 14) rfl rfl Try.func21 (by kernel_rfl) rfl #[.agg #[.slice A0_0 l0_0.length c0_0, .slice A0_1 l0_1.length c0_1], .int .i64 1048576] rfl (by (try simp only [List.map_toArray, List.map_cons, List.map_nil]); first | done | rfl | (simp only [List.length_drop, List.length_take]; rfl)) ?_; (with_reducible refine (laws_szRegister.calls k _ _ l0_0 _ _ l0_1 1048576 t228 _ ?side1 ?side2 ?side3 ?side4 A5.out).mono ?_); (case side1 => repeat (first | exact (Kd.qy0 HR0_0.out HB.out) | (with_reducible refine Kd.qw0 ?_ _) | (with_reducible refine Kd.qv0 ?_ _) | (with_reducible refine Kd.qb1 ?_))); (case side2 => exact HC0_0.out); (case side3 => repeat (first | exact (Kd.qy0 HR0_1.out HB.out) | (with_reducible refine Kd.qw0 ?_ _) | (with_reducible refine Kd.qv0 ?_ _) | (with_reducible refine Kd.qb1 ?_))); (case side4 => exact HC0_1.out); rintro e w62 ⟨rfl, hb⟩; refine ⟨_, rfl, ?_⟩; have n0_ := Aside0.mk (qm0 (g := gb227) (o := .cells #[.slice A0_0 l0_0.length c0_0, .slice A0_1 l0_1.length c0_1] 36 (0, 0)) (by (with_reducible repeat (first | refine qd0 ?_ _ | refine qh0 ?_ | refine qe0 ?_ _)); exact BK227.out) hb); have n1_ := Aside0.mk (ql0 (by repeat (first | (with_reducible first | exact HB.out | apply qc0 | apply qa0 | apply qb0 | refine qf0 ?_ GE227.out) | exact HB.out)) hb); clear BK227; clear HB; have BK227 := n0_; have HB := n1_; clear n0_ n1_; (try clear hb); (try clear hb2); (try clear hk); (try clear hi); have hcz63_0 : w62.cell? ⟨gb227, 0, none⟩ = some (.slice A0_0 l0_0.length c0_0) := (qg0 BK227.out 0).trans rfl; have hcz63_1 : w62.cell? ⟨gb227, 1, none⟩ = some (.slice A0_1 l0_1.length c0_1) := (qg0 BK227.out 1).trans rfl; have hfz63_0 := qi0 BK227.out 0; have hfz63_1 := qi0 BK227.out 1) | ((with_reducible refine qn0 (f := 23) rfl ?_); refine qe1 (some 18) rfl rfl Try.func23 (by kernel_rfl) rfl #[.agg #[.slice A0_0 l0_0.length c0_0, .slice A0_1 l0_1.length c0_1]] rfl (by (try simp only [List.map_toArray, List.map_cons, List.map_nil]); first | done | rfl | (simp only [List.length_drop, List.length_take]; rfl)) ?_; (with_reducible refine (laws_toRegister.calls k _ _ l0_0 _ _ l0_1 t229 t232 _ ?side1 ?side2 ?side3 ?side4 A10.out).mono ?_); (case side1 => repeat (first | exact (Kd.qy0 HR0_0.out HB.out) | (with_reducible refine Kd.qw0 ?_ _) | (with_reducible refine Kd.qv0 ?_ _) | (with_reducible refine Kd.qb1 ?_))); (case side2 => exact HC0_0.out); (case side3 => repeat (first | exact (Kd.qy0 HR0_1.out HB.out) | (with_reducible refine Kd.qw0 ?_ _) | (with_reducible refine Kd.qv0 ?_ _) | (with_reducible refine Kd.qb1 ?_))); (case side4 => exact HC0_1.out); rintro e w64 ⟨v230, v233, rfl, ho0, ho1, hb⟩; refine ⟨_, rfl, ?_⟩; have n0_ := Aside0.mk (Kd.qj1 ho0 (qk0 (by repeat (first | (with_reducible first | exact HB.out | apply qc0 | apply qa0 | apply qb0 | refine qf0 ?_ GE227.out) | exact HB.out)))); have n1_ := Aside0.mk (Kd.qj1 ho1 (qk0 (by repeat (first | (with_reducible first | exact HB.out | apply qc0 | apply qa0 | apply qb0 | refine qf0 ?_ GE227.out) | exact HB.out)))); have n2_ := Aside0.mk (qm0 (g := gb227) (o := .cells #[.slice A0_0 l0_0.length c0_0, .slice A0_1 l0_1.length c0_1] 36 (0, 0)) (by (with_reducible repeat (first | refine qd0 ?_ _ | refine qh0 ?_ | refine qe0 ?_ _)); exact BK227.out) hb); have n3_ := Aside0.mk (ql0 (by repeat (first | (with_reducible first | exact HB.out | apply qc0 | apply qa0 | apply qb0 | refine qf0 ?_ GE227.out) | exact HB.out)) hb); clear BK227; clear HB; have HO231 := n0_; have HO234 := n1_; have BK227 := n2_; have HB := n3_; clear n0_ n1_ n2_ n3_; (try clear hb); (try clear hb2); (try clear hk); (try clear hi); (try clear ho0); (try clear ho1); obtain ⟨Ao65, co65, eo65⟩ := Kd.R_slice HO231.out; subst eo65; obtain ⟨Ao66, co66, eo66⟩ := Kd.R_slice HO234.out; subst eo66) | ((with_reducible refine qn0 (f := 28) rfl ?_); refine qe1 (some 20) rfl rfl Try.func28 (by kernel_rfl) rfl #[.agg #[.slice Ao65 t229.length co65, .slice Ao66 t232.length co66], .string a1] rfl (by (try simp only [List.map_toArray, List.map_cons, List.map_nil]); first | done | rfl | (simp only [List.length_drop, List.length_take]; rfl)) ?_; (with_reducible refine (spec_FindPaper.calls k _ _ t229 _ _ t232 a1 t235 _ ?side1 ?side2 ?side3 ?side4 A11.out).mono ?_); (case side1 => repeat (first | exact (Kd.qz0 HO231.out).2.2 | (with_reducible refine Kd.qw0 ?_ _) | (with_reducible refine Kd.qv0 ?_ _) | (with_reducible refine Kd.qb1 ?_))); (case side2 => exact (Kd.qz0 HO231.out).2.1); (case side3 => repeat (first | exact (Kd.qz0 HO234.out).2.2 | (with_reducible refine Kd.qw0 ?_ _) | (with_reducible refine Kd.qv0 ?_ _) | (with_reducible refine Kd.qb1 ?_))); (case side4 => exact (Kd.qz0 HO234.out).2.1); rintro e w67 ⟨rfl, hb⟩; refine ⟨_, rfl, ?_⟩; have n0_ := Aside0.mk (Kd.R_below (by (with_reducible repeat (first | apply Kd.qq0 | apply Kd.qp0 | apply Kd.qt0)); exact HO231.out) hb); have n1_ := Aside0.mk (Kd.R_below (by (with_reducible repeat (first | apply Kd.qq0 | apply Kd.qp0 | apply Kd.qt0)); exact HO234.out) hb); have n2_ := Aside0.mk (qm0 (g := gb227) (o := .cells #[.slice A0_0 l0_0.length c0_0, .slice A0_1 l0_1.length c0_1] 36 (0, 0)) (by (with_reducible repeat (first | refine qd0 ?_ _ | refine qh0 ?_ | refine qe0 ?_ _)); exact BK227.out) hb); have n3_ := Aside0.mk (ql0 (by repeat (first | (with_reducible first | exact HB.out | apply qc0 | apply qa0 | apply qb0 | refine qf0 ?_ GE227.out) | exact HB.out)) hb); clear HO231; clear HO234; clear BK227; clear HB; have HO231 := n0_; have HO234 := n1_; have BK227 := n2_; have HB := n3_; clear n0_ n1_ n2_ n3_; (try clear hb); (try clear hb2); (try clear hk); (try clear hi); have hcz68_0 : w67.cell? ⟨gb227, 0, none⟩ = some (.slice A0_0 l0_0.length c0_0) := (qg0 BK227.out 0).trans rfl; have hcz68_1 : w67.cell? ⟨gb227, 1, none⟩ = some (.slice A0_1 l0_1.length c0_1) := (qg0 BK227.out 1).trans rfl; have hfz68_0 := qi0 BK227.out 0; have hfz68_1 := qi0 BK227.out 1) | ((with_reducible refine qn0 (f := 23) rfl ?_); refine qe1 (some 22) rfl rfl Try.func23 (by kernel_rfl) rfl #[.agg #[.slice A0_0 l0_0.length c0_0, .slice A0_1 l0_1.length c0_1]] rfl (by (try simp only [List.map_toArray, List.map_cons, List.map_nil]); first | done | rfl | (simp only [List.length_drop, List.length_take]; rfl)) ?_; (with_reducible refine (laws_toRegister.calls k _ _ l0_0 _ _ l0_1 t236 t239 _ ?side1 ?side2 ?side3 ?side4 A12.out).mono ?_); (case side1 => repeat (first | exact (Kd.qy0 HR0_0.out HB.out) | (with_reducible refine Kd.qw0 ?_ _) | (with_reducible refine Kd.qv0 ?_ _) | (with_reducible refine Kd.qb1 ?_))); (case side2 => exact HC0_0.out); (case side3 => repeat (first | exact (Kd.qy0 HR0_1.out HB.out) | (with_reducible refine Kd.qw0 ?_ _) | (with_reducible refine Kd.qv0 ?_ _) | (with_reducible refine Kd.qb1 ?_))); (case side4 => exact HC0_1.out); rintro e w69 ⟨v237, v240, rfl, ho0, ho1, hb⟩; refine ⟨_, rfl, ?_⟩; have n0_ := Aside0.mk (Kd.R_elder' (by (with_reducible repeat (first | apply Kd.qq0 | apply Kd.qp0 | apply Kd.qt0)); exact HO231.out) (Kd.R_base ho0) hb); have n1_ := Aside0.mk (Kd.R_elder' (by (with_reducible repeat (first | apply Kd.qq0 | apply Kd.qp0 | apply Kd.qt0)); exact HO234.out) (Kd.R_base ho1) hb); have n2_ := Aside0.mk (Kd.qj1 (Kd.R_new' ho0 (Kd.R_lt (by (with_reducible repeat (first | apply Kd.qq0 | apply Kd.qp0 | apply Kd.qt0)); exact HO231.out))) (qk0 (by repeat (first | (with_reducible first | exact HB.out | apply qc0 | apply qa0 | apply qb0 | refine qf0 ?_ GE227.out) | exact HB.out)))); have n3_ := Aside0.mk (Kd.qj1 (Kd.R_new' ho1 (Kd.R_lt (by (with_reducible repeat (first | apply Kd.qq0 | apply Kd.qp0 | apply Kd.qt0)); exact HO234.out))) (qk0 (by repeat (first | (with_reducible first | exact HB.out | apply qc0 | apply qa0 | apply qb0 | refine qf0 ?_ GE227.out) | exact HB.out)))); have n4_ := Aside0.mk (qm0 (g := gb227) (o := .cells #[.slice A0_0 l0_0.length c0_0, .slice A0_1 l0_1.length c0_1] 36 (0, 0)) (by (with_reducible repeat (first | refine qd0 ?_ _ | refine qh0 ?_ | refine qe0 ?_ _)); exact BK227.out) hb); have n5_ := Aside0.mk (ql0 (by repeat (first | (with_reducible first | exact HB.out | apply qc0 | apply qa0 | apply qb0 | refine qf0 ?_ GE227.out) | exact HB.out)) hb); clear HO231; clear HO234; clear BK227; clear HB; have HO231 := n0_; have HO234 := n1_; have HO238 := n2_; have HO241 := n3_; have BK227 := n4_; have HB := n5_; clear n0_ n1_ n2_ n3_ n4_ n5_; (try clear hb); (try clear hb2); (try clear hk); (try clear hi); (try clear ho0); (try clear ho1)) | ((with_reducible refine qs0 (N := 7) rfl ?_); refine qr0 ?hg (N := 7) ?hd (cs := #[.slice none 0 0, .slice none 0 0]) (t := 42) ?hr ?_; (case hd => rfl); (case hg => rfl); (case hr => first | (go_simp; done) | (go_simp; rfl)); intro gb242 hg w70 hbox hb; have n0_ := Aside0.mk (Kd.R_below (by (with_reducible repeat (first | apply Kd.qq0 | apply Kd.qp0 | apply Kd.qt0)); exact HO231.out) hb); have n1_ := Aside0.mk (Kd.R_below (by (with_reducible repeat (first | apply Kd.qq0 | apply Kd.qp0 | apply Kd.qt0)); exact HO234.out) hb); have n2_ := Aside0.mk (Kd.R_below (by (with_reducible repeat (first | apply Kd.qq0 | apply Kd.qp0 | apply Kd.qt0)); exact HO238.out) hb); have n3_ := Aside0.mk (Kd.R_below (by (with_reducible repeat (first | apply Kd.qq0 | apply Kd.qp0 | apply Kd.qt0)); exact HO241.out) hb); have n4_ := Aside0.mk (qm0 (g := gb227) (o := .cells #[.slice A0_0 l0_0.length c0_0, .slice A0_1 l0_1.length c0_1] 36 (0, 0)) (by (with_reducible repeat (first | refine qd0 ?_ _ | refine qh0 ?_ | refine qe0 ?_ _)); exact BK227.out) hb); have n5_ := Aside0.mk (ql0 (by repeat (first | (with_reducible first | exact HB.out | apply qc0 | apply qa0 | apply qb0 | refine qf0 ?_ GE227.out) | exact HB.out)) hb); have n6_ := Aside0.mk (hbox); have n7_ := Aside0.mk ((by rw [hg]; exact (qk0 (by repeat (first | (with_reducible first | exact HB.out | apply qc0 | apply qa0 | apply qb0 | refine qf0 ?_ GE227.out) | exact HB.out))) : w.heap.size ≤ gb242)); have n8_ := Aside0.mk ((by rw [hg]; exact (qk0 (by repeat (first | (with_reducible first | exact HB.out | apply qc0 | apply qa0 | apply qb0 | refine qf0 ?_ GE227.out) | exact HB.out))) : w.heap.size ≤ gb242)); have n9_ := Aside0.mk ((by rw [hg]; exact Nat.ne_of_lt (qa1 (g := gb227) (o := .cells #[.slice A0_0 l0_0.length c0_0, .slice A0_1 l0_1.length c0_1] 36 (0, 0)) (by (with_reducible repeat (first | refine qd0 ?_ _ | refine qh0 ?_ | refine qe0 ?_ _)); exact BK227.out)) : gb227 ≠ gb242)); have n10_ := Aside0.mk ((by rw [hg]; exact Nat.ne_of_gt (qa1 (g := gb227) (o := .cells #[.slice A0_0 l0_0.length c0_0, .slice A0_1 l0_1.length c0_1] 36 (0, 0)) (by (with_reducible repeat (first | refine qd0 ?_ _ | refine qh0 ?_ | refine qe0 ?_ _)); exact BK227.out)) : gb242 ≠ gb227)); clear HO231; clear HO234; clear HO238; clear HO241; clear BK227; clear HB; have HO231 := n0_; have HO234 := n1_; have HO238 := n2_; have HO241 := n3_; have BK227 := n4_; have HB := n5_; have BK242 := n6_; have GW242 := n7_; have GE242 := n8_; have NB227_242 := n9_; have NB242_227 := n10_; clear n0_ n1_ n2_ n3_ n4_ n5_ n6_ n7_ n8_ n9_ n10_; clear hb hbox hg; obtain ⟨Ao71, co71, eo71⟩ := Kd.R_slice HO238.out; subst eo71; have hnb72 := NB242_227.out; have hnc72 := NB227_242.out; have hcz73_0 : w70.cell? ⟨gb242, 0, none⟩ = some (.slice none 0 0) := (qg0 BK242.out 0).trans rfl; have hcz73_1 : w70.cell? ⟨gb242, 1, none⟩ = some (.slice none 0 0) := (qg0 BK242.out 1).trans rfl; have hfz73_0 := qi0 BK242.out 0; have hfz73_1 := qi0 BK242.out 1; obtain ⟨Ao74, co74, eo74⟩ := Kd.R_slice HO241.out; subst eo74) | ((with_reducible refine qn0 (f := 29) rfl ?_); refine qe1 (some 25) rfl rfl Try.func29 (by kernel_rfl) rfl #[.agg #[.slice Ao71 t236.length co71, .slice Ao74 t239.length co74], .string a1] rfl (by (try simp only [List.map_toArray, List.map_cons, List.map_nil]); first | done | rfl | (simp only [List.length_drop, List.length_take]; rfl)) ?_; (with_reducible refine (impl_FindPaper.calls k _ _ t236 _ _ t239 a1 t243 _ ?side1 ?side2 ?side3 ?side4 A13.out).mono ?_); (case side1 => refine (Kd.qz0 (e := 122) (base := w.heap.size) (ok := fun k_ => (True ∧ some k_ ≠ (.slice Ao65 t229.length co65 : Value).ownBlock)) (n := t236.length) (c := co71) ?_).2.2; exact (by (with_reducible repeat (first | apply Kd.qq0 | apply Kd.qp0 | apply Kd.qt0)); exact (Kd.qm1 (Kd.R_far (p := ⟨gb242, 1, none⟩) (Kd.R_far (p := ⟨gb242, 0, none⟩) (Kd.qi1 HO238.out BK242.out (by decide)) (fun _ hk => hk.2) (.slice Ao71 t236.length co71)) (fun _ hk => hk.2) (.slice Ao74 t239.length co74)) (fun _ h_ => h_.1)))); (case side2 => exact (Kd.qz0 HO238.out).2.1); (case side3 => refine (Kd.qz0 (e := 53) (base := w.heap.size) (ok := fun k_ => (True ∧ some k_ ≠ (.slice Ao66 t232.length co66 : Value).ownBlock)) (n := t239.length) (c := co74) ?_).2.2; exact (by (with_reducible repeat (first | apply Kd.qq0 | apply Kd.qp0 | apply Kd.qt0)); exact (Kd.qm1 (Kd.R_far (p := ⟨gb242, 1, none⟩) (Kd.R_far (p := ⟨gb242, 0, none⟩) (Kd.qi1 HO241.out BK242.out (by decide)) (fun _ hk => hk.2) (.slice Ao71 t236.length co71)) (fun _ hk => hk.2) (.slice Ao74 t239.length co74)) (fun _ h_ => h_.1)))); (case side4 => exact (Kd.qz0 HO241.out).2.1); rintro e w75 ⟨rfl, hb⟩; refine ⟨_, rfl, ?_⟩; have n0_ := Aside0.mk (Kd.R_below (by (with_reducible repeat (first | apply Kd.qq0 | apply Kd.qp0 | apply Kd.qt0)); exact (Kd.qm1 (Kd.R_far (p := ⟨gb242, 1, none⟩) (Kd.R_far (p := ⟨gb242, 0, none⟩) (Kd.qi1 HO231.out BK242.out (by decide)) (fun _ hk => hk.2) (.slice Ao71 t236.length co71)) (fun _ hk => hk.2) (.slice Ao74 t239.length co74)) (fun _ h_ => h_.1))) hb); have n1_ := Aside0.mk (Kd.R_below (by (with_reducible repeat (first | apply Kd.qq0 | apply Kd.qp0 | apply Kd.qt0)); exact (Kd.qm1 (Kd.R_far (p := ⟨gb242, 1, none⟩) (Kd.R_far (p := ⟨gb242, 0, none⟩) (Kd.qi1 HO234.out BK242.out (by decide)) (fun _ hk => hk.2) (.slice Ao71 t236.length co71)) (fun _ hk => hk.2) (.slice Ao74 t239.length co74)) (fun _ h_ => h_.1))) hb); have n2_ := Aside0.mk (Kd.R_below (by (with_reducible repeat (first | apply Kd.qq0 | apply Kd.qp0 | apply Kd.qt0)); exact (Kd.qm1 (Kd.R_far (p := ⟨gb242, 1, none⟩) (Kd.R_far (p := ⟨gb242, 0, none⟩) (Kd.qi1 HO238.out BK242.out (by decide)) (fun _ hk => hk.2) (.slice Ao71 t236.length co71)) (fun _ hk => hk.2) (.slice Ao74 t239.length co74)) (fun _ h_ => h_.1))) hb); have n3_ := Aside0.mk (Kd.R_below (by (with_reducible repeat (first | apply Kd.qq0 | apply Kd.qp0 | apply Kd.qt0)); exact (Kd.qm1 (Kd.R_far (p := ⟨gb242, 1, none⟩) (Kd.R_far (p := ⟨gb242, 0, none⟩) (Kd.qi1 HO241.out BK242.out (by decide)) (fun _ hk => hk.2) (.slice Ao71 t236.length co71)) (fun _ hk => hk.2) (.slice Ao74 t239.length co74)) (fun _ h_ => h_.1))) hb); have n4_ := Aside0.mk (qm0 (g := gb227) (o := .cells #[.slice A0_0 l0_0.length c0_0, .slice A0_1 l0_1.length c0_1] 36 (0, 0)) (by (with_reducible repeat (first | refine qd0 ?_ _ | refine qh0 ?_ | refine qe0 ?_ _)); refine qu0 ?_ NB227_242.out _; (with_reducible repeat (first | refine qd0 ?_ _ | refine qh0 ?_ | refine qe0 ?_ _)); refine qu0 ?_ NB227_242.out _; (with_reducible repeat (first | refine qd0 ?_ _ | refine qh0 ?_ | refine qe0 ?_ _)); exact BK227.out) hb); have n5_ := Aside0.mk (qm0 (g := gb242) (o := .cells #[.slice Ao71 t236.length co71, .slice Ao74 t239.length co74] 42 (0, 0)) (by (with_reducible repeat (first | refine qd0 ?_ _ | refine qh0 ?_ | refine qe0 ?_ _)); refine qx0 (cs := #[.slice Ao71 t236.length co71, .slice none 0 0]) ?_ 1 _ rfl; (with_reducible repeat (first | refine qd0 ?_ _ | refine qh0 ?_ | refine qe0 ?_ _)); refine qx0 (cs := #[.slice none 0 0, .slice none 0 0]) ?_ 0 _ rfl; (with_reducible repeat (first | refine qd0 ?_ _ | refine qh0 ?_ | refine qe0 ?_ _)); exact BK242.out) hb); have n6_ := Aside0.mk (ql0 (by repeat (first | (with_reducible first | exact HB.out | apply qc0 | apply qa0 | apply qb0 | refine qf0 ?_ GE227.out | refine qf0 ?_ GE242.out) | exact HB.out)) hb); clear HO231; clear HO234; clear HO238; clear HO241; clear BK227; clear BK242; clear HB; have HO231 := n0_; have HO234 := n1_; have HO238 := n2_; have HO241 := n3_; have BK227 := n4_; have BK242 := n5_; have HB := n6_; clear n0_ n1_ n2_ n3_ n4_ n5_ n6_; (try clear hb); (try clear hb2); (try clear hk); (try clear hi)))
 go_ret
 exact ⟨by first | rfl | (simp [errW_none, errW_some] <;> rfl) | (simp [*, errW_none, errW_some] <;> rfl), by repeat (first | (with_reducible first | exact HB.out | apply qc0 | apply qa0 | apply qb0 | refine qf0 ?_ GE227.out | refine qf0 ?_ GE242.out) | exact HB.out)⟩

/-- THE ONE PURE STATEMENT of laws_FnExactFindPaper. -/
def laws_FnExactFindPaper.Pure : Prop := ∀ (l0_0 : List (S207)) (l0_1 : List (S210)) (a1 : ByteArray), ((l0_0.length ≤ maxLen ∧ ∀ a_ ∈ l0_0, G207 a_)) → ((l0_1.length ≤ maxLen ∧ ∀ a_ ∈ l0_1, G210 a_)) → (a1.size ≤ maxLen) → ∃ k, laws_FnExactFindPaper.f k l0_0 l0_1 a1 = some true

end Go.Proofs.Ytdnhpicgjkddbaa.PFnExactFindPaper
