/- Lines by a program (a changed copy of the kit's print: this repo's wip/tools): Go functions as Lean functions, and proofs that the calls answer so. -/
import Derived.Test.YtdnhpicgjkddbaaZPFnExactShowPaperx0
import Derived.Test.YtdnhpicgjkddbaaZPFnExactShowPaperx1
import Derived.Test.YtdnhpicgjkddbaaZPFnExactShowPaperx3
import Derived.Test.YtdnhpicgjkddbaaZPFnExactShowPaperx6
import Derived.Test.YtdnhpicgjkddbaaZPFnExactShowPaperx7
import Derived.Test.YtdnhpicgjkddbaaZPFnExactShowPaperx8
namespace Go.Proofs.Ytdnhpicgjkddbaa.PFnExactShowPaper
open Go.RowKit Go.Proofs.YtdnhpicgjkddbaaW.PrintWords Go.Proofs.YtdnhpicgjkddbaaW.PrintLast Go.Proofs.YtdnhpicgjkddbaaW.PrintMore
attribute [local go_sem] max2_int min2_int max_two min_two max_three min_three max_four min_four   -- for this text's walks alone
set_option linter.unusedVariables false
set_option linter.unusedSimpArgs false

/-! ### impl_paperText: function 91 -/
def impl_paperText.l0 : Nat → ByteArray → List (S122) → List (S53) → Int → Int → Int → Bool → Option (ByteArray)
 | 0, _, _, _, _, _, _, _ => none
 | k + 1, x5, x215000, x215001, x216000, x216001, x216002, x216003 => if 0 ≤ x216000 then (if x216000 < (x215000.length : Int) then (if (x5.size : Int) < ((rd_T122 x215000 x216000).f1) then (if 1 + x5.size ≤ 9223372036854775807 then (impl_paperText.l0 k ((⟨#[48]⟩ : ByteArray) ++ x5) x215000 x215001 x216000 x216001 x216002 x216003) else (none)) else (if ((rd_T122 x215000 x216000).f0).size + 1 ≤ 9223372036854775807 then (if (((rd_T122 x215000 x216000).f0) ++ (⟨#[45]⟩ : ByteArray)).size + x5.size ≤ 9223372036854775807 then (some ((((rd_T122 x215000 x216000).f0) ++ (⟨#[45]⟩ : ByteArray)) ++ x5)) else (none)) else (none))) else (none)) else (none)
def impl_paperText.f (k : Nat) (l0_0 : List (S122)) (l0_1 : List (S53)) (a1_0 : Int) (a1_1 : Int) (a1_2 : Int) (a1_3 : Bool) : Option (ByteArray) := (impl_decimal.f k a1_1).bind fun t216 => (impl_paperText.l0 k t216 l0_0 l0_1 a1_0 a1_1 a1_2 a1_3)
theorem impl_paperText.mono_l : ∀ k, (∀ y0 y1 y2 y3 y4 y5 y6, LeO (impl_paperText.l0 k y0 y1 y2 y3 y4 y5 y6) (impl_paperText.l0 (k + 1) y0 y1 y2 y3 y4 y5 y6))
 | 0 => fun _ _ _ _ _ _ _ r h => by simp [impl_paperText.l0] at h
 | k + 1 => by
  have ih0 := impl_paperText.mono_l k
  ·intro y0 y1 y2 y3 y4 y5 y6
   unfold impl_paperText.l0
   repeat' first
   | (with_reducible exact ih0 _ _ _ _ _ _ _)
   | (with_reducible exact impl_decimal.mono _ _)
   | (with_reducible exact LeO.refl _)
   | (with_reducible exact LeO.none _)
   | (with_reducible refine LeO.ite ?_ ?_)
   | (with_reducible refine LeO.bind ?_ (fun _ => ?_))
   | exact ih0 _ _ _ _ _ _ _
   | exact impl_decimal.mono _ _
   | exact LeO.none _
   | refine LeO.ite ?_ ?_
   | refine LeO.bind ?_ (fun _ => ?_)
theorem impl_paperText.mono : ∀ a0 a1 a2 a3 a4 a5 k, LeO (impl_paperText.f k a0 a1 a2 a3 a4 a5) (impl_paperText.f (k + 1) a0 a1 a2 a3 a4 a5) := by
 intro a0 a1 a2 a3 a4 a5 k
 have ih0 := impl_paperText.mono_l k
 unfold impl_paperText.f
 repeat' first
   | (with_reducible exact ih0 _ _ _ _ _ _ _)
   | (with_reducible exact impl_decimal.mono _ _)
   | (with_reducible exact LeO.refl _)
   | (with_reducible exact LeO.none _)
   | (with_reducible refine LeO.ite ?_ ?_)
   | (with_reducible refine LeO.bind ?_ (fun _ => ?_))
   | exact ih0 _ _ _ _ _ _ _
   | exact impl_decimal.mono _ _
   | exact LeO.none _
   | refine LeO.ite ?_ ?_
   | refine LeO.bind ?_ (fun _ => ?_)
set_option maxHeartbeats 8000000 in
set_option maxRecDepth 100000 in
theorem impl_paperText.calls (k : Nat) (A0_0 : Option Addr) (c0_0 : Nat) (l0_0 : List (S122)) (A0_1 : Option Addr) (c0_1 : Nat) (l0_1 : List (S53)) (a1_0 : Int) (a1_1 : Int) (a1_2 : Int) (a1_3 : Bool) (r : ByteArray) (w : World) (hr0_0 : Kd.C k122 w A0_0 l0_0.length l0_0) (hc0_0 : l0_0.length ≤ c0_0) (hr0_1 : Kd.C k53 w A0_1 l0_1.length l0_1) (hc0_1 : l0_1.length ≤ c0_1) (h : impl_paperText.f k l0_0 l0_1 a1_0 a1_1 a1_2 a1_3 = some r) :
  Calls Try.prog 91 #[.agg #[.slice A0_0 l0_0.length c0_0, .slice A0_1 l0_1.length c0_1], .agg #[.int .i64 a1_0, .int .i64 a1_1, .int .i64 a1_2, .bool a1_3]] w fun e w' => e = .returned (.string r) ∧ Below w.heap.size w w' := by
 have hu42 := Try.underlying42
 have hu53 := Try.underlying53
 have HR0_0 := Aside0.mk hr0_0
 have HC0_0 := Aside0.mk hc0_0
 clear hr0_0 hc0_0
 have HR0_1 := Aside0.mk hr0_1
 have HC0_1 := Aside0.mk hc0_1
 clear hr0_1 hc0_1
 have HB := Aside0.mk (Below.refl w.heap.size w)
 have H : ((impl_decimal.f k a1_1).bind fun t216 => (impl_paperText.l0 k t216 l0_0 l0_1 a1_0 a1_1 a1_2 a1_3)) = some r := h
 clear h
 replace H := Option.bind_eq_some_iff.mp H
 obtain ⟨t216, A30, H⟩ := H
 replace H : (impl_paperText.l0 k t216 l0_0 l0_1 a1_0 a1_1 a1_2 a1_3) = some r := H
 have A3 := Aside0.mk A30
 clear A30
 have H' := Aside0.mk H
 clear H
 go_enter Try.func91, Try.ntmps91
 go_wp2_with (first | ((with_reducible refine qs0 (N := 2) rfl ?_); refine qr0 ?hg (N := 2) ?hd (cs := #[.slice A0_0 l0_0.length c0_0, .slice A0_1 l0_1.length c0_1]) (t := 42) ?hr ?_; (case hd => rfl); (case hg => rfl); (case hr => first | (go_simp; done) | (go_simp; rfl)); intro gb214 hg w4 hbox hb; have n0_ := Aside0.mk (ql0 (by repeat (first | (with_reducible first | exact HB.out | apply qc0 | apply qa0 | apply qb0) | exact HB.out)) hb); have n1_ := Aside0.mk (hbox); have n2_ := Aside0.mk ((by rw [hg]; exact (qk0 (by repeat (first | (with_reducible first | exact HB.out | apply qc0 | apply qa0 | apply qb0) | exact HB.out))) : w.heap.size ≤ gb214)); have n3_ := Aside0.mk ((by rw [hg]; exact (qk0 (by repeat (first | (with_reducible first | exact HB.out | apply qc0 | apply qa0 | apply qb0) | exact HB.out))) : w.heap.size ≤ gb214)); clear HB; have HB := n0_; have BK214 := n1_; have GW214 := n2_; have GE214 := n3_; clear n0_ n1_ n2_ n3_; clear hb hbox hg) | ((with_reducible refine qs0 (N := 3) rfl ?_); refine qr0 ?hg (N := 3) ?hd (cs := #[.int .i64 a1_0, .int .i64 a1_1, .int .i64 a1_2, .bool a1_3]) (t := 53) ?hr ?_; (case hd => rfl); (case hg => rfl); (case hr => first | (go_simp; done) | (go_simp; rfl)); intro gb215 hg w5 hbox hb; have n0_ := Aside0.mk (qm0 (g := gb214) (o := .cells #[.slice A0_0 l0_0.length c0_0, .slice A0_1 l0_1.length c0_1] 42 (0, 0)) (by (with_reducible repeat (first | refine qd0 ?_ _ | refine qh0 ?_ | refine qe0 ?_ _)); exact BK214.out) hb); have n1_ := Aside0.mk (ql0 (by repeat (first | (with_reducible first | exact HB.out | apply qc0 | apply qa0 | apply qb0 | refine qg0 ?_ GE214.out) | exact HB.out)) hb); have n2_ := Aside0.mk (hbox); have n3_ := Aside0.mk ((by rw [hg]; exact (qk0 (by repeat (first | (with_reducible first | exact HB.out | apply qc0 | apply qa0 | apply qb0 | refine qg0 ?_ GE214.out) | exact HB.out))) : w.heap.size ≤ gb215)); have n4_ := Aside0.mk ((by rw [hg]; exact (qk0 (by repeat (first | (with_reducible first | exact HB.out | apply qc0 | apply qa0 | apply qb0 | refine qg0 ?_ GE214.out) | exact HB.out))) : w.heap.size ≤ gb215)); have n5_ := Aside0.mk ((by rw [hg]; exact Nat.ne_of_lt (qb1 (g := gb214) (o := .cells #[.slice A0_0 l0_0.length c0_0, .slice A0_1 l0_1.length c0_1] 42 (0, 0)) (by (with_reducible repeat (first | refine qd0 ?_ _ | refine qh0 ?_ | refine qe0 ?_ _)); exact BK214.out)) : gb214 ≠ gb215)); have n6_ := Aside0.mk ((by rw [hg]; exact Nat.ne_of_gt (qb1 (g := gb214) (o := .cells #[.slice A0_0 l0_0.length c0_0, .slice A0_1 l0_1.length c0_1] 42 (0, 0)) (by (with_reducible repeat (first | refine qd0 ?_ _ | refine qh0 ?_ | refine qe0 ?_ _)); exact BK214.out)) : gb215 ≠ gb214)); clear BK214; clear HB; have BK214 := n0_; have HB := n1_; have BK215 := n2_; have GW215 := n3_; have GE215 := n4_; have NB214_215 := n5_; have NB215_214 := n6_; clear n0_ n1_ n2_ n3_ n4_ n5_ n6_; clear hb hbox hg; have hnb6 := NB215_214.out; have hnc6 := NB214_215.out; have hcz7_0 : w5.cell? ⟨gb215, 0, none⟩ = some (.int .i64 a1_0) := (qf0 BK215.out 0).trans rfl; have hcz7_1 : w5.cell? ⟨gb215, 1, none⟩ = some (.int .i64 a1_1) := (qf0 BK215.out 1).trans rfl; have hcz7_2 : w5.cell? ⟨gb215, 2, none⟩ = some (.int .i64 a1_2) := (qf0 BK215.out 2).trans rfl; have hcz7_3 : w5.cell? ⟨gb215, 3, none⟩ = some (.bool a1_3) := (qf0 BK215.out 3).trans rfl; have hfz7_0 := qi0 BK215.out 0; have hfz7_1 := qi0 BK215.out 1; have hfz7_2 := qi0 BK215.out 2; have hfz7_3 := qi0 BK215.out 3) | ((with_reducible refine qn0 (f := 157) rfl ?_); refine qe1 (some 8) rfl rfl Try.func157 (by kernel_rfl) rfl #[.int .i64 a1_1] rfl (by (try simp only [List.map_toArray, List.map_cons, List.map_nil]); first | done | rfl | (simp only [List.length_drop, List.length_take]; rfl)) ?_; (with_reducible refine (impl_decimal.calls k a1_1 t216 _ A3.out).mono ?_); rintro e w8 ⟨rfl, hb⟩; refine ⟨_, rfl, ?_⟩; have n0_ := Aside0.mk (qm0 (g := gb214) (o := .cells #[.slice A0_0 l0_0.length c0_0, .slice A0_1 l0_1.length c0_1] 42 (0, 0)) (by (with_reducible repeat (first | refine qd0 ?_ _ | refine qh0 ?_ | refine qe0 ?_ _)); exact BK214.out) hb); have n1_ := Aside0.mk (qm0 (g := gb215) (o := .cells #[.int .i64 a1_0, .int .i64 a1_1, .int .i64 a1_2, .bool a1_3] 53 (0, 0)) (by (with_reducible repeat (first | refine qd0 ?_ _ | refine qh0 ?_ | refine qe0 ?_ _)); exact BK215.out) hb); have n2_ := Aside0.mk (ql0 (by repeat (first | (with_reducible first | exact HB.out | apply qc0 | apply qa0 | apply qb0 | refine qg0 ?_ GE214.out | refine qg0 ?_ GE215.out) | exact HB.out)) hb); clear BK214; clear BK215; clear HB; have BK214 := n0_; have BK215 := n1_; have HB := n2_; clear n0_ n1_ n2_; (try clear hb); (try clear hb2); (try clear hk); (try clear hi)))
 go_loopg [5] k (fun kq v5 w' => ∃ (x5_1 : ByteArray), v5 = .string x5_1 ∧ Aside0 (impl_paperText.l0 kq x5_1 l0_0 l0_1 a1_0 a1_1 a1_2 a1_3 = some r) ∧ Aside0 (kq ≤ k) ∧ Aside0 (w'.heap[gb214]? = some (.cells #[(.slice A0_0 l0_0.length c0_0), (.slice A0_1 l0_1.length c0_1)] 42 (0, 0))) ∧ Aside0 (w'.heap[gb215]? = some (.cells #[.int .i64 a1_0, .int .i64 a1_1, .int .i64 a1_2, .bool a1_3] 53 (0, 0))) ∧ Aside0 (Below w.heap.size w w'))
 case atStart => exact ⟨(t216), (by first | rfl | (simp; done) | (simp [*]; done)), H', ⟨Nat.le_refl _⟩, ⟨by (with_reducible repeat (first | refine qd0 ?_ _ | refine qh0 ?_ | refine qe0 ?_ _)); exact BK214.out⟩, ⟨by (with_reducible repeat (first | refine qd0 ?_ _ | refine qh0 ?_ | refine qe0 ?_ _)); exact BK215.out⟩, ⟨by repeat (first | (with_reducible first | exact HB.out | apply qc0 | apply qa0 | apply qb0 | refine qg0 ?_ GE214.out | refine qg0 ?_ GE215.out) | exact HB.out)⟩⟩
 case round =>
  clear H'
  try clear c1
  try clear p2
  try clear c6
  try clear hcz7_0
  try clear hcz7_1
  try clear hcz7_2
  try clear hcz7_3
  try clear hfz7_0
  try clear hfz7_1
  try clear hfz7_2
  try clear hfz7_3
  obtain ⟨x5_1, rfl, HA, HK1, BK214, BK215, HB⟩ := hrel
  cases gk with
  | zero => exact absurd HA.out (by simp [impl_paperText.l0])
  | succ k1 =>
   have H := HA.out
   clear HA
   simp only [impl_paperText.l0] at H
   by_cases c9 : 0 ≤ a1_0
   case neg => rw [if_neg c9] at H; exact absurd H (by simp)
   rw [if_pos c9] at H
   have c9b0 : decide (0 ≤ a1_0) = true := decide_eq_true c9
   clear c9
   by_cases c10 : a1_0 < (l0_0.length : Int)
   case neg => rw [if_neg c10] at H; exact absurd H (by simp)
   rw [if_pos c10] at H
   have c10b0 : decide (a1_0 < (l0_0.length : Int)) = true := decide_eq_true c10
   clear c10
   by_cases c11 : (x5_1.size : Int) < ((rd_T122 l0_0 a1_0).f1)
   ·rw [if_pos c11] at H
    have c11b0 : decide ((x5_1.size : Int) < ((rd_T122 l0_0 a1_0).f1)) = true := decide_eq_true c11
    clear c11
    by_cases c12 : 1 + x5_1.size ≤ 9223372036854775807
    case neg => rw [if_neg c12] at H; exact absurd H (by simp)
    rw [if_pos c12] at H
    have c12b0 := eq_true c12
    have c12b1 : decide (1 + x5_1.size ≤ 9223372036854775807) = true := decide_eq_true c12
    try have c12b2 : (9223372036854775807 < 1 + x5_1.size) = False := eq_false (Nat.not_lt.2 c12)
    have H' := Aside0.mk H
    clear H
    have hnb13 := NB214_215.out
    have hnc13 := NB215_214.out
    have hcz14_0 : wr.cell? ⟨gb214, 0, none⟩ = some (.slice A0_0 l0_0.length c0_0) := (qf0 BK214.out 0).trans rfl
    have hcz14_1 : wr.cell? ⟨gb214, 1, none⟩ = some (.slice A0_1 l0_1.length c0_1) := (qf0 BK214.out 1).trans rfl
    have hfz14_0 := qi0 BK214.out 0
    have hfz14_1 := qi0 BK214.out 1
    have hcz15_0 : wr.cell? ⟨gb215, 0, none⟩ = some (.int .i64 a1_0) := (qf0 BK215.out 0).trans rfl
    have hcz15_1 : wr.cell? ⟨gb215, 1, none⟩ = some (.int .i64 a1_1) := (qf0 BK215.out 1).trans rfl
    have hcz15_2 : wr.cell? ⟨gb215, 2, none⟩ = some (.int .i64 a1_2) := (qf0 BK215.out 2).trans rfl
    have hcz15_3 : wr.cell? ⟨gb215, 3, none⟩ = some (.bool a1_3) := (qf0 BK215.out 3).trans rfl
    have hfz15_0 := qi0 BK215.out 0
    have hfz15_1 := qi0 BK215.out 1
    have hfz15_2 := qi0 BK215.out 2
    have hfz15_3 := qi0 BK215.out 3
    have p217 : 0 ≤ (a1_0 : Int) := of_decide_eq_true (by first | (with_reducible assumption) | assumption)
    have q217 : a1_0 < (l0_0.length : Int) := of_decide_eq_true (by first | (with_reducible assumption) | assumption)
    obtain ⟨ad217, e217, hx217_0, hx217_1⟩ := at_T122 HR0_0.out a1_0 p217 q217
    cases e217
    replace hx217_0 := (HB.out.cell (World.block_lt_of_cell? w _ hx217_0)).trans hx217_0
    replace hx217_1 := (HB.out.cell (World.block_lt_of_cell? w _ hx217_1)).trans hx217_1
    replace p217 := eq_true p217
    replace q217 := eq_true q217
    go_wp2
    go_roundg k1
    case measure => have := HK1.out; omega
    case rel => exact ⟨((⟨#[48]⟩ : ByteArray) ++ x5_1), (by first | rfl | (simp; done) | (simp [*]; done)), H', ⟨by have := HK1.out; omega⟩, ⟨by (with_reducible repeat (first | refine qd0 ?_ _ | refine qh0 ?_ | refine qe0 ?_ _)); exact BK214.out⟩, ⟨by (with_reducible repeat (first | refine qd0 ?_ _ | refine qh0 ?_ | refine qe0 ?_ _)); exact BK215.out⟩, ⟨by repeat (first | (with_reducible first | exact HB.out | apply qc0 | apply qa0 | apply qb0 | refine qg0 ?_ GE214.out | refine qg0 ?_ GE215.out) | exact HB.out)⟩⟩
   rw [if_neg c11] at H
   have c11b0 : decide ((x5_1.size : Int) < ((rd_T122 l0_0 a1_0).f1)) = false := decide_eq_false c11
   clear c11
   by_cases c16 : ((rd_T122 l0_0 a1_0).f0).size + 1 ≤ 9223372036854775807
   case neg => rw [if_neg c16] at H; exact absurd H (by simp)
   rw [if_pos c16] at H
   have c16b0 := eq_true c16
   have c16b1 : decide (((rd_T122 l0_0 a1_0).f0).size + 1 ≤ 9223372036854775807) = true := decide_eq_true c16
   try have c16b2 : (9223372036854775807 < ((rd_T122 l0_0 a1_0).f0).size + 1) = False := eq_false (Nat.not_lt.2 c16)
   by_cases c17 : (((rd_T122 l0_0 a1_0).f0) ++ (⟨#[45]⟩ : ByteArray)).size + x5_1.size ≤ 9223372036854775807
   case neg => rw [if_neg c17] at H; exact absurd H (by simp)
   rw [if_pos c17] at H
   have c17b0 := eq_true c17
   have c17b1 : decide ((((rd_T122 l0_0 a1_0).f0) ++ (⟨#[45]⟩ : ByteArray)).size + x5_1.size ≤ 9223372036854775807) = true := decide_eq_true c17
   try have c17b2 : (9223372036854775807 < (((rd_T122 l0_0 a1_0).f0) ++ (⟨#[45]⟩ : ByteArray)).size + x5_1.size) = False := eq_false (Nat.not_lt.2 c17)
   obtain rfl := Option.some.inj H
   have hnb18 := NB214_215.out
   have hnc18 := NB215_214.out
   have hcz19_0 : wr.cell? ⟨gb214, 0, none⟩ = some (.slice A0_0 l0_0.length c0_0) := (qf0 BK214.out 0).trans rfl
   have hcz19_1 : wr.cell? ⟨gb214, 1, none⟩ = some (.slice A0_1 l0_1.length c0_1) := (qf0 BK214.out 1).trans rfl
   have hfz19_0 := qi0 BK214.out 0
   have hfz19_1 := qi0 BK214.out 1
   have hcz20_0 : wr.cell? ⟨gb215, 0, none⟩ = some (.int .i64 a1_0) := (qf0 BK215.out 0).trans rfl
   have hcz20_1 : wr.cell? ⟨gb215, 1, none⟩ = some (.int .i64 a1_1) := (qf0 BK215.out 1).trans rfl
   have hcz20_2 : wr.cell? ⟨gb215, 2, none⟩ = some (.int .i64 a1_2) := (qf0 BK215.out 2).trans rfl
   have hcz20_3 : wr.cell? ⟨gb215, 3, none⟩ = some (.bool a1_3) := (qf0 BK215.out 3).trans rfl
   have hfz20_0 := qi0 BK215.out 0
   have hfz20_1 := qi0 BK215.out 1
   have hfz20_2 := qi0 BK215.out 2
   have hfz20_3 := qi0 BK215.out 3
   have p217 : 0 ≤ (a1_0 : Int) := of_decide_eq_true (by first | (with_reducible assumption) | assumption)
   have q217 : a1_0 < (l0_0.length : Int) := of_decide_eq_true (by first | (with_reducible assumption) | assumption)
   obtain ⟨ad217, e217, hx217_0, hx217_1⟩ := at_T122 HR0_0.out a1_0 p217 q217
   cases e217
   replace hx217_0 := (HB.out.cell (World.block_lt_of_cell? w _ hx217_0)).trans hx217_0
   replace hx217_1 := (HB.out.cell (World.block_lt_of_cell? w _ hx217_1)).trans hx217_1
   replace p217 := eq_true p217
   replace q217 := eq_true q217
   have p218 : 0 ≤ (a1_0 : Int) := of_decide_eq_true (by first | (with_reducible assumption) | assumption)
   have q218 : a1_0 < (l0_0.length : Int) := of_decide_eq_true (by first | (with_reducible assumption) | assumption)
   obtain ⟨ad218, e218, hx218_0, hx218_1⟩ := at_T122 HR0_0.out a1_0 p218 q218
   obtain rfl : ad217 = ad218 := (by injection e218)
   replace hx218_0 := (HB.out.cell (World.block_lt_of_cell? w _ hx218_0)).trans hx218_0
   replace hx218_1 := (HB.out.cell (World.block_lt_of_cell? w _ hx218_1)).trans hx218_1
   replace p218 := eq_true p218
   replace q218 := eq_true q218
   go_wp2
   go_ret
   exact ⟨by first | rfl | (simp [errW_none, errW_some] <;> rfl) | (simp [*, errW_none, errW_some] <;> rfl), by repeat (first | (with_reducible first | exact HB.out | apply qc0 | apply qa0 | apply qb0 | refine qg0 ?_ GE214.out | refine qg0 ?_ GE215.out) | exact HB.out)⟩

/-! ### impl_ShowPaper: function 27 -/
def impl_ShowPaper.f (k : Nat) (l0_0 : List (S122)) (l0_1 : List (S53)) (a1 : Int) : Option (ByteArray) := (impl_RegisterOk.f k l0_0 l0_1).bind fun t220 => (if t220 = true then (if a1 < 0 then (some (⟨#[]⟩ : ByteArray)) else (if a1 ≥ (l0_1.length : Int) then (some (⟨#[]⟩ : ByteArray)) else (if 0 ≤ a1 then (if a1 < (l0_1.length : Int) then ((impl_paperText.f k l0_0 l0_1 ((rd_T53 l0_1 a1).f0) ((rd_T53 l0_1 a1).f1) ((rd_T53 l0_1 a1).f2) ((rd_T53 l0_1 a1).f3)).bind fun t222 => (some t222)) else (none)) else (none)))) else (some (⟨#[]⟩ : ByteArray)))
theorem impl_ShowPaper.mono : ∀ a0 a1 a2 k, LeO (impl_ShowPaper.f k a0 a1 a2) (impl_ShowPaper.f (k + 1) a0 a1 a2) := by
 intro a0 a1 a2 k
 unfold impl_ShowPaper.f
 repeat' first
   | (with_reducible exact impl_RegisterOk.mono _ _ _)
   | (with_reducible exact impl_paperText.mono _ _ _ _ _ _ _)
   | (with_reducible exact LeO.refl _)
   | (with_reducible exact LeO.none _)
   | (with_reducible refine LeO.ite ?_ ?_)
   | (with_reducible refine LeO.bind ?_ (fun _ => ?_))
   | exact impl_RegisterOk.mono _ _ _
   | exact impl_paperText.mono _ _ _ _ _ _ _
   | exact LeO.none _
   | refine LeO.ite ?_ ?_
   | refine LeO.bind ?_ (fun _ => ?_)
def impl_ShowPaper.T3 : Bool × List (List Nat × List Nat) := (true, [([], []), ([], []), ([1], [1]), ([], []), ([2, 3], [2, 3]), ([4], [4]), ([0, 5], [0, 5]), ([6, 6, 0, 1, 2, 3, 4, 5, 6], [6])])
def impl_ShowPaper.B3 : List Nat := [0, 0, 2, 0, 14, 30, 63, 127]
theorem impl_ShowPaper.tab3 : rtab .any (opsOf Try.f27 3) = impl_ShowPaper.T3 := by kernel_rfl
theorem impl_ShowPaper.bits3 : waitsOk impl_ShowPaper.T3.2 impl_ShowPaper.B3 = true := by kernel_rfl
set_option maxHeartbeats 8000000 in
set_option maxRecDepth 100000 in
theorem impl_ShowPaper.calls (k : Nat) (A0_0 : Option Addr) (c0_0 : Nat) (l0_0 : List (S122)) (A0_1 : Option Addr) (c0_1 : Nat) (l0_1 : List (S53)) (a1 : Int) (r : ByteArray) (w : World) (hr0_0 : Kd.C k122 w A0_0 l0_0.length l0_0) (hc0_0 : l0_0.length ≤ c0_0) (hr0_1 : Kd.C k53 w A0_1 l0_1.length l0_1) (hc0_1 : l0_1.length ≤ c0_1) (h : impl_ShowPaper.f k l0_0 l0_1 a1 = some r) :
  Calls Try.prog 27 #[.agg #[.slice A0_0 l0_0.length c0_0, .slice A0_1 l0_1.length c0_1], .int .i64 a1] w fun e w' => e = .returned (.string r) ∧ Below w.heap.size w w' := by
 have hu42 := Try.underlying42
 have hu53 := Try.underlying53
 have HR0_0 := Aside0.mk hr0_0
 have HC0_0 := Aside0.mk hc0_0
 clear hr0_0 hc0_0
 have HR0_1 := Aside0.mk hr0_1
 have HC0_1 := Aside0.mk hc0_1
 clear hr0_1 hc0_1
 have HB := Aside0.mk (Below.refl w.heap.size w)
 have H : ((impl_RegisterOk.f k l0_0 l0_1).bind fun t220 => (if t220 = true then (if a1 < 0 then (some (⟨#[]⟩ : ByteArray)) else (if a1 ≥ (l0_1.length : Int) then (some (⟨#[]⟩ : ByteArray)) else (if 0 ≤ a1 then (if a1 < (l0_1.length : Int) then ((impl_paperText.f k l0_0 l0_1 ((rd_T53 l0_1 a1).f0) ((rd_T53 l0_1 a1).f1) ((rd_T53 l0_1 a1).f2) ((rd_T53 l0_1 a1).f3)).bind fun t222 => (some t222)) else (none)) else (none)))) else (some (⟨#[]⟩ : ByteArray)))) = some r := h
 clear h
 replace H := Option.bind_eq_some_iff.mp H
 obtain ⟨t220, A30, H⟩ := H
 replace H : (if t220 = true then (if a1 < 0 then (some (⟨#[]⟩ : ByteArray)) else (if a1 ≥ (l0_1.length : Int) then (some (⟨#[]⟩ : ByteArray)) else (if 0 ≤ a1 then (if a1 < (l0_1.length : Int) then ((impl_paperText.f k l0_0 l0_1 ((rd_T53 l0_1 a1).f0) ((rd_T53 l0_1 a1).f1) ((rd_T53 l0_1 a1).f2) ((rd_T53 l0_1 a1).f3)).bind fun t222 => (some t222)) else (none)) else (none)))) else (some (⟨#[]⟩ : ByteArray))) = some r := H
 have A3 := Aside0.mk A30
 clear A30
 by_cases c4 : t220 = true
 ·subst c4
  have H1 : (if a1 < 0 then (some (⟨#[]⟩ : ByteArray)) else (if a1 ≥ (l0_1.length : Int) then (some (⟨#[]⟩ : ByteArray)) else (if 0 ≤ a1 then (if a1 < (l0_1.length : Int) then ((impl_paperText.f k l0_0 l0_1 ((rd_T53 l0_1 a1).f0) ((rd_T53 l0_1 a1).f1) ((rd_T53 l0_1 a1).f2) ((rd_T53 l0_1 a1).f3)).bind fun t222 => (some t222)) else (none)) else (none)))) = some r := by rw [if_pos rfl] at H; exact H
  clear H
  have H := H1
  clear H1
  by_cases c5 : a1 < 0
  ·rw [if_pos c5] at H
   have c5b0 : decide (a1 < 0) = true := decide_eq_true c5
   clear c5
   obtain rfl := Option.some.inj H
   go_enter Try.func27, Try.ntmps27
   go_wp2_with (first | ((with_reducible refine qs0 (N := 2) rfl ?_); (try (refine gate_guard (by rfl) ?_; dsimp only)); refine qr0 ?hg (N := 2) ?hd (cs := #[.slice A0_0 l0_0.length c0_0, .slice A0_1 l0_1.length c0_1]) (t := 42) ?hr ?_; (case hd => rfl); (case hg => rfl); (case hr => first | (go_simp; done) | (go_simp; rfl)); intro gb219 hg w6 hbox hb; have n0_ := Aside0.mk (ql0 (by repeat (first | (with_reducible first | exact HB.out | apply qc0 | apply qa0 | apply qb0) | exact HB.out)) hb); have n1_ := Aside0.mk (hbox); have n2_ := Aside0.mk ((by rw [hg]; exact (qk0 (by repeat (first | (with_reducible first | exact HB.out | apply qc0 | apply qa0 | apply qb0) | exact HB.out))) : w.heap.size ≤ gb219)); have n3_ := Aside0.mk ((by rw [hg]; exact (qk0 (by repeat (first | (with_reducible first | exact HB.out | apply qc0 | apply qa0 | apply qb0) | exact HB.out))) : w.heap.size ≤ gb219)); clear HB; have HB := n0_; have BK219 := n1_; have GW219 := n2_; have GE219 := n3_; clear n0_ n1_ n2_ n3_; clear hb hbox hg; have hcz7_0 : w6.cell? ⟨gb219, 0, none⟩ = some (.slice A0_0 l0_0.length c0_0) := (qf0 BK219.out 0).trans rfl; have hcz7_1 : w6.cell? ⟨gb219, 1, none⟩ = some (.slice A0_1 l0_1.length c0_1) := (qf0 BK219.out 1).trans rfl; have hfz7_0 := qi0 BK219.out 0; have hfz7_1 := qi0 BK219.out 1) | ((with_reducible refine qn0 (f := 24) rfl ?_); refine qe1 (some 6) rfl rfl Try.func24 (by kernel_rfl) rfl #[.agg #[.slice A0_0 l0_0.length c0_0, .slice A0_1 l0_1.length c0_1]] rfl (by (try simp only [List.map_toArray, List.map_cons, List.map_nil]); first | done | rfl | (simp only [List.length_drop, List.length_take]; rfl)) ?_; (with_reducible refine (impl_RegisterOk.calls k _ _ l0_0 _ _ l0_1 true _ ?side1 ?side2 ?side3 ?side4 A3.out).mono ?_); (case side1 => repeat (first | exact (Kd.qy0 HR0_0.out HB.out) | (with_reducible refine Kd.qv0 ?_ _) | (with_reducible refine Kd.qu0 ?_ _) | (with_reducible refine Kd.qa1 ?_))); (case side2 => exact HC0_0.out); (case side3 => repeat (first | exact (Kd.qy0 HR0_1.out HB.out) | (with_reducible refine Kd.qv0 ?_ _) | (with_reducible refine Kd.qu0 ?_ _) | (with_reducible refine Kd.qa1 ?_))); (case side4 => exact HC0_1.out); rintro e w8 ⟨rfl, hb⟩; refine ⟨_, rfl, ?_⟩; have n0_ := Aside0.mk (qm0 (g := gb219) (o := .cells #[.slice A0_0 l0_0.length c0_0, .slice A0_1 l0_1.length c0_1] 42 (0, 0)) (by (with_reducible repeat (first | refine qd0 ?_ _ | refine qh0 ?_ | refine qe0 ?_ _)); exact BK219.out) hb); have n1_ := Aside0.mk (ql0 (by repeat (first | (with_reducible first | exact HB.out | apply qc0 | apply qa0 | apply qb0 | refine qg0 ?_ GE219.out) | exact HB.out)) hb); clear BK219; clear HB; have BK219 := n0_; have HB := n1_; clear n0_ n1_; (try clear hb); (try clear hb2); (try clear hk); (try clear hi)))
   go_ret
   exact ⟨by first | rfl | (simp [errW_none, errW_some] <;> rfl) | (simp [*, errW_none, errW_some] <;> rfl), by repeat (first | (with_reducible first | exact HB.out | apply qc0 | apply qa0 | apply qb0 | refine qg0 ?_ GE219.out) | exact HB.out)⟩
  rw [if_neg c5] at H
  have c5b0 : decide (a1 < 0) = false := decide_eq_false c5
  clear c5
  by_cases c9 : a1 ≥ (l0_1.length : Int)
  ·rw [if_pos c9] at H
   have c9b0 : decide ((l0_1.length : Int) ≤ a1) = true := decide_eq_true c9
   clear c9
   obtain rfl := Option.some.inj H
   go_enter Try.func27, Try.ntmps27
   go_wp2_with (first | ((with_reducible refine qs0 (N := 2) rfl ?_); (try (refine gate_guard (by rfl) ?_; dsimp only)); refine qr0 ?hg (N := 2) ?hd (cs := #[.slice A0_0 l0_0.length c0_0, .slice A0_1 l0_1.length c0_1]) (t := 42) ?hr ?_; (case hd => rfl); (case hg => rfl); (case hr => first | (go_simp; done) | (go_simp; rfl)); intro gb219 hg w10 hbox hb; have n0_ := Aside0.mk (ql0 (by repeat (first | (with_reducible first | exact HB.out | apply qc0 | apply qa0 | apply qb0) | exact HB.out)) hb); have n1_ := Aside0.mk (hbox); have n2_ := Aside0.mk ((by rw [hg]; exact (qk0 (by repeat (first | (with_reducible first | exact HB.out | apply qc0 | apply qa0 | apply qb0) | exact HB.out))) : w.heap.size ≤ gb219)); have n3_ := Aside0.mk ((by rw [hg]; exact (qk0 (by repeat (first | (with_reducible first | exact HB.out | apply qc0 | apply qa0 | apply qb0) | exact HB.out))) : w.heap.size ≤ gb219)); clear HB; have HB := n0_; have BK219 := n1_; have GW219 := n2_; have GE219 := n3_; clear n0_ n1_ n2_ n3_; clear hb hbox hg; have hcz11_0 : w10.cell? ⟨gb219, 0, none⟩ = some (.slice A0_0 l0_0.length c0_0) := (qf0 BK219.out 0).trans rfl; have hcz11_1 : w10.cell? ⟨gb219, 1, none⟩ = some (.slice A0_1 l0_1.length c0_1) := (qf0 BK219.out 1).trans rfl; have hfz11_0 := qi0 BK219.out 0; have hfz11_1 := qi0 BK219.out 1) | ((with_reducible refine qn0 (f := 24) rfl ?_); refine qe1 (some 6) rfl rfl Try.func24 (by kernel_rfl) rfl #[.agg #[.slice A0_0 l0_0.length c0_0, .slice A0_1 l0_1.length c0_1]] rfl (by (try simp only [List.map_toArray, List.map_cons, List.map_nil]); first | done | rfl | (simp only [List.length_drop, List.length_take]; rfl)) ?_; (with_reducible refine (impl_RegisterOk.calls k _ _ l0_0 _ _ l0_1 true _ ?side1 ?side2 ?side3 ?side4 A3.out).mono ?_); (case side1 => repeat (first | exact (Kd.qy0 HR0_0.out HB.out) | (with_reducible refine Kd.qv0 ?_ _) | (with_reducible refine Kd.qu0 ?_ _) | (with_reducible refine Kd.qa1 ?_))); (case side2 => exact HC0_0.out); (case side3 => repeat (first | exact (Kd.qy0 HR0_1.out HB.out) | (with_reducible refine Kd.qv0 ?_ _) | (with_reducible refine Kd.qu0 ?_ _) | (with_reducible refine Kd.qa1 ?_))); (case side4 => exact HC0_1.out); rintro e w12 ⟨rfl, hb⟩; refine ⟨_, rfl, ?_⟩; have n0_ := Aside0.mk (qm0 (g := gb219) (o := .cells #[.slice A0_0 l0_0.length c0_0, .slice A0_1 l0_1.length c0_1] 42 (0, 0)) (by (with_reducible repeat (first | refine qd0 ?_ _ | refine qh0 ?_ | refine qe0 ?_ _)); exact BK219.out) hb); have n1_ := Aside0.mk (ql0 (by repeat (first | (with_reducible first | exact HB.out | apply qc0 | apply qa0 | apply qb0 | refine qg0 ?_ GE219.out) | exact HB.out)) hb); clear BK219; clear HB; have BK219 := n0_; have HB := n1_; clear n0_ n1_; (try clear hb); (try clear hb2); (try clear hk); (try clear hi); have hcz13_0 : w12.cell? ⟨gb219, 0, none⟩ = some (.slice A0_0 l0_0.length c0_0) := (qf0 BK219.out 0).trans rfl; have hcz13_1 : w12.cell? ⟨gb219, 1, none⟩ = some (.slice A0_1 l0_1.length c0_1) := (qf0 BK219.out 1).trans rfl; have hfz13_0 := qi0 BK219.out 0; have hfz13_1 := qi0 BK219.out 1))
   go_ret
   exact ⟨by first | rfl | (simp [errW_none, errW_some] <;> rfl) | (simp [*, errW_none, errW_some] <;> rfl), by repeat (first | (with_reducible first | exact HB.out | apply qc0 | apply qa0 | apply qb0 | refine qg0 ?_ GE219.out) | exact HB.out)⟩
  rw [if_neg c9] at H
  have c9b0 : decide ((l0_1.length : Int) ≤ a1) = false := decide_eq_false c9
  clear c9
  by_cases c14 : 0 ≤ a1
  case neg => rw [if_neg c14] at H; exact absurd H (by simp)
  rw [if_pos c14] at H
  have c14b0 : decide (0 ≤ a1) = true := decide_eq_true c14
  clear c14
  by_cases c15 : a1 < (l0_1.length : Int)
  case neg => rw [if_neg c15] at H; exact absurd H (by simp)
  rw [if_pos c15] at H
  have c15b0 : decide (a1 < (l0_1.length : Int)) = true := decide_eq_true c15
  clear c15
  replace H := Option.bind_eq_some_iff.mp H
  obtain ⟨t222, A160, H⟩ := H
  replace H : (some t222) = some r := H
  have A16 := Aside0.mk A160
  clear A160
  obtain rfl := Option.some.inj H
  go_enter Try.func27, Try.ntmps27
  try go_wp2_with (first | ((with_reducible refine qs0 (N := 2) rfl ?_); (try (refine gate_guard (by rfl) ?_; dsimp only)); refine qr0 ?hg (N := 2) ?hd (cs := #[.slice A0_0 l0_0.length c0_0, .slice A0_1 l0_1.length c0_1]) (t := 42) ?hr ?_; (case hd => rfl); (case hg => rfl); (case hr => first | (go_simp; done) | (go_simp; rfl)); intro gb219 hg w17 hbox hb; have n0_ := Aside0.mk (ql0 (by repeat (first | (with_reducible first | exact HB.out | apply qc0 | apply qa0 | apply qb0) | exact HB.out)) hb); have n1_ := Aside0.mk (hbox); have n2_ := Aside0.mk ((by rw [hg]; exact (qk0 (by repeat (first | (with_reducible first | exact HB.out | apply qc0 | apply qa0 | apply qb0) | exact HB.out))) : w.heap.size ≤ gb219)); have n3_ := Aside0.mk ((by rw [hg]; exact (qk0 (by repeat (first | (with_reducible first | exact HB.out | apply qc0 | apply qa0 | apply qb0) | exact HB.out))) : w.heap.size ≤ gb219)); clear HB; have HB := n0_; have BK219 := n1_; have GW219 := n2_; have GE219 := n3_; clear n0_ n1_ n2_ n3_; clear hb hbox hg; have hcz18_0 : w17.cell? ⟨gb219, 0, none⟩ = some (.slice A0_0 l0_0.length c0_0) := (qf0 BK219.out 0).trans rfl; have hcz18_1 : w17.cell? ⟨gb219, 1, none⟩ = some (.slice A0_1 l0_1.length c0_1) := (qf0 BK219.out 1).trans rfl; have hfz18_0 := qi0 BK219.out 0; have hfz18_1 := qi0 BK219.out 1) | ((with_reducible refine qn0 (f := 24) rfl ?_); refine qe1 (some 6) rfl rfl Try.func24 (by kernel_rfl) rfl #[.agg #[.slice A0_0 l0_0.length c0_0, .slice A0_1 l0_1.length c0_1]] rfl (by (try simp only [List.map_toArray, List.map_cons, List.map_nil]); first | done | rfl | (simp only [List.length_drop, List.length_take]; rfl)) ?_; (with_reducible refine (impl_RegisterOk.calls k _ _ l0_0 _ _ l0_1 true _ ?side1 ?side2 ?side3 ?side4 A3.out).mono ?_); (case side1 => repeat (first | exact (Kd.qy0 HR0_0.out HB.out) | (with_reducible refine Kd.qv0 ?_ _) | (with_reducible refine Kd.qu0 ?_ _) | (with_reducible refine Kd.qa1 ?_))); (case side2 => exact HC0_0.out); (case side3 => repeat (first | exact (Kd.qy0 HR0_1.out HB.out) | (with_reducible refine Kd.qv0 ?_ _) | (with_reducible refine Kd.qu0 ?_ _) | (with_reducible refine Kd.qa1 ?_))); (case side4 => exact HC0_1.out); rintro e w19 ⟨rfl, hb⟩; refine ⟨_, rfl, ?_⟩; have n0_ := Aside0.mk (qm0 (g := gb219) (o := .cells #[.slice A0_0 l0_0.length c0_0, .slice A0_1 l0_1.length c0_1] 42 (0, 0)) (by (with_reducible repeat (first | refine qd0 ?_ _ | refine qh0 ?_ | refine qe0 ?_ _)); exact BK219.out) hb); have n1_ := Aside0.mk (ql0 (by repeat (first | (with_reducible first | exact HB.out | apply qc0 | apply qa0 | apply qb0 | refine qg0 ?_ GE219.out) | exact HB.out)) hb); clear BK219; clear HB; have BK219 := n0_; have HB := n1_; clear n0_ n1_; (try clear hb); (try clear hb2); (try clear hk); (try clear hi); have hcz20_0 : w19.cell? ⟨gb219, 0, none⟩ = some (.slice A0_0 l0_0.length c0_0) := (qf0 BK219.out 0).trans rfl; have hcz20_1 : w19.cell? ⟨gb219, 1, none⟩ = some (.slice A0_1 l0_1.length c0_1) := (qf0 BK219.out 1).trans rfl; have hfz20_0 := qi0 BK219.out 0; have hfz20_1 := qi0 BK219.out 1))
  have n0_ := Aside0.mk (qh0 BK219.out)
  have n1_ := Aside0.mk (qb0 HB.out)
  clear BK219
  clear HB
  have BK219 := n0_
  have HB := n1_
  clear n0_ n1_
  have p221 : 0 ≤ (a1 : Int) := of_decide_eq_true (by first | (with_reducible assumption) | assumption)
  have q221 : a1 < (l0_1.length : Int) := of_decide_eq_true (by first | (with_reducible assumption) | assumption)
  obtain ⟨ad221, e221, hx221_0, hx221_1, hx221_2, hx221_3⟩ := at_T53 HR0_1.out a1 p221 q221
  have hw221_3 := hx221_3
  have hw221_2 := hx221_2
  have hw221_1 := hx221_1
  have hw221_0 := hx221_0
  cases e221
  replace hx221_0 := (HB.out.cell (World.block_lt_of_cell? w _ hx221_0)).trans hx221_0
  replace hx221_1 := (HB.out.cell (World.block_lt_of_cell? w _ hx221_1)).trans hx221_1
  replace hx221_2 := (HB.out.cell (World.block_lt_of_cell? w _ hx221_2)).trans hx221_2
  replace hx221_3 := (HB.out.cell (World.block_lt_of_cell? w _ hx221_3)).trans hx221_3
  replace p221 := eq_true p221
  replace q221 := eq_true q221
  refine qo1 (n := 8) (S := fun w' => w'.cell? ⟨gb219, 0, none⟩ = some (.slice A0_0 l0_0.length c0_0) ∧ w'.cell? ⟨gb219, 1, none⟩ = some (.slice (some ad221) l0_1.length c0_1) ∧ w'.cell? (ad221.add ((a1).toNat * 4)) = some (.int .i64 ((rd_T53 l0_1 a1).f0)) ∧ w'.cell? ⟨(ad221.add ((a1).toNat * 4)).block, (ad221.add ((a1).toNat * 4)).off + 1, none⟩ = some (.int .i64 ((rd_T53 l0_1 a1).f1)) ∧ w'.cell? ⟨(ad221.add ((a1).toNat * 4)).block, (ad221.add ((a1).toNat * 4)).off + 2, none⟩ = some (.int .i64 ((rd_T53 l0_1 a1).f2)) ∧ w'.cell? ⟨(ad221.add ((a1).toNat * 4)).block, (ad221.add ((a1).toNat * 4)).off + 3, none⟩ = some (.bool ((rd_T53 l0_1 a1).f3))) (ds := []) #[false, false, false, false, false, false, false, false] (by kernel_rfl) rfl rfl ⟨(qf0 BK219.out 0).trans rfl, (qf0 BK219.out 1).trans rfl, ((HB.out.cell (World.block_lt_of_cell? w _ hw221_0)).trans hw221_0), ((HB.out.cell (World.block_lt_of_cell? w _ hw221_1)).trans hw221_1), ((HB.out.cell (World.block_lt_of_cell? w _ hw221_2)).trans hw221_2), ((HB.out.cell (World.block_lt_of_cell? w _ hw221_3)).trans hw221_3)⟩ (fun hHeld => ?_); refine qf1 impl_ShowPaper.tab3 impl_ShowPaper.bits3 (fun HT_ HW_ => ?_)
  generalize w19.drew = w21 at BK219 HB hx221_0 hx221_1 hx221_2 hx221_3 hHeld ⊢
  refine pure_ (i := 1) (N := some 20) (v := ?_) (a' := ?_) #[false, true, false, false, false, false, false, false] rfl rfl (qj0 HT_.out (by kernel_rfl)) (fun _ _ _ h => h) (Or.inl ⟨by rfl, ?_⟩) ?_ ?_
  rotate_left
  ·intro w'
   go_simp
   with_reducible rfl
  rotate_left
  ·simp only [Act.put, List.setIfInBounds_toArray, List.set_cons_zero, List.set_cons_succ, i64_w, i32_w]
   rfl
  refine pure_ (i := 3) (N := some 22) (v := ?_) (a' := ?_) #[false, true, false, true, false, false, false, false] rfl rfl (qj0 HT_.out (by kernel_rfl)) (fun _ _ _ h => h) (Or.inl ⟨by rfl, ?_⟩) ?_ ?_
  rotate_left
  ·intro w'
   go_simp
   with_reducible rfl
  rotate_left
  ·simp only [Act.put, List.setIfInBounds_toArray, List.set_cons_zero, List.set_cons_succ, i64_w, i32_w]
   rfl
  refine take_ (i := 0) (N := some 19) (v := ?_) (a' := ?_) #[true, true, false, true, false, false, false, false] rfl rfl (qo0 HT_.out HW_.out (by kernel_rfl)) (fun _ _ _ h => h) (Or.inl ⟨by rfl, ?_⟩) hHeld ?_ ?_
  rotate_left
  ·rintro w' ⟨s0, s1, s2, s3, s4, s5⟩
   go_simp
   with_reducible rfl
  rotate_left
  ·simp only [Act.put, List.setIfInBounds_toArray, List.set_cons_zero, List.set_cons_succ, i64_w, i32_w]
   rfl
  refine take_ (i := 2) (N := some 21) (v := ?_) (a' := ?_) #[true, true, true, true, false, false, false, false] rfl rfl (qo0 HT_.out HW_.out (by kernel_rfl)) (fun _ _ _ h => h) (Or.inl ⟨by rfl, ?_⟩) hHeld ?_ ?_
  rotate_left
  ·rintro w' ⟨s0, s1, s2, s3, s4, s5⟩
   go_simp
   with_reducible rfl
  rotate_left
  ·simp only [Act.put, List.setIfInBounds_toArray, List.set_cons_zero, List.set_cons_succ, i64_w, i32_w]
   rfl
  refine pure_ (i := 4) (N := some 23) (v := ?_) (a' := ?_) #[true, true, true, true, true, false, false, false] rfl rfl (qj0 HT_.out (by kernel_rfl)) (fun _ _ _ h => h) (Or.inl ⟨by rfl, ?_⟩) ?_ ?_
  rotate_left
  ·intro w'
   go_simp
   with_reducible rfl
  rotate_left
  ·simp only [Act.put, List.setIfInBounds_toArray, List.set_cons_zero, List.set_cons_succ, i64_w, i32_w]
   rfl
  refine take_ (i := 5) (N := some 24) (v := ?_) (a' := ?_) #[true, true, true, true, true, true, false, false] rfl rfl (qo0 HT_.out HW_.out (by kernel_rfl)) (fun _ _ _ h => h) (Or.inl ⟨by rfl, ?_⟩) hHeld ?_ ?_
  rotate_left
  ·rintro w' ⟨s0, s1, s2, s3, s4, s5⟩
   go_simp
   with_reducible rfl
  rotate_left
  ·simp only [Act.put, List.setIfInBounds_toArray, List.set_cons_zero, List.set_cons_succ, i64_w, i32_w]
   rfl
  refine one_ (i := 6) (N := some 25) #[true, true, true, true, true, true, true, false] rfl rfl (qn1 HT_.out (by kernel_rfl)) (by decide) (fun K hK => ?_)
  refine goes_ Try.func91 (by kernel_rfl) rfl #[.agg #[.slice A0_0 l0_0.length c0_0, .slice (some ad221) l0_1.length c0_1], .agg #[.int .i64 ((rd_T53 l0_1 a1).f0), .int .i64 ((rd_T53 l0_1 a1).f1), .int .i64 ((rd_T53 l0_1 a1).f2), .bool ((rd_T53 l0_1 a1).f3)]] (by rfl) rfl rfl (by (try simp only [List.map_toArray, List.map_cons, List.map_nil]); first | done | rfl | (simp only [List.length_drop, List.length_take]; rfl)) ?_
  with_reducible refine (impl_paperText.calls k _ _ l0_0 _ _ l0_1 ((rd_T53 l0_1 a1).f0) ((rd_T53 l0_1 a1).f1) ((rd_T53 l0_1 a1).f2) ((rd_T53 l0_1 a1).f3) t222 _ ?side1 ?side2 ?side3 ?side4 A16.out).mono ?_
  (case side1 => repeat (first | exact (Kd.qy0 HR0_0.out HB.out) | (with_reducible refine Kd.qv0 ?_ _) | (with_reducible refine Kd.qu0 ?_ _) | (with_reducible refine Kd.qa1 ?_)))
  (case side2 => exact HC0_0.out)
  (case side3 => repeat (first | exact (Kd.qy0 HR0_1.out HB.out) | (with_reducible refine Kd.qv0 ?_ _) | (with_reducible refine Kd.qu0 ?_ _) | (with_reducible refine Kd.qa1 ?_)))
  (case side4 => exact HC0_1.out)
  rintro e w22 ⟨rfl, hb⟩
  refine ⟨_, rfl, ?_⟩
  have n0_ := Aside0.mk (qm0 (g := gb219) (o := .cells #[.slice A0_0 l0_0.length c0_0, .slice (some ad221) l0_1.length c0_1] 42 (0, 0)) (by (with_reducible repeat (first | refine qd0 ?_ _ | refine qh0 ?_ | refine qe0 ?_ _)); exact BK219.out) hb)
  have n1_ := Aside0.mk (ql0 (by repeat (first | (with_reducible first | exact HB.out | apply qc0 | apply qa0 | apply qb0 | refine qg0 ?_ GE219.out) | exact HB.out)) hb)
  clear BK219
  clear HB
  have BK219 := n0_
  have HB := n1_
  clear n0_ n1_
  (try clear hb)
  (try clear hb2)
  (try clear hk)
  (try clear hi)
  refine hK.out _ _ ⟨(qf0 BK219.out 0).trans rfl, (qf0 BK219.out 1).trans rfl, ((HB.out.cell (World.block_lt_of_cell? w _ hw221_0)).trans hw221_0), ((HB.out.cell (World.block_lt_of_cell? w _ hw221_1)).trans hw221_1), ((HB.out.cell (World.block_lt_of_cell? w _ hw221_2)).trans hw221_2), ((HB.out.cell (World.block_lt_of_cell? w _ hw221_3)).trans hw221_3)⟩ (fun hHeld => ?_)
  clear hK K
  refine norm_ (a' := ?_) ?_ ?_
  rotate_left
  ·show Act.put _ (some 25) _ = _
   simp only [Act.put, List.setIfInBounds_toArray, List.set_cons_zero, List.set_cons_succ, i64_w, i32_w]
   rfl
  refine pure_ (i := 7) (N := some 4) (v := ?_) (a' := ?_) #[true, true, true, true, true, true, true, true] rfl rfl (qj0 HT_.out (by kernel_rfl)) (fun _ _ _ h => h) (Or.inl ⟨by rfl, ?_⟩) ?_ ?_
  rotate_left
  ·intro w'
   go_simp
   with_reducible rfl
  rotate_left
  ·simp only [Act.put, List.setIfInBounds_toArray, List.set_cons_zero, List.set_cons_succ, i64_w, i32_w]
   rfl
  refine done_ (ql1 HT_.out (by kernel_rfl)) ?_
  try go_wp2
  go_ret
  exact ⟨by first | rfl | (simp [errW_none, errW_some] <;> rfl) | (simp [*, errW_none, errW_some] <;> rfl), by repeat (first | (with_reducible first | exact HB.out | apply qc0 | apply qa0 | apply qb0 | refine qg0 ?_ GE219.out) | exact HB.out)⟩
 replace c4 := Bool.eq_false_iff.mpr c4
 subst c4
 have H1 : (some (⟨#[]⟩ : ByteArray)) = some r := by rw [if_neg (show ¬ (false = true) by decide)] at H; exact H
 clear H
 have H := H1
 clear H1
 obtain rfl := Option.some.inj H
 go_enter Try.func27, Try.ntmps27
 go_wp2_with (first | ((with_reducible refine qs0 (N := 2) rfl ?_); (try (refine gate_guard (by rfl) ?_; dsimp only)); refine qr0 ?hg (N := 2) ?hd (cs := #[.slice A0_0 l0_0.length c0_0, .slice A0_1 l0_1.length c0_1]) (t := 42) ?hr ?_; (case hd => rfl); (case hg => rfl); (case hr => first | (go_simp; done) | (go_simp; rfl)); intro gb219 hg w23 hbox hb; have n0_ := Aside0.mk (ql0 (by repeat (first | (with_reducible first | exact HB.out | apply qc0 | apply qa0 | apply qb0) | exact HB.out)) hb); have n1_ := Aside0.mk (hbox); have n2_ := Aside0.mk ((by rw [hg]; exact (qk0 (by repeat (first | (with_reducible first | exact HB.out | apply qc0 | apply qa0 | apply qb0) | exact HB.out))) : w.heap.size ≤ gb219)); have n3_ := Aside0.mk ((by rw [hg]; exact (qk0 (by repeat (first | (with_reducible first | exact HB.out | apply qc0 | apply qa0 | apply qb0) | exact HB.out))) : w.heap.size ≤ gb219)); clear HB; have HB := n0_; have BK219 := n1_; have GW219 := n2_; have GE219 := n3_; clear n0_ n1_ n2_ n3_; clear hb hbox hg; have hcz24_0 : w23.cell? ⟨gb219, 0, none⟩ = some (.slice A0_0 l0_0.length c0_0) := (qf0 BK219.out 0).trans rfl; have hcz24_1 : w23.cell? ⟨gb219, 1, none⟩ = some (.slice A0_1 l0_1.length c0_1) := (qf0 BK219.out 1).trans rfl; have hfz24_0 := qi0 BK219.out 0; have hfz24_1 := qi0 BK219.out 1) | ((with_reducible refine qn0 (f := 24) rfl ?_); refine qe1 (some 6) rfl rfl Try.func24 (by kernel_rfl) rfl #[.agg #[.slice A0_0 l0_0.length c0_0, .slice A0_1 l0_1.length c0_1]] rfl (by (try simp only [List.map_toArray, List.map_cons, List.map_nil]); first | done | rfl | (simp only [List.length_drop, List.length_take]; rfl)) ?_; (with_reducible refine (impl_RegisterOk.calls k _ _ l0_0 _ _ l0_1 false _ ?side1 ?side2 ?side3 ?side4 A3.out).mono ?_); (case side1 => repeat (first | exact (Kd.qy0 HR0_0.out HB.out) | (with_reducible refine Kd.qv0 ?_ _) | (with_reducible refine Kd.qu0 ?_ _) | (with_reducible refine Kd.qa1 ?_))); (case side2 => exact HC0_0.out); (case side3 => repeat (first | exact (Kd.qy0 HR0_1.out HB.out) | (with_reducible refine Kd.qv0 ?_ _) | (with_reducible refine Kd.qu0 ?_ _) | (with_reducible refine Kd.qa1 ?_))); (case side4 => exact HC0_1.out); rintro e w25 ⟨rfl, hb⟩; refine ⟨_, rfl, ?_⟩; have n0_ := Aside0.mk (qm0 (g := gb219) (o := .cells #[.slice A0_0 l0_0.length c0_0, .slice A0_1 l0_1.length c0_1] 42 (0, 0)) (by (with_reducible repeat (first | refine qd0 ?_ _ | refine qh0 ?_ | refine qe0 ?_ _)); exact BK219.out) hb); have n1_ := Aside0.mk (ql0 (by repeat (first | (with_reducible first | exact HB.out | apply qc0 | apply qa0 | apply qb0 | refine qg0 ?_ GE219.out) | exact HB.out)) hb); clear BK219; clear HB; have BK219 := n0_; have HB := n1_; clear n0_ n1_; (try clear hb); (try clear hb2); (try clear hk); (try clear hi)))
 go_ret
 exact ⟨by first | rfl | (simp [errW_none, errW_some] <;> rfl) | (simp [*, errW_none, errW_some] <;> rfl), by repeat (first | (with_reducible first | exact HB.out | apply qc0 | apply qa0 | apply qb0 | refine qg0 ?_ GE219.out) | exact HB.out)⟩

/-! ### laws_FnExactShowPaper: function 5 -/
def laws_FnExactShowPaper.f (k : Nat) (l0_0 : List (S207)) (l0_1 : List (S210)) (a1 : Int) : Option (Bool) := (laws_szRegister.f k l0_0 l0_1 1048576).bind fun t224 => (if t224 < 0 then (some true) else ((laws_toRegister.f k l0_0 l0_1).bind fun bt225 => ((spec_ShowPaper.f k bt225.1 bt225.2 a1).bind fun t231 => ((laws_toRegister.f k l0_0 l0_1).bind fun bt232 => ((impl_ShowPaper.f k bt232.1 bt232.2 a1).bind fun t239 => (if t239.toList = t231.toList then ((laws_toRegister.f k l0_0 l0_1).bind fun bt240 => ((laws_eqRegister.f k bt232.1 bt232.2 bt240.1 bt240.2).bind fun t246 => (if t246 = true then (some true) else (some false)))) else (some false)))))))
theorem laws_FnExactShowPaper.mono : ∀ a0 a1 a2 k, LeO (laws_FnExactShowPaper.f k a0 a1 a2) (laws_FnExactShowPaper.f (k + 1) a0 a1 a2) := by
 intro a0 a1 a2 k
 unfold laws_FnExactShowPaper.f
 repeat' first
   | (with_reducible exact impl_ShowPaper.mono _ _ _ _)
   | (with_reducible exact laws_eqRegister.mono _ _ _ _ _)
   | (with_reducible exact laws_szRegister.mono _ _ _ _)
   | (with_reducible exact laws_toRegister.mono _ _ _)
   | (with_reducible exact spec_ShowPaper.mono _ _ _ _)
   | (with_reducible exact LeO.refl _)
   | (with_reducible exact LeO.none _)
   | (with_reducible refine LeO.ite ?_ ?_)
   | (with_reducible refine LeO.bind ?_ (fun _ => ?_))
   | exact impl_ShowPaper.mono _ _ _ _
   | exact laws_eqRegister.mono _ _ _ _ _
   | exact laws_szRegister.mono _ _ _ _
   | exact laws_toRegister.mono _ _ _
   | exact spec_ShowPaper.mono _ _ _ _
   | exact LeO.none _
   | refine LeO.ite ?_ ?_
   | refine LeO.bind ?_ (fun _ => ?_)
set_option maxHeartbeats 8000000 in
set_option maxRecDepth 100000 in
theorem laws_FnExactShowPaper.calls (k : Nat) (A0_0 : Option Addr) (c0_0 : Nat) (l0_0 : List (S207)) (A0_1 : Option Addr) (c0_1 : Nat) (l0_1 : List (S210)) (a1 : Int) (r : Bool) (w : World) (hr0_0 : Kd.C k207 w A0_0 l0_0.length l0_0) (hc0_0 : l0_0.length ≤ c0_0) (hr0_1 : Kd.C k210 w A0_1 l0_1.length l0_1) (hc0_1 : l0_1.length ≤ c0_1) (h : laws_FnExactShowPaper.f k l0_0 l0_1 a1 = some r) :
  Calls Try.prog 5 #[.agg #[.slice A0_0 l0_0.length c0_0, .slice A0_1 l0_1.length c0_1], .int .i64 a1] w fun e w' => e = .returned (.bool r) ∧ Below w.heap.size w w' := by
 have hu36 := Try.underlying36
 have hu42 := Try.underlying42
 have HR0_0 := Aside0.mk hr0_0
 have HC0_0 := Aside0.mk hc0_0
 clear hr0_0 hc0_0
 have HR0_1 := Aside0.mk hr0_1
 have HC0_1 := Aside0.mk hc0_1
 clear hr0_1 hc0_1
 have HB := Aside0.mk (Below.refl w.heap.size w)
 have H : ((laws_szRegister.f k l0_0 l0_1 1048576).bind fun t224 => (if t224 < 0 then (some true) else ((laws_toRegister.f k l0_0 l0_1).bind fun bt225 => ((spec_ShowPaper.f k bt225.1 bt225.2 a1).bind fun t231 => ((laws_toRegister.f k l0_0 l0_1).bind fun bt232 => ((impl_ShowPaper.f k bt232.1 bt232.2 a1).bind fun t239 => (if t239.toList = t231.toList then ((laws_toRegister.f k l0_0 l0_1).bind fun bt240 => ((laws_eqRegister.f k bt232.1 bt232.2 bt240.1 bt240.2).bind fun t246 => (if t246 = true then (some true) else (some false)))) else (some false)))))))) = some r := h
 clear h
 replace H := Option.bind_eq_some_iff.mp H
 obtain ⟨t224, A30, H⟩ := H
 replace H : (if t224 < 0 then (some true) else ((laws_toRegister.f k l0_0 l0_1).bind fun bt225 => ((spec_ShowPaper.f k bt225.1 bt225.2 a1).bind fun t231 => ((laws_toRegister.f k l0_0 l0_1).bind fun bt232 => ((impl_ShowPaper.f k bt232.1 bt232.2 a1).bind fun t239 => (if t239.toList = t231.toList then ((laws_toRegister.f k l0_0 l0_1).bind fun bt240 => ((laws_eqRegister.f k bt232.1 bt232.2 bt240.1 bt240.2).bind fun t246 => (if t246 = true then (some true) else (some false)))) else (some false))))))) = some r := H
 have A3 := Aside0.mk A30
 clear A30
 by_cases c4 : t224 < 0
 ·rw [if_pos c4] at H
  have c4b0 : decide (t224 < 0) = true := decide_eq_true c4
  clear c4
  obtain rfl := Option.some.inj H
  go_enter Try.func5, Try.ntmps5
  go_wp2_with (first | ((with_reducible refine qs0 (N := 2) rfl ?_); refine qr0 ?hg (N := 2) ?hd (cs := #[.slice A0_0 l0_0.length c0_0, .slice A0_1 l0_1.length c0_1]) (t := 36) ?hr ?_; (case hd => rfl); (case hg => rfl); (case hr => first | (go_simp; done) | (go_simp; rfl)); intro gb223 hg w5 hbox hb; have n0_ := Aside0.mk (ql0 (by repeat (first | (with_reducible first | exact HB.out | apply qc0 | apply qa0 | apply qb0) | exact HB.out)) hb); have n1_ := Aside0.mk (hbox); have n2_ := Aside0.mk ((by rw [hg]; exact (qk0 (by repeat (first | (with_reducible first | exact HB.out | apply qc0 | apply qa0 | apply qb0) | exact HB.out))) : w.heap.size ≤ gb223)); have n3_ := Aside0.mk ((by rw [hg]; exact (qk0 (by repeat (first | (with_reducible first | exact HB.out | apply qc0 | apply qa0 | apply qb0) | exact HB.out))) : w.heap.size ≤ gb223)); clear HB; have HB := n0_; have BK223 := n1_; have GW223 := n2_; have GE223 := n3_; clear n0_ n1_ n2_ n3_; clear hb hbox hg; have hcz6_0 : w5.cell? ⟨gb223, 0, none⟩ = some (.slice A0_0 l0_0.length c0_0) := (qf0 BK223.out 0).trans rfl; have hcz6_1 : w5.cell? ⟨gb223, 1, none⟩ = some (.slice A0_1 l0_1.length c0_1) := (qf0 BK223.out 1).trans rfl; have hfz6_0 := qi0 BK223.out 0; have hfz6_1 := qi0 BK223.out 1) | ((with_reducible refine qn0 (f := 21) rfl ?_); refine qe1 (some 11) rfl rfl Try.func21 (by kernel_rfl) rfl #[.agg #[.slice A0_0 l0_0.length c0_0, .slice A0_1 l0_1.length c0_1], .int .i64 1048576] rfl (by (try simp only [List.map_toArray, List.map_cons, List.map_nil]); first | done | rfl | (simp only [List.length_drop, List.length_take]; rfl)) ?_; (with_reducible refine (laws_szRegister.calls k _ _ l0_0 _ _ l0_1 1048576 t224 _ ?side1 ?side2 ?side3 ?side4 A3.out).mono ?_); (case side1 => repeat (first | exact (Kd.qy0 HR0_0.out HB.out) | (with_reducible refine Kd.qv0 ?_ _) | (with_reducible refine Kd.qu0 ?_ _) | (with_reducible refine Kd.qa1 ?_))); (case side2 => exact HC0_0.out); (case side3 => repeat (first | exact (Kd.qy0 HR0_1.out HB.out) | (with_reducible refine Kd.qv0 ?_ _) | (with_reducible refine Kd.qu0 ?_ _) | (with_reducible refine Kd.qa1 ?_))); (case side4 => exact HC0_1.out); rintro e w7 ⟨rfl, hb⟩; refine ⟨_, rfl, ?_⟩; have n0_ := Aside0.mk (qm0 (g := gb223) (o := .cells #[.slice A0_0 l0_0.length c0_0, .slice A0_1 l0_1.length c0_1] 36 (0, 0)) (by (with_reducible repeat (first | refine qd0 ?_ _ | refine qh0 ?_ | refine qe0 ?_ _)); exact BK223.out) hb); have n1_ := Aside0.mk (ql0 (by repeat (first | (with_reducible first | exact HB.out | apply qc0 | apply qa0 | apply qb0 | refine qg0 ?_ GE223.out) | exact HB.out)) hb); clear BK223; clear HB; have BK223 := n0_; have HB := n1_; clear n0_ n1_; (try clear hb); (try clear hb2); (try clear hk); (try clear hi)))
  go_ret
  exact ⟨by first | rfl | (simp [errW_none, errW_some] <;> rfl) | (simp [*, errW_none, errW_some] <;> rfl), by repeat (first | (with_reducible first | exact HB.out | apply qc0 | apply qa0 | apply qb0 | refine qg0 ?_ GE223.out) | exact HB.out)⟩
 rw [if_neg c4] at H
 have c4b0 : decide (t224 < 0) = false := decide_eq_false c4
 clear c4
 replace H := Option.bind_eq_some_iff.mp H
 obtain ⟨⟨t225, t228⟩, A80, H⟩ := H
 replace H : ((spec_ShowPaper.f k t225 t228 a1).bind fun t231 => ((laws_toRegister.f k l0_0 l0_1).bind fun bt232 => ((impl_ShowPaper.f k bt232.1 bt232.2 a1).bind fun t239 => (if t239.toList = t231.toList then ((laws_toRegister.f k l0_0 l0_1).bind fun bt240 => ((laws_eqRegister.f k bt232.1 bt232.2 bt240.1 bt240.2).bind fun t246 => (if t246 = true then (some true) else (some false)))) else (some false))))) = some r := H
 have A8 := Aside0.mk A80
 clear A80
 replace H := Option.bind_eq_some_iff.mp H
 obtain ⟨t231, A90, H⟩ := H
 replace H : ((laws_toRegister.f k l0_0 l0_1).bind fun bt232 => ((impl_ShowPaper.f k bt232.1 bt232.2 a1).bind fun t239 => (if t239.toList = t231.toList then ((laws_toRegister.f k l0_0 l0_1).bind fun bt240 => ((laws_eqRegister.f k bt232.1 bt232.2 bt240.1 bt240.2).bind fun t246 => (if t246 = true then (some true) else (some false)))) else (some false)))) = some r := H
 have A9 := Aside0.mk A90
 clear A90
 replace H := Option.bind_eq_some_iff.mp H
 obtain ⟨⟨t232, t235⟩, A100, H⟩ := H
 replace H : ((impl_ShowPaper.f k t232 t235 a1).bind fun t239 => (if t239.toList = t231.toList then ((laws_toRegister.f k l0_0 l0_1).bind fun bt240 => ((laws_eqRegister.f k t232 t235 bt240.1 bt240.2).bind fun t246 => (if t246 = true then (some true) else (some false)))) else (some false))) = some r := H
 have A10 := Aside0.mk A100
 clear A100
 replace H := Option.bind_eq_some_iff.mp H
 obtain ⟨t239, A110, H⟩ := H
 replace H : (if t239.toList = t231.toList then ((laws_toRegister.f k l0_0 l0_1).bind fun bt240 => ((laws_eqRegister.f k t232 t235 bt240.1 bt240.2).bind fun t246 => (if t246 = true then (some true) else (some false)))) else (some false)) = some r := H
 have A11 := Aside0.mk A110
 clear A110
 by_cases c12 : t239.toList = t231.toList
 ·rw [if_pos c12] at H
  have c12b0 : (t239.toList == t231.toList) = true := beq_iff_eq.mpr c12
  have c12b1 : (t239.toList != t231.toList) = false := bne_eq_false_iff_eq.mpr c12
  clear c12
  replace H := Option.bind_eq_some_iff.mp H
  obtain ⟨⟨t240, t243⟩, A130, H⟩ := H
  replace H : ((laws_eqRegister.f k t232 t235 t240 t243).bind fun t246 => (if t246 = true then (some true) else (some false))) = some r := H
  have A13 := Aside0.mk A130
  clear A130
  replace H := Option.bind_eq_some_iff.mp H
  obtain ⟨t246, A140, H⟩ := H
  replace H : (if t246 = true then (some true) else (some false)) = some r := H
  have A14 := Aside0.mk A140
  clear A140
  by_cases c15 : t246 = true
  ·subst c15
   have H1 : (some true) = some r := by rw [if_pos rfl] at H; exact H
   clear H
   have H := H1
   clear H1
   obtain rfl := Option.some.inj H
   go_enter Try.func5, Try.ntmps5
   try go_wp2_with (first | ((with_reducible refine qs0 (N := 2) rfl ?_); refine qr0 ?hg (N := 2) ?hd (cs := #[.slice A0_0 l0_0.length c0_0, .slice A0_1 l0_1.length c0_1]) (t := 36) ?hr ?_; (case hd => rfl); (case hg => rfl); (case hr => first | (go_simp; done) | (go_simp; rfl)); intro gb223 hg w16 hbox hb; have n0_ := Aside0.mk (ql0 (by repeat (first | (with_reducible first | exact HB.out | apply qc0 | apply qa0 | apply qb0) | exact HB.out)) hb); have n1_ := Aside0.mk (hbox); have n2_ := Aside0.mk ((by rw [hg]; exact (qk0 (by repeat (first | (with_reducible first | exact HB.out | apply qc0 | apply qa0 | apply qb0) | exact HB.out))) : w.heap.size ≤ gb223)); have n3_ := Aside0.mk ((by rw [hg]; exact (qk0 (by repeat (first | (with_reducible first | exact HB.out | apply qc0 | apply qa0 | apply qb0) | exact HB.out))) : w.heap.size ≤ gb223)); clear HB; have HB := n0_; have BK223 := n1_; have GW223 := n2_; have GE223 := n3_; clear n0_ n1_ n2_ n3_; clear hb hbox hg; have hcz17_0 : w16.cell? ⟨gb223, 0, none⟩ = some (.slice A0_0 l0_0.length c0_0) := (qf0 BK223.out 0).trans rfl; have hcz17_1 : w16.cell? ⟨gb223, 1, none⟩ = some (.slice A0_1 l0_1.length c0_1) := (qf0 BK223.out 1).trans rfl; have hfz17_0 := qi0 BK223.out 0; have hfz17_1 := qi0 BK223.out 1) | ((with_reducible refine qn0 (f := 21) rfl ?_); refine qe1 (some 11) rfl rfl Try.func21 (by kernel_rfl) rfl #[.agg #[.slice A0_0 l0_0.length c0_0, .slice A0_1 l0_1.length c0_1], .int .i64 1048576] rfl (by (try simp only [List.map_toArray, List.map_cons, List.map_nil]); first | done | rfl | (simp only [List.length_drop, List.length_take]; rfl)) ?_; (with_reducible refine (laws_szRegister.calls k _ _ l0_0 _ _ l0_1 1048576 t224 _ ?side1 ?side2 ?side3 ?side4 A3.out).mono ?_); (case side1 => repeat (first | exact (Kd.qy0 HR0_0.out HB.out) | (with_reducible refine Kd.qv0 ?_ _) | (with_reducible refine Kd.qu0 ?_ _) | (with_reducible refine Kd.qa1 ?_))); (case side2 => exact HC0_0.out); (case side3 => repeat (first | exact (Kd.qy0 HR0_1.out HB.out) | (with_reducible refine Kd.qv0 ?_ _) | (with_reducible refine Kd.qu0 ?_ _) | (with_reducible refine Kd.qa1 ?_))); (case side4 => exact HC0_1.out); rintro e w18 ⟨rfl, hb⟩; refine ⟨_, rfl, ?_⟩; have n0_ := Aside0.mk (qm0 (g := gb223) (o := .cells #[.slice A0_0 l0_0.length c0_0, .slice A0_1 l0_1.length c0_1] 36 (0, 0)) (by (with_reducible repeat (first | refine qd0 ?_ _ | refine qh0 ?_ | refine qe0 ?_ _)); exact BK223.out) hb); have n1_ := Aside0.mk (ql0 (by repeat (first | (with_reducible first | exact HB.out | apply qc0 | apply qa0 | apply qb0 | refine qg0 ?_ GE223.out) | exact HB.out)) hb); clear BK223; clear HB; have BK223 := n0_; have HB := n1_; clear n0_ n1_; (try clear hb); (try clear hb2); (try clear hk); (try clear hi); have hcz19_0 : w18.cell? ⟨gb223, 0, none⟩ = some (.slice A0_0 l0_0.length c0_0) := (qf0 BK223.out 0).trans rfl; have hcz19_1 : w18.cell? ⟨gb223, 1, none⟩ = some (.slice A0_1 l0_1.length c0_1) := (qf0 BK223.out 1).trans rfl; have hfz19_0 := qi0 BK223.out 0; have hfz19_1 := qi0 BK223.out 1) | ((with_reducible refine qn0 (f := 23) rfl ?_); refine qe1 (some 15) rfl rfl Try.func23 (by kernel_rfl) rfl #[.agg #[.slice A0_0 l0_0.length c0_0, .slice A0_1 l0_1.length c0_1]] rfl (by (try simp only [List.map_toArray, List.map_cons, List.map_nil]); first | done | rfl | (simp only [List.length_drop, List.length_take]; rfl)) ?_; (with_reducible refine (laws_toRegister.calls k _ _ l0_0 _ _ l0_1 t225 t228 _ ?side1 ?side2 ?side3 ?side4 A8.out).mono ?_); (case side1 => repeat (first | exact (Kd.qy0 HR0_0.out HB.out) | (with_reducible refine Kd.qv0 ?_ _) | (with_reducible refine Kd.qu0 ?_ _) | (with_reducible refine Kd.qa1 ?_))); (case side2 => exact HC0_0.out); (case side3 => repeat (first | exact (Kd.qy0 HR0_1.out HB.out) | (with_reducible refine Kd.qv0 ?_ _) | (with_reducible refine Kd.qu0 ?_ _) | (with_reducible refine Kd.qa1 ?_))); (case side4 => exact HC0_1.out); rintro e w20 ⟨v226, v229, rfl, ho0, ho1, hb⟩; refine ⟨_, rfl, ?_⟩; have n0_ := Aside0.mk (Kd.qj1 ho0 (qk0 (by repeat (first | (with_reducible first | exact HB.out | apply qc0 | apply qa0 | apply qb0 | refine qg0 ?_ GE223.out) | exact HB.out)))); have n1_ := Aside0.mk (Kd.qj1 ho1 (qk0 (by repeat (first | (with_reducible first | exact HB.out | apply qc0 | apply qa0 | apply qb0 | refine qg0 ?_ GE223.out) | exact HB.out)))); have n2_ := Aside0.mk (qm0 (g := gb223) (o := .cells #[.slice A0_0 l0_0.length c0_0, .slice A0_1 l0_1.length c0_1] 36 (0, 0)) (by (with_reducible repeat (first | refine qd0 ?_ _ | refine qh0 ?_ | refine qe0 ?_ _)); exact BK223.out) hb); have n3_ := Aside0.mk (ql0 (by repeat (first | (with_reducible first | exact HB.out | apply qc0 | apply qa0 | apply qb0 | refine qg0 ?_ GE223.out) | exact HB.out)) hb); clear BK223; clear HB; have HO227 := n0_; have HO230 := n1_; have BK223 := n2_; have HB := n3_; clear n0_ n1_ n2_ n3_; (try clear hb); (try clear hb2); (try clear hk); (try clear hi); (try clear ho0); (try clear ho1); obtain ⟨Ao21, co21, eo21⟩ := Kd.R_slice HO227.out; subst eo21; obtain ⟨Ao22, co22, eo22⟩ := Kd.R_slice HO230.out; subst eo22) | ((with_reducible refine qn0 (f := 26) rfl ?_); refine qe1 (some 17) rfl rfl Try.func26 (by kernel_rfl) rfl #[.agg #[.slice Ao21 t225.length co21, .slice Ao22 t228.length co22], .int .i64 a1] rfl (by (try simp only [List.map_toArray, List.map_cons, List.map_nil]); first | done | rfl | (simp only [List.length_drop, List.length_take]; rfl)) ?_; (with_reducible refine (spec_ShowPaper.calls k _ _ t225 _ _ t228 a1 t231 _ ?side1 ?side2 ?side3 ?side4 A9.out).mono ?_); (case side1 => repeat (first | exact (Kd.qz0 HO227.out).2.2 | (with_reducible refine Kd.qv0 ?_ _) | (with_reducible refine Kd.qu0 ?_ _) | (with_reducible refine Kd.qa1 ?_))); (case side2 => exact (Kd.qz0 HO227.out).2.1); (case side3 => repeat (first | exact (Kd.qz0 HO230.out).2.2 | (with_reducible refine Kd.qv0 ?_ _) | (with_reducible refine Kd.qu0 ?_ _) | (with_reducible refine Kd.qa1 ?_))); (case side4 => exact (Kd.qz0 HO230.out).2.1); rintro e w23 ⟨rfl, hb⟩; refine ⟨_, rfl, ?_⟩; have n0_ := Aside0.mk (Kd.R_below (by (with_reducible repeat (first | apply Kd.qq0 | apply Kd.qp0 | apply Kd.qt0)); exact HO227.out) hb); have n1_ := Aside0.mk (Kd.R_below (by (with_reducible repeat (first | apply Kd.qq0 | apply Kd.qp0 | apply Kd.qt0)); exact HO230.out) hb); have n2_ := Aside0.mk (qm0 (g := gb223) (o := .cells #[.slice A0_0 l0_0.length c0_0, .slice A0_1 l0_1.length c0_1] 36 (0, 0)) (by (with_reducible repeat (first | refine qd0 ?_ _ | refine qh0 ?_ | refine qe0 ?_ _)); exact BK223.out) hb); have n3_ := Aside0.mk (ql0 (by repeat (first | (with_reducible first | exact HB.out | apply qc0 | apply qa0 | apply qb0 | refine qg0 ?_ GE223.out) | exact HB.out)) hb); clear HO227; clear HO230; clear BK223; clear HB; have HO227 := n0_; have HO230 := n1_; have BK223 := n2_; have HB := n3_; clear n0_ n1_ n2_ n3_; (try clear hb); (try clear hb2); (try clear hk); (try clear hi); have hcz24_0 : w23.cell? ⟨gb223, 0, none⟩ = some (.slice A0_0 l0_0.length c0_0) := (qf0 BK223.out 0).trans rfl; have hcz24_1 : w23.cell? ⟨gb223, 1, none⟩ = some (.slice A0_1 l0_1.length c0_1) := (qf0 BK223.out 1).trans rfl; have hfz24_0 := qi0 BK223.out 0; have hfz24_1 := qi0 BK223.out 1) | ((with_reducible refine qn0 (f := 23) rfl ?_); refine qe1 (some 19) rfl rfl Try.func23 (by kernel_rfl) rfl #[.agg #[.slice A0_0 l0_0.length c0_0, .slice A0_1 l0_1.length c0_1]] rfl (by (try simp only [List.map_toArray, List.map_cons, List.map_nil]); first | done | rfl | (simp only [List.length_drop, List.length_take]; rfl)) ?_; (with_reducible refine (laws_toRegister.calls k _ _ l0_0 _ _ l0_1 t232 t235 _ ?side1 ?side2 ?side3 ?side4 A10.out).mono ?_); (case side1 => repeat (first | exact (Kd.qy0 HR0_0.out HB.out) | (with_reducible refine Kd.qv0 ?_ _) | (with_reducible refine Kd.qu0 ?_ _) | (with_reducible refine Kd.qa1 ?_))); (case side2 => exact HC0_0.out); (case side3 => repeat (first | exact (Kd.qy0 HR0_1.out HB.out) | (with_reducible refine Kd.qv0 ?_ _) | (with_reducible refine Kd.qu0 ?_ _) | (with_reducible refine Kd.qa1 ?_))); (case side4 => exact HC0_1.out); rintro e w25 ⟨v233, v236, rfl, ho0, ho1, hb⟩; refine ⟨_, rfl, ?_⟩; have n0_ := Aside0.mk (Kd.R_elder' (by (with_reducible repeat (first | apply Kd.qq0 | apply Kd.qp0 | apply Kd.qt0)); exact HO227.out) (Kd.R_base ho0) hb); have n1_ := Aside0.mk (Kd.R_elder' (by (with_reducible repeat (first | apply Kd.qq0 | apply Kd.qp0 | apply Kd.qt0)); exact HO230.out) (Kd.R_base ho1) hb); have n2_ := Aside0.mk (Kd.qj1 (Kd.R_new' ho0 (Kd.R_lt (by (with_reducible repeat (first | apply Kd.qq0 | apply Kd.qp0 | apply Kd.qt0)); exact HO227.out))) (qk0 (by repeat (first | (with_reducible first | exact HB.out | apply qc0 | apply qa0 | apply qb0 | refine qg0 ?_ GE223.out) | exact HB.out)))); have n3_ := Aside0.mk (Kd.qj1 (Kd.R_new' ho1 (Kd.R_lt (by (with_reducible repeat (first | apply Kd.qq0 | apply Kd.qp0 | apply Kd.qt0)); exact HO230.out))) (qk0 (by repeat (first | (with_reducible first | exact HB.out | apply qc0 | apply qa0 | apply qb0 | refine qg0 ?_ GE223.out) | exact HB.out)))); have n4_ := Aside0.mk (qm0 (g := gb223) (o := .cells #[.slice A0_0 l0_0.length c0_0, .slice A0_1 l0_1.length c0_1] 36 (0, 0)) (by (with_reducible repeat (first | refine qd0 ?_ _ | refine qh0 ?_ | refine qe0 ?_ _)); exact BK223.out) hb); have n5_ := Aside0.mk (ql0 (by repeat (first | (with_reducible first | exact HB.out | apply qc0 | apply qa0 | apply qb0 | refine qg0 ?_ GE223.out) | exact HB.out)) hb); clear HO227; clear HO230; clear BK223; clear HB; have HO227 := n0_; have HO230 := n1_; have HO234 := n2_; have HO237 := n3_; have BK223 := n4_; have HB := n5_; clear n0_ n1_ n2_ n3_ n4_ n5_; (try clear hb); (try clear hb2); (try clear hk); (try clear hi); (try clear ho0); (try clear ho1)) | ((with_reducible refine qs0 (N := 7) rfl ?_); refine qr0 ?hg (N := 7) ?hd (cs := #[.slice none 0 0, .slice none 0 0]) (t := 42) ?hr ?_; (case hd => rfl); (case hg => rfl); (case hr => first | (go_simp; done) | (go_simp; rfl)); intro gb238 hg w26 hbox hb; have n0_ := Aside0.mk (Kd.R_below (by (with_reducible repeat (first | apply Kd.qq0 | apply Kd.qp0 | apply Kd.qt0)); exact HO227.out) hb); have n1_ := Aside0.mk (Kd.R_below (by (with_reducible repeat (first | apply Kd.qq0 | apply Kd.qp0 | apply Kd.qt0)); exact HO230.out) hb); have n2_ := Aside0.mk (Kd.R_below (by (with_reducible repeat (first | apply Kd.qq0 | apply Kd.qp0 | apply Kd.qt0)); exact HO234.out) hb); have n3_ := Aside0.mk (Kd.R_below (by (with_reducible repeat (first | apply Kd.qq0 | apply Kd.qp0 | apply Kd.qt0)); exact HO237.out) hb); have n4_ := Aside0.mk (qm0 (g := gb223) (o := .cells #[.slice A0_0 l0_0.length c0_0, .slice A0_1 l0_1.length c0_1] 36 (0, 0)) (by (with_reducible repeat (first | refine qd0 ?_ _ | refine qh0 ?_ | refine qe0 ?_ _)); exact BK223.out) hb); have n5_ := Aside0.mk (ql0 (by repeat (first | (with_reducible first | exact HB.out | apply qc0 | apply qa0 | apply qb0 | refine qg0 ?_ GE223.out) | exact HB.out)) hb); have n6_ := Aside0.mk (hbox); have n7_ := Aside0.mk ((by rw [hg]; exact (qk0 (by repeat (first | (with_reducible first | exact HB.out | apply qc0 | apply qa0 | apply qb0 | refine qg0 ?_ GE223.out) | exact HB.out))) : w.heap.size ≤ gb238)); have n8_ := Aside0.mk ((by rw [hg]; exact (qk0 (by repeat (first | (with_reducible first | exact HB.out | apply qc0 | apply qa0 | apply qb0 | refine qg0 ?_ GE223.out) | exact HB.out))) : w.heap.size ≤ gb238)); have n9_ := Aside0.mk ((by rw [hg]; exact Nat.ne_of_lt (qb1 (g := gb223) (o := .cells #[.slice A0_0 l0_0.length c0_0, .slice A0_1 l0_1.length c0_1] 36 (0, 0)) (by (with_reducible repeat (first | refine qd0 ?_ _ | refine qh0 ?_ | refine qe0 ?_ _)); exact BK223.out)) : gb223 ≠ gb238)); have n10_ := Aside0.mk ((by rw [hg]; exact Nat.ne_of_gt (qb1 (g := gb223) (o := .cells #[.slice A0_0 l0_0.length c0_0, .slice A0_1 l0_1.length c0_1] 36 (0, 0)) (by (with_reducible repeat (first | refine qd0 ?_ _ | refine qh0 ?_ | refine qe0 ?_ _)); exact BK223.out)) : gb238 ≠ gb223)); clear HO227; clear HO230; clear HO234; clear HO237; clear BK223; clear HB; have HO227 := n0_; have HO230 := n1_; have HO234 := n2_; have HO237 := n3_; have BK223 := n4_; have HB := n5_; have BK238 := n6_; have GW238 := n7_; have GE238 := n8_; have NB223_238 := n9_; have NB238_223 := n10_; clear n0_ n1_ n2_ n3_ n4_ n5_ n6_ n7_ n8_ n9_ n10_; clear hb hbox hg; obtain ⟨Ao27, co27, eo27⟩ := Kd.R_slice HO234.out; subst eo27; have hnb28 := NB238_223.out; have hnc28 := NB223_238.out; have hcz29_0 : w26.cell? ⟨gb238, 0, none⟩ = some (.slice none 0 0) := (qf0 BK238.out 0).trans rfl; have hcz29_1 : w26.cell? ⟨gb238, 1, none⟩ = some (.slice none 0 0) := (qf0 BK238.out 1).trans rfl; have hfz29_0 := qi0 BK238.out 0; have hfz29_1 := qi0 BK238.out 1; obtain ⟨Ao30, co30, eo30⟩ := Kd.R_slice HO237.out; subst eo30) | ((with_reducible refine qn0 (f := 27) rfl ?_); refine qe1 (some 22) rfl rfl Try.func27 (by kernel_rfl) rfl #[.agg #[.slice Ao27 t232.length co27, .slice Ao30 t235.length co30], .int .i64 a1] rfl (by (try simp only [List.map_toArray, List.map_cons, List.map_nil]); first | done | rfl | (simp only [List.length_drop, List.length_take]; rfl)) ?_; (with_reducible refine (impl_ShowPaper.calls k _ _ t232 _ _ t235 a1 t239 _ ?side1 ?side2 ?side3 ?side4 A11.out).mono ?_); (case side1 => refine (Kd.qz0 (e := 122) (base := w.heap.size) (ok := fun k_ => (True ∧ some k_ ≠ (.slice Ao21 t225.length co21 : Value).ownBlock)) (n := t232.length) (c := co27) ?_).2.2; exact (by (with_reducible repeat (first | apply Kd.qq0 | apply Kd.qp0 | apply Kd.qt0)); exact (Kd.qm1 (Kd.R_far (p := ⟨gb238, 1, none⟩) (Kd.R_far (p := ⟨gb238, 0, none⟩) (Kd.qi1 HO234.out BK238.out (by decide)) (fun _ hk => hk.2) (.slice Ao27 t232.length co27)) (fun _ hk => hk.2) (.slice Ao30 t235.length co30)) (fun _ h_ => h_.1)))); (case side2 => exact (Kd.qz0 HO234.out).2.1); (case side3 => refine (Kd.qz0 (e := 53) (base := w.heap.size) (ok := fun k_ => (True ∧ some k_ ≠ (.slice Ao22 t228.length co22 : Value).ownBlock)) (n := t235.length) (c := co30) ?_).2.2; exact (by (with_reducible repeat (first | apply Kd.qq0 | apply Kd.qp0 | apply Kd.qt0)); exact (Kd.qm1 (Kd.R_far (p := ⟨gb238, 1, none⟩) (Kd.R_far (p := ⟨gb238, 0, none⟩) (Kd.qi1 HO237.out BK238.out (by decide)) (fun _ hk => hk.2) (.slice Ao27 t232.length co27)) (fun _ hk => hk.2) (.slice Ao30 t235.length co30)) (fun _ h_ => h_.1)))); (case side4 => exact (Kd.qz0 HO237.out).2.1); rintro e w31 ⟨rfl, hb⟩; refine ⟨_, rfl, ?_⟩; have n0_ := Aside0.mk (Kd.R_below (by (with_reducible repeat (first | apply Kd.qq0 | apply Kd.qp0 | apply Kd.qt0)); exact (Kd.qm1 (Kd.R_far (p := ⟨gb238, 1, none⟩) (Kd.R_far (p := ⟨gb238, 0, none⟩) (Kd.qi1 HO227.out BK238.out (by decide)) (fun _ hk => hk.2) (.slice Ao27 t232.length co27)) (fun _ hk => hk.2) (.slice Ao30 t235.length co30)) (fun _ h_ => h_.1))) hb); have n1_ := Aside0.mk (Kd.R_below (by (with_reducible repeat (first | apply Kd.qq0 | apply Kd.qp0 | apply Kd.qt0)); exact (Kd.qm1 (Kd.R_far (p := ⟨gb238, 1, none⟩) (Kd.R_far (p := ⟨gb238, 0, none⟩) (Kd.qi1 HO230.out BK238.out (by decide)) (fun _ hk => hk.2) (.slice Ao27 t232.length co27)) (fun _ hk => hk.2) (.slice Ao30 t235.length co30)) (fun _ h_ => h_.1))) hb); have n2_ := Aside0.mk (Kd.R_below (by (with_reducible repeat (first | apply Kd.qq0 | apply Kd.qp0 | apply Kd.qt0)); exact (Kd.qm1 (Kd.R_far (p := ⟨gb238, 1, none⟩) (Kd.R_far (p := ⟨gb238, 0, none⟩) (Kd.qi1 HO234.out BK238.out (by decide)) (fun _ hk => hk.2) (.slice Ao27 t232.length co27)) (fun _ hk => hk.2) (.slice Ao30 t235.length co30)) (fun _ h_ => h_.1))) hb); have n3_ := Aside0.mk (Kd.R_below (by (with_reducible repeat (first | apply Kd.qq0 | apply Kd.qp0 | apply Kd.qt0)); exact (Kd.qm1 (Kd.R_far (p := ⟨gb238, 1, none⟩) (Kd.R_far (p := ⟨gb238, 0, none⟩) (Kd.qi1 HO237.out BK238.out (by decide)) (fun _ hk => hk.2) (.slice Ao27 t232.length co27)) (fun _ hk => hk.2) (.slice Ao30 t235.length co30)) (fun _ h_ => h_.1))) hb); have n4_ := Aside0.mk (qm0 (g := gb223) (o := .cells #[.slice A0_0 l0_0.length c0_0, .slice A0_1 l0_1.length c0_1] 36 (0, 0)) (by (with_reducible repeat (first | refine qd0 ?_ _ | refine qh0 ?_ | refine qe0 ?_ _)); refine qw0 ?_ NB223_238.out _; (with_reducible repeat (first | refine qd0 ?_ _ | refine qh0 ?_ | refine qe0 ?_ _)); refine qw0 ?_ NB223_238.out _; (with_reducible repeat (first | refine qd0 ?_ _ | refine qh0 ?_ | refine qe0 ?_ _)); exact BK223.out) hb); have n5_ := Aside0.mk (qm0 (g := gb238) (o := .cells #[.slice Ao27 t232.length co27, .slice Ao30 t235.length co30] 42 (0, 0)) (by (with_reducible repeat (first | refine qd0 ?_ _ | refine qh0 ?_ | refine qe0 ?_ _)); refine qx0 (cs := #[.slice Ao27 t232.length co27, .slice none 0 0]) ?_ 1 _ rfl; (with_reducible repeat (first | refine qd0 ?_ _ | refine qh0 ?_ | refine qe0 ?_ _)); refine qx0 (cs := #[.slice none 0 0, .slice none 0 0]) ?_ 0 _ rfl; (with_reducible repeat (first | refine qd0 ?_ _ | refine qh0 ?_ | refine qe0 ?_ _)); exact BK238.out) hb); have n6_ := Aside0.mk (ql0 (by repeat (first | (with_reducible first | exact HB.out | apply qc0 | apply qa0 | apply qb0 | refine qg0 ?_ GE223.out | refine qg0 ?_ GE238.out) | exact HB.out)) hb); clear HO227; clear HO230; clear HO234; clear HO237; clear BK223; clear BK238; clear HB; have HO227 := n0_; have HO230 := n1_; have HO234 := n2_; have HO237 := n3_; have BK223 := n4_; have BK238 := n5_; have HB := n6_; clear n0_ n1_ n2_ n3_ n4_ n5_ n6_; (try clear hb); (try clear hb2); (try clear hk); (try clear hi)))
   have n0_ := Aside0.mk (Kd.qt0 HO227.out)
   have n1_ := Aside0.mk (Kd.qt0 HO230.out)
   have n2_ := Aside0.mk (Kd.qt0 HO234.out)
   have n3_ := Aside0.mk (Kd.qt0 HO237.out)
   have n4_ := Aside0.mk (qh0 BK223.out)
   have n5_ := Aside0.mk (qh0 BK238.out)
   have n6_ := Aside0.mk (qb0 HB.out)
   clear HO227
   clear HO230
   clear HO234
   clear HO237
   clear BK223
   clear BK238
   clear HB
   have HO227 := n0_
   have HO230 := n1_
   have HO234 := n2_
   have HO237 := n3_
   have BK223 := n4_
   have BK238 := n5_
   have HB := n6_
   clear n0_ n1_ n2_ n3_ n4_ n5_ n6_
   refine qo1 (n := 5) (S := fun w' => w'.cell? ⟨gb238, 0, none⟩ = some (.slice Ao27 t232.length co27) ∧ w'.cell? ⟨gb238, 1, none⟩ = some (.slice Ao30 t235.length co30) ∧ w'.cell? ⟨gb223, 0, none⟩ = some (.slice A0_0 l0_0.length c0_0) ∧ w'.cell? ⟨gb223, 1, none⟩ = some (.slice A0_1 l0_1.length c0_1)) (ds := []) #[false, false, false, false, false] (by kernel_rfl) rfl rfl ⟨(qf0 BK238.out 0).trans rfl, (qf0 BK238.out 1).trans rfl, (qf0 BK223.out 0).trans rfl, (qf0 BK223.out 1).trans rfl⟩ (fun hHeld => ?_)
   generalize w31.drew = w32 at HO227 HO230 HO234 HO237 BK223 BK238 HB hHeld ⊢
   refine take_ (i := 0) (N := some 26) (v := ?_) (a' := ?_) #[true, false, false, false, false] rfl rfl (by kernel_rfl) (fun _ _ _ h => h) (Or.inl ⟨by rfl, ?_⟩) hHeld ?_ ?_
   rotate_left
   ·rintro w' ⟨s0, s1, s2, s3⟩
    go_simp
    with_reducible rfl
   rotate_left
   ·simp only [Act.put, List.setIfInBounds_toArray, List.set_cons_zero, List.set_cons_succ, i64_w, i32_w]
    rfl
   refine take_ (i := 1) (N := some 27) (v := ?_) (a' := ?_) #[true, true, false, false, false] rfl rfl (by kernel_rfl) (fun _ _ _ h => h) (Or.inl ⟨by rfl, ?_⟩) hHeld ?_ ?_
   rotate_left
   ·rintro w' ⟨s0, s1, s2, s3⟩
    go_simp
    with_reducible rfl
   rotate_left
   ·simp only [Act.put, List.setIfInBounds_toArray, List.set_cons_zero, List.set_cons_succ, i64_w, i32_w]
    rfl
   refine one_ (i := 2) (N := some 28) #[true, true, true, false, false] rfl rfl (by kernel_rfl) (by decide) (fun K hK => ?_)
   refine goes_ Try.func23 (by kernel_rfl) rfl #[.agg #[.slice A0_0 l0_0.length c0_0, .slice A0_1 l0_1.length c0_1]] (by rfl) rfl rfl (by (try simp only [List.map_toArray, List.map_cons, List.map_nil]); first | done | rfl | (simp only [List.length_drop, List.length_take]; rfl)) ?_
   with_reducible refine (laws_toRegister.calls k _ _ l0_0 _ _ l0_1 t240 t243 _ ?side1 ?side2 ?side3 ?side4 A13.out).mono ?_
   (case side1 => repeat (first | exact (Kd.qy0 HR0_0.out HB.out) | (with_reducible refine Kd.qv0 ?_ _) | (with_reducible refine Kd.qu0 ?_ _) | (with_reducible refine Kd.qa1 ?_)))
   (case side2 => exact HC0_0.out)
   (case side3 => repeat (first | exact (Kd.qy0 HR0_1.out HB.out) | (with_reducible refine Kd.qv0 ?_ _) | (with_reducible refine Kd.qu0 ?_ _) | (with_reducible refine Kd.qa1 ?_)))
   (case side4 => exact HC0_1.out)
   rintro e w33 ⟨v241, v244, rfl, ho0, ho1, hb⟩
   refine ⟨_, rfl, ?_⟩
   have n0_ := Aside0.mk (Kd.R_elder' (by (with_reducible repeat (first | apply Kd.qq0 | apply Kd.qp0 | apply Kd.qt0)); exact HO227.out) (Kd.R_base ho0) hb)
   have n1_ := Aside0.mk (Kd.R_elder' (by (with_reducible repeat (first | apply Kd.qq0 | apply Kd.qp0 | apply Kd.qt0)); exact HO230.out) (Kd.R_base ho1) hb)
   have n2_ := Aside0.mk (Kd.R_elder' (by (with_reducible repeat (first | apply Kd.qq0 | apply Kd.qp0 | apply Kd.qt0)); exact HO234.out) (Kd.R_base ho0) hb)
   have n3_ := Aside0.mk (Kd.R_elder' (by (with_reducible repeat (first | apply Kd.qq0 | apply Kd.qp0 | apply Kd.qt0)); exact HO237.out) (Kd.R_base ho1) hb)
   have n4_ := Aside0.mk (Kd.qj1 (Kd.R_new' (Kd.R_new' ho0 (Kd.R_lt (by (with_reducible repeat (first | apply Kd.qq0 | apply Kd.qp0 | apply Kd.qt0)); exact HO227.out))) (Kd.R_lt (by (with_reducible repeat (first | apply Kd.qq0 | apply Kd.qp0 | apply Kd.qt0)); exact HO234.out))) (qk0 (by repeat (first | (with_reducible first | exact HB.out | apply qc0 | apply qa0 | apply qb0 | refine qg0 ?_ GE223.out | refine qg0 ?_ GE238.out) | exact HB.out))))
   have n5_ := Aside0.mk (Kd.qj1 (Kd.R_new' (Kd.R_new' ho1 (Kd.R_lt (by (with_reducible repeat (first | apply Kd.qq0 | apply Kd.qp0 | apply Kd.qt0)); exact HO230.out))) (Kd.R_lt (by (with_reducible repeat (first | apply Kd.qq0 | apply Kd.qp0 | apply Kd.qt0)); exact HO237.out))) (qk0 (by repeat (first | (with_reducible first | exact HB.out | apply qc0 | apply qa0 | apply qb0 | refine qg0 ?_ GE223.out | refine qg0 ?_ GE238.out) | exact HB.out))))
   have n6_ := Aside0.mk (qm0 (g := gb223) (o := .cells #[.slice A0_0 l0_0.length c0_0, .slice A0_1 l0_1.length c0_1] 36 (0, 0)) (by (with_reducible repeat (first | refine qd0 ?_ _ | refine qh0 ?_ | refine qe0 ?_ _)); exact BK223.out) hb)
   have n7_ := Aside0.mk (qm0 (g := gb238) (o := .cells #[.slice Ao27 t232.length co27, .slice Ao30 t235.length co30] 42 (0, 0)) (by (with_reducible repeat (first | refine qd0 ?_ _ | refine qh0 ?_ | refine qe0 ?_ _)); exact BK238.out) hb)
   have n8_ := Aside0.mk (ql0 (by repeat (first | (with_reducible first | exact HB.out | apply qc0 | apply qa0 | apply qb0 | refine qg0 ?_ GE223.out | refine qg0 ?_ GE238.out) | exact HB.out)) hb)
   clear HO227
   clear HO230
   clear HO234
   clear HO237
   clear BK223
   clear BK238
   clear HB
   have HO227 := n0_
   have HO230 := n1_
   have HO234 := n2_
   have HO237 := n3_
   have HO242 := n4_
   have HO245 := n5_
   have BK223 := n6_
   have BK238 := n7_
   have HB := n8_
   clear n0_ n1_ n2_ n3_ n4_ n5_ n6_ n7_ n8_
   (try clear hb)
   (try clear hb2)
   (try clear hk)
   (try clear hi)
   (try clear ho0)
   (try clear ho1)
   obtain ⟨Ao34, co34, eo34⟩ := Kd.R_slice HO242.out
   (first | subst eo34 | (injection eo34 with f1_ f2_ f3_; have f4_ := f1_.symm; have f5_ := f3_.symm; clear f1_ f2_ f3_; subst f4_; subst f5_))
   obtain ⟨Ao35, co35, eo35⟩ := Kd.R_slice HO245.out
   (first | subst eo35 | (injection eo35 with f1_ f2_ f3_; have f4_ := f1_.symm; have f5_ := f3_.symm; clear f1_ f2_ f3_; subst f4_; subst f5_))
   refine hK.out _ _ ⟨(qf0 BK238.out 0).trans rfl, (qf0 BK238.out 1).trans rfl, (qf0 BK223.out 0).trans rfl, (qf0 BK223.out 1).trans rfl⟩ (fun hHeld => ?_)
   clear hK K
   refine norm_ (a' := ?_) ?_ ?_
   rotate_left
   ·show Act.put _ (some 28) _ = _
    simp only [Act.put, List.setIfInBounds_toArray, List.set_cons_zero, List.set_cons_succ, i64_w, i32_w]
    rfl
   refine one_ (i := 3) (N := some 29) #[true, true, true, true, false] rfl rfl (by kernel_rfl) (by decide) (fun K hK => ?_)
   refine goes_ Try.func25 (by kernel_rfl) rfl #[.agg #[.slice Ao27 t232.length co27, .slice Ao30 t235.length co30], .agg #[.slice Ao34 t240.length co34, .slice Ao35 t243.length co35]] (by rfl) rfl rfl (by (try simp only [List.map_toArray, List.map_cons, List.map_nil]); first | done | rfl | (simp only [List.length_drop, List.length_take]; rfl)) ?_
   with_reducible refine (laws_eqRegister.calls k _ _ t232 _ _ t235 _ _ t240 _ _ t243 true _ ?side1 ?side2 ?side3 ?side4 ?side5 ?side6 ?side7 ?side8 A14.out).mono ?_
   (case side1 => repeat (first | exact (Kd.qz0 HO234.out).2.2 | (with_reducible refine Kd.qv0 ?_ _) | (with_reducible refine Kd.qu0 ?_ _) | (with_reducible refine Kd.qa1 ?_)))
   (case side2 => exact (Kd.qz0 HO234.out).2.1)
   (case side3 => repeat (first | exact (Kd.qz0 HO237.out).2.2 | (with_reducible refine Kd.qv0 ?_ _) | (with_reducible refine Kd.qu0 ?_ _) | (with_reducible refine Kd.qa1 ?_)))
   (case side4 => exact (Kd.qz0 HO237.out).2.1)
   (case side5 => repeat (first | exact (Kd.qz0 HO242.out).2.2 | (with_reducible refine Kd.qv0 ?_ _) | (with_reducible refine Kd.qu0 ?_ _) | (with_reducible refine Kd.qa1 ?_)))
   (case side6 => exact (Kd.qz0 HO242.out).2.1)
   (case side7 => repeat (first | exact (Kd.qz0 HO245.out).2.2 | (with_reducible refine Kd.qv0 ?_ _) | (with_reducible refine Kd.qu0 ?_ _) | (with_reducible refine Kd.qa1 ?_)))
   (case side8 => exact (Kd.qz0 HO245.out).2.1)
   rintro e w36 ⟨rfl, hb⟩
   refine ⟨_, rfl, ?_⟩
   have n0_ := Aside0.mk (Kd.R_below (by (with_reducible repeat (first | apply Kd.qq0 | apply Kd.qp0 | apply Kd.qt0)); exact HO227.out) hb)
   have n1_ := Aside0.mk (Kd.R_below (by (with_reducible repeat (first | apply Kd.qq0 | apply Kd.qp0 | apply Kd.qt0)); exact HO230.out) hb)
   have n2_ := Aside0.mk (Kd.R_below (by (with_reducible repeat (first | apply Kd.qq0 | apply Kd.qp0 | apply Kd.qt0)); exact HO234.out) hb)
   have n3_ := Aside0.mk (Kd.R_below (by (with_reducible repeat (first | apply Kd.qq0 | apply Kd.qp0 | apply Kd.qt0)); exact HO237.out) hb)
   have n4_ := Aside0.mk (Kd.R_below (by (with_reducible repeat (first | apply Kd.qq0 | apply Kd.qp0 | apply Kd.qt0)); exact HO242.out) hb)
   have n5_ := Aside0.mk (Kd.R_below (by (with_reducible repeat (first | apply Kd.qq0 | apply Kd.qp0 | apply Kd.qt0)); exact HO245.out) hb)
   have n6_ := Aside0.mk (qm0 (g := gb223) (o := .cells #[.slice A0_0 l0_0.length c0_0, .slice A0_1 l0_1.length c0_1] 36 (0, 0)) (by (with_reducible repeat (first | refine qd0 ?_ _ | refine qh0 ?_ | refine qe0 ?_ _)); exact BK223.out) hb)
   have n7_ := Aside0.mk (qm0 (g := gb238) (o := .cells #[.slice Ao27 t232.length co27, .slice Ao30 t235.length co30] 42 (0, 0)) (by (with_reducible repeat (first | refine qd0 ?_ _ | refine qh0 ?_ | refine qe0 ?_ _)); exact BK238.out) hb)
   have n8_ := Aside0.mk (ql0 (by repeat (first | (with_reducible first | exact HB.out | apply qc0 | apply qa0 | apply qb0 | refine qg0 ?_ GE223.out | refine qg0 ?_ GE238.out) | exact HB.out)) hb)
   clear HO227
   clear HO230
   clear HO234
   clear HO237
   clear HO242
   clear HO245
   clear BK223
   clear BK238
   clear HB
   have HO227 := n0_
   have HO230 := n1_
   have HO234 := n2_
   have HO237 := n3_
   have HO242 := n4_
   have HO245 := n5_
   have BK223 := n6_
   have BK238 := n7_
   have HB := n8_
   clear n0_ n1_ n2_ n3_ n4_ n5_ n6_ n7_ n8_
   (try clear hb)
   (try clear hb2)
   (try clear hk)
   (try clear hi)
   refine hK.out _ _ ⟨(qf0 BK238.out 0).trans rfl, (qf0 BK238.out 1).trans rfl, (qf0 BK223.out 0).trans rfl, (qf0 BK223.out 1).trans rfl⟩ (fun hHeld => ?_)
   clear hK K
   refine norm_ (a' := ?_) ?_ ?_
   rotate_left
   ·show Act.put _ (some 29) _ = _
    simp only [Act.put, List.setIfInBounds_toArray, List.set_cons_zero, List.set_cons_succ, i64_w, i32_w]
    rfl
   refine pure_ (i := 4) (N := some 30) (v := ?_) (a' := ?_) #[true, true, true, true, true] rfl rfl (by kernel_rfl) (fun _ _ _ h => h) (Or.inl ⟨by rfl, ?_⟩) ?_ ?_
   rotate_left
   ·intro w'
    go_simp
    with_reducible rfl
   rotate_left
   ·simp only [Act.put, List.setIfInBounds_toArray, List.set_cons_zero, List.set_cons_succ, i64_w, i32_w]
    rfl
   refine done_ (by kernel_rfl) ?_
   try go_wp2
   go_ret
   exact ⟨by first | rfl | (simp [errW_none, errW_some] <;> rfl) | (simp [*, errW_none, errW_some] <;> rfl), by repeat (first | (with_reducible first | exact HB.out | apply qc0 | apply qa0 | apply qb0 | refine qg0 ?_ GE223.out | refine qg0 ?_ GE238.out) | exact HB.out)⟩
  replace c15 := Bool.eq_false_iff.mpr c15
  subst c15
  have H1 : (some false) = some r := by rw [if_neg (show ¬ (false = true) by decide)] at H; exact H
  clear H
  have H := H1
  clear H1
  obtain rfl := Option.some.inj H
  go_enter Try.func5, Try.ntmps5
  try go_wp2_with (first | ((with_reducible refine qs0 (N := 2) rfl ?_); refine qr0 ?hg (N := 2) ?hd (cs := #[.slice A0_0 l0_0.length c0_0, .slice A0_1 l0_1.length c0_1]) (t := 36) ?hr ?_; (case hd => rfl); (case hg => rfl); (case hr => first | (go_simp; done) | (go_simp; rfl)); intro gb223 hg w37 hbox hb; have n0_ := Aside0.mk (ql0 (by repeat (first | (with_reducible first | exact HB.out | apply qc0 | apply qa0 | apply qb0) | exact HB.out)) hb); have n1_ := Aside0.mk (hbox); have n2_ := Aside0.mk ((by rw [hg]; exact (qk0 (by repeat (first | (with_reducible first | exact HB.out | apply qc0 | apply qa0 | apply qb0) | exact HB.out))) : w.heap.size ≤ gb223)); have n3_ := Aside0.mk ((by rw [hg]; exact (qk0 (by repeat (first | (with_reducible first | exact HB.out | apply qc0 | apply qa0 | apply qb0) | exact HB.out))) : w.heap.size ≤ gb223)); clear HB; have HB := n0_; have BK223 := n1_; have GW223 := n2_; have GE223 := n3_; clear n0_ n1_ n2_ n3_; clear hb hbox hg; have hcz38_0 : w37.cell? ⟨gb223, 0, none⟩ = some (.slice A0_0 l0_0.length c0_0) := (qf0 BK223.out 0).trans rfl; have hcz38_1 : w37.cell? ⟨gb223, 1, none⟩ = some (.slice A0_1 l0_1.length c0_1) := (qf0 BK223.out 1).trans rfl; have hfz38_0 := qi0 BK223.out 0; have hfz38_1 := qi0 BK223.out 1) | ((with_reducible refine qn0 (f := 21) rfl ?_); refine qe1 (some 11) rfl rfl Try.func21 (by kernel_rfl) rfl #[.agg #[.slice A0_0 l0_0.length c0_0, .slice A0_1 l0_1.length c0_1], .int .i64 1048576] rfl (by (try simp only [List.map_toArray, List.map_cons, List.map_nil]); first | done | rfl | (simp only [List.length_drop, List.length_take]; rfl)) ?_; (with_reducible refine (laws_szRegister.calls k _ _ l0_0 _ _ l0_1 1048576 t224 _ ?side1 ?side2 ?side3 ?side4 A3.out).mono ?_); (case side1 => repeat (first | exact (Kd.qy0 HR0_0.out HB.out) | (with_reducible refine Kd.qv0 ?_ _) | (with_reducible refine Kd.qu0 ?_ _) | (with_reducible refine Kd.qa1 ?_))); (case side2 => exact HC0_0.out); (case side3 => repeat (first | exact (Kd.qy0 HR0_1.out HB.out) | (with_reducible refine Kd.qv0 ?_ _) | (with_reducible refine Kd.qu0 ?_ _) | (with_reducible refine Kd.qa1 ?_))); (case side4 => exact HC0_1.out); rintro e w39 ⟨rfl, hb⟩; refine ⟨_, rfl, ?_⟩; have n0_ := Aside0.mk (qm0 (g := gb223) (o := .cells #[.slice A0_0 l0_0.length c0_0, .slice A0_1 l0_1.length c0_1] 36 (0, 0)) (by (with_reducible repeat (first | refine qd0 ?_ _ | refine qh0 ?_ | refine qe0 ?_ _)); exact BK223.out) hb); have n1_ := Aside0.mk (ql0 (by repeat (first | (with_reducible first | exact HB.out | apply qc0 | apply qa0 | apply qb0 | refine qg0 ?_ GE223.out) | exact HB.out)) hb); clear BK223; clear HB; have BK223 := n0_; have HB := n1_; clear n0_ n1_; (try clear hb); (try clear hb2); (try clear hk); (try clear hi); have hcz40_0 : w39.cell? ⟨gb223, 0, none⟩ = some (.slice A0_0 l0_0.length c0_0) := (qf0 BK223.out 0).trans rfl; have hcz40_1 : w39.cell? ⟨gb223, 1, none⟩ = some (.slice A0_1 l0_1.length c0_1) := (qf0 BK223.out 1).trans rfl; have hfz40_0 := qi0 BK223.out 0; have hfz40_1 := qi0 BK223.out 1) | ((with_reducible refine qn0 (f := 23) rfl ?_); refine qe1 (some 15) rfl rfl Try.func23 (by kernel_rfl) rfl #[.agg #[.slice A0_0 l0_0.length c0_0, .slice A0_1 l0_1.length c0_1]] rfl (by (try simp only [List.map_toArray, List.map_cons, List.map_nil]); first | done | rfl | (simp only [List.length_drop, List.length_take]; rfl)) ?_; (with_reducible refine (laws_toRegister.calls k _ _ l0_0 _ _ l0_1 t225 t228 _ ?side1 ?side2 ?side3 ?side4 A8.out).mono ?_); (case side1 => repeat (first | exact (Kd.qy0 HR0_0.out HB.out) | (with_reducible refine Kd.qv0 ?_ _) | (with_reducible refine Kd.qu0 ?_ _) | (with_reducible refine Kd.qa1 ?_))); (case side2 => exact HC0_0.out); (case side3 => repeat (first | exact (Kd.qy0 HR0_1.out HB.out) | (with_reducible refine Kd.qv0 ?_ _) | (with_reducible refine Kd.qu0 ?_ _) | (with_reducible refine Kd.qa1 ?_))); (case side4 => exact HC0_1.out); rintro e w41 ⟨v226, v229, rfl, ho0, ho1, hb⟩; refine ⟨_, rfl, ?_⟩; have n0_ := Aside0.mk (Kd.qj1 ho0 (qk0 (by repeat (first | (with_reducible first | exact HB.out | apply qc0 | apply qa0 | apply qb0 | refine qg0 ?_ GE223.out) | exact HB.out)))); have n1_ := Aside0.mk (Kd.qj1 ho1 (qk0 (by repeat (first | (with_reducible first | exact HB.out | apply qc0 | apply qa0 | apply qb0 | refine qg0 ?_ GE223.out) | exact HB.out)))); have n2_ := Aside0.mk (qm0 (g := gb223) (o := .cells #[.slice A0_0 l0_0.length c0_0, .slice A0_1 l0_1.length c0_1] 36 (0, 0)) (by (with_reducible repeat (first | refine qd0 ?_ _ | refine qh0 ?_ | refine qe0 ?_ _)); exact BK223.out) hb); have n3_ := Aside0.mk (ql0 (by repeat (first | (with_reducible first | exact HB.out | apply qc0 | apply qa0 | apply qb0 | refine qg0 ?_ GE223.out) | exact HB.out)) hb); clear BK223; clear HB; have HO227 := n0_; have HO230 := n1_; have BK223 := n2_; have HB := n3_; clear n0_ n1_ n2_ n3_; (try clear hb); (try clear hb2); (try clear hk); (try clear hi); (try clear ho0); (try clear ho1); obtain ⟨Ao42, co42, eo42⟩ := Kd.R_slice HO227.out; subst eo42; obtain ⟨Ao43, co43, eo43⟩ := Kd.R_slice HO230.out; subst eo43) | ((with_reducible refine qn0 (f := 26) rfl ?_); refine qe1 (some 17) rfl rfl Try.func26 (by kernel_rfl) rfl #[.agg #[.slice Ao42 t225.length co42, .slice Ao43 t228.length co43], .int .i64 a1] rfl (by (try simp only [List.map_toArray, List.map_cons, List.map_nil]); first | done | rfl | (simp only [List.length_drop, List.length_take]; rfl)) ?_; (with_reducible refine (spec_ShowPaper.calls k _ _ t225 _ _ t228 a1 t231 _ ?side1 ?side2 ?side3 ?side4 A9.out).mono ?_); (case side1 => repeat (first | exact (Kd.qz0 HO227.out).2.2 | (with_reducible refine Kd.qv0 ?_ _) | (with_reducible refine Kd.qu0 ?_ _) | (with_reducible refine Kd.qa1 ?_))); (case side2 => exact (Kd.qz0 HO227.out).2.1); (case side3 => repeat (first | exact (Kd.qz0 HO230.out).2.2 | (with_reducible refine Kd.qv0 ?_ _) | (with_reducible refine Kd.qu0 ?_ _) | (with_reducible refine Kd.qa1 ?_))); (case side4 => exact (Kd.qz0 HO230.out).2.1); rintro e w44 ⟨rfl, hb⟩; refine ⟨_, rfl, ?_⟩; have n0_ := Aside0.mk (Kd.R_below (by (with_reducible repeat (first | apply Kd.qq0 | apply Kd.qp0 | apply Kd.qt0)); exact HO227.out) hb); have n1_ := Aside0.mk (Kd.R_below (by (with_reducible repeat (first | apply Kd.qq0 | apply Kd.qp0 | apply Kd.qt0)); exact HO230.out) hb); have n2_ := Aside0.mk (qm0 (g := gb223) (o := .cells #[.slice A0_0 l0_0.length c0_0, .slice A0_1 l0_1.length c0_1] 36 (0, 0)) (by (with_reducible repeat (first | refine qd0 ?_ _ | refine qh0 ?_ | refine qe0 ?_ _)); exact BK223.out) hb); have n3_ := Aside0.mk (ql0 (by repeat (first | (with_reducible first | exact HB.out | apply qc0 | apply qa0 | apply qb0 | refine qg0 ?_ GE223.out) | exact HB.out)) hb); clear HO227; clear HO230; clear BK223; clear HB; have HO227 := n0_; have HO230 := n1_; have BK223 := n2_; have HB := n3_; clear n0_ n1_ n2_ n3_; (try clear hb); (try clear hb2); (try clear hk); (try clear hi); have hcz45_0 : w44.cell? ⟨gb223, 0, none⟩ = some (.slice A0_0 l0_0.length c0_0) := (qf0 BK223.out 0).trans rfl; have hcz45_1 : w44.cell? ⟨gb223, 1, none⟩ = some (.slice A0_1 l0_1.length c0_1) := (qf0 BK223.out 1).trans rfl; have hfz45_0 := qi0 BK223.out 0; have hfz45_1 := qi0 BK223.out 1) | ((with_reducible refine qn0 (f := 23) rfl ?_); refine qe1 (some 19) rfl rfl Try.func23 (by kernel_rfl) rfl #[.agg #[.slice A0_0 l0_0.length c0_0, .slice A0_1 l0_1.length c0_1]] rfl (by (try simp only [List.map_toArray, List.map_cons, List.map_nil]); first | done | rfl | (simp only [List.length_drop, List.length_take]; rfl)) ?_; (with_reducible refine (laws_toRegister.calls k _ _ l0_0 _ _ l0_1 t232 t235 _ ?side1 ?side2 ?side3 ?side4 A10.out).mono ?_); (case side1 => repeat (first | exact (Kd.qy0 HR0_0.out HB.out) | (with_reducible refine Kd.qv0 ?_ _) | (with_reducible refine Kd.qu0 ?_ _) | (with_reducible refine Kd.qa1 ?_))); (case side2 => exact HC0_0.out); (case side3 => repeat (first | exact (Kd.qy0 HR0_1.out HB.out) | (with_reducible refine Kd.qv0 ?_ _) | (with_reducible refine Kd.qu0 ?_ _) | (with_reducible refine Kd.qa1 ?_))); (case side4 => exact HC0_1.out); rintro e w46 ⟨v233, v236, rfl, ho0, ho1, hb⟩; refine ⟨_, rfl, ?_⟩; have n0_ := Aside0.mk (Kd.R_elder' (by (with_reducible repeat (first | apply Kd.qq0 | apply Kd.qp0 | apply Kd.qt0)); exact HO227.out) (Kd.R_base ho0) hb); have n1_ := Aside0.mk (Kd.R_elder' (by (with_reducible repeat (first | apply Kd.qq0 | apply Kd.qp0 | apply Kd.qt0)); exact HO230.out) (Kd.R_base ho1) hb); have n2_ := Aside0.mk (Kd.qj1 (Kd.R_new' ho0 (Kd.R_lt (by (with_reducible repeat (first | apply Kd.qq0 | apply Kd.qp0 | apply Kd.qt0)); exact HO227.out))) (qk0 (by repeat (first | (with_reducible first | exact HB.out | apply qc0 | apply qa0 | apply qb0 | refine qg0 ?_ GE223.out) | exact HB.out)))); have n3_ := Aside0.mk (Kd.qj1 (Kd.R_new' ho1 (Kd.R_lt (by (with_reducible repeat (first | apply Kd.qq0 | apply Kd.qp0 | apply Kd.qt0)); exact HO230.out))) (qk0 (by repeat (first | (with_reducible first | exact HB.out | apply qc0 | apply qa0 | apply qb0 | refine qg0 ?_ GE223.out) | exact HB.out)))); have n4_ := Aside0.mk (qm0 (g := gb223) (o := .cells #[.slice A0_0 l0_0.length c0_0, .slice A0_1 l0_1.length c0_1] 36 (0, 0)) (by (with_reducible repeat (first | refine qd0 ?_ _ | refine qh0 ?_ | refine qe0 ?_ _)); exact BK223.out) hb); have n5_ := Aside0.mk (ql0 (by repeat (first | (with_reducible first | exact HB.out | apply qc0 | apply qa0 | apply qb0 | refine qg0 ?_ GE223.out) | exact HB.out)) hb); clear HO227; clear HO230; clear BK223; clear HB; have HO227 := n0_; have HO230 := n1_; have HO234 := n2_; have HO237 := n3_; have BK223 := n4_; have HB := n5_; clear n0_ n1_ n2_ n3_ n4_ n5_; (try clear hb); (try clear hb2); (try clear hk); (try clear hi); (try clear ho0); (try clear ho1)) | ((with_reducible refine qs0 (N := 7) rfl ?_); refine qr0 ?hg (N := 7) ?hd (cs := #[.slice none 0 0, .slice none 0 0]) (t := 42) ?hr ?_; (case hd => rfl); (case hg => rfl); (case hr => first | (go_simp; done) | (go_simp; rfl)); intro gb238 hg w47 hbox hb; have n0_ := Aside0.mk (Kd.R_below (by (with_reducible repeat (first | apply Kd.qq0 | apply Kd.qp0 | apply Kd.qt0)); exact HO227.out) hb); have n1_ := Aside0.mk (Kd.R_below (by (with_reducible repeat (first | apply Kd.qq0 | apply Kd.qp0 | apply Kd.qt0)); exact HO230.out) hb); have n2_ := Aside0.mk (Kd.R_below (by (with_reducible repeat (first | apply Kd.qq0 | apply Kd.qp0 | apply Kd.qt0)); exact HO234.out) hb); have n3_ := Aside0.mk (Kd.R_below (by (with_reducible repeat (first | apply Kd.qq0 | apply Kd.qp0 | apply Kd.qt0)); exact HO237.out) hb); have n4_ := Aside0.mk (qm0 (g := gb223) (o := .cells #[.slice A0_0 l0_0.length c0_0, .slice A0_1 l0_1.length c0_1] 36 (0, 0)) (by (with_reducible repeat (first | refine qd0 ?_ _ | refine qh0 ?_ | refine qe0 ?_ _)); exact BK223.out) hb); have n5_ := Aside0.mk (ql0 (by repeat (first | (with_reducible first | exact HB.out | apply qc0 | apply qa0 | apply qb0 | refine qg0 ?_ GE223.out) | exact HB.out)) hb); have n6_ := Aside0.mk (hbox); have n7_ := Aside0.mk ((by rw [hg]; exact (qk0 (by repeat (first | (with_reducible first | exact HB.out | apply qc0 | apply qa0 | apply qb0 | refine qg0 ?_ GE223.out) | exact HB.out))) : w.heap.size ≤ gb238)); have n8_ := Aside0.mk ((by rw [hg]; exact (qk0 (by repeat (first | (with_reducible first | exact HB.out | apply qc0 | apply qa0 | apply qb0 | refine qg0 ?_ GE223.out) | exact HB.out))) : w.heap.size ≤ gb238)); have n9_ := Aside0.mk ((by rw [hg]; exact Nat.ne_of_lt (qb1 (g := gb223) (o := .cells #[.slice A0_0 l0_0.length c0_0, .slice A0_1 l0_1.length c0_1] 36 (0, 0)) (by (with_reducible repeat (first | refine qd0 ?_ _ | refine qh0 ?_ | refine qe0 ?_ _)); exact BK223.out)) : gb223 ≠ gb238)); have n10_ := Aside0.mk ((by rw [hg]; exact Nat.ne_of_gt (qb1 (g := gb223) (o := .cells #[.slice A0_0 l0_0.length c0_0, .slice A0_1 l0_1.length c0_1] 36 (0, 0)) (by (with_reducible repeat (first | refine qd0 ?_ _ | refine qh0 ?_ | refine qe0 ?_ _)); exact BK223.out)) : gb238 ≠ gb223)); clear HO227; clear HO230; clear HO234; clear HO237; clear BK223; clear HB; have HO227 := n0_; have HO230 := n1_; have HO234 := n2_; have HO237 := n3_; have BK223 := n4_; have HB := n5_; have BK238 := n6_; have GW238 := n7_; have GE238 := n8_; have NB223_238 := n9_; have NB238_223 := n10_; clear n0_ n1_ n2_ n3_ n4_ n5_ n6_ n7_ n8_ n9_ n10_; clear hb hbox hg; obtain ⟨Ao48, co48, eo48⟩ := Kd.R_slice HO234.out; subst eo48; have hnb49 := NB238_223.out; have hnc49 := NB223_238.out; have hcz50_0 : w47.cell? ⟨gb238, 0, none⟩ = some (.slice none 0 0) := (qf0 BK238.out 0).trans rfl; have hcz50_1 : w47.cell? ⟨gb238, 1, none⟩ = some (.slice none 0 0) := (qf0 BK238.out 1).trans rfl; have hfz50_0 := qi0 BK238.out 0; have hfz50_1 := qi0 BK238.out 1; obtain ⟨Ao51, co51, eo51⟩ := Kd.R_slice HO237.out; subst eo51) | ((with_reducible refine qn0 (f := 27) rfl ?_); refine qe1 (some 22) rfl rfl Try.func27 (by kernel_rfl) rfl #[.agg #[.slice Ao48 t232.length co48, .slice Ao51 t235.length co51], .int .i64 a1] rfl (by (try simp only [List.map_toArray, List.map_cons, List.map_nil]); first | done | rfl | (simp only [List.length_drop, List.length_take]; rfl)) ?_; (with_reducible refine (impl_ShowPaper.calls k _ _ t232 _ _ t235 a1 t239 _ ?side1 ?side2 ?side3 ?side4 A11.out).mono ?_); (case side1 => refine (Kd.qz0 (e := 122) (base := w.heap.size) (ok := fun k_ => (True ∧ some k_ ≠ (.slice Ao42 t225.length co42 : Value).ownBlock)) (n := t232.length) (c := co48) ?_).2.2; exact (by (with_reducible repeat (first | apply Kd.qq0 | apply Kd.qp0 | apply Kd.qt0)); exact (Kd.qm1 (Kd.R_far (p := ⟨gb238, 1, none⟩) (Kd.R_far (p := ⟨gb238, 0, none⟩) (Kd.qi1 HO234.out BK238.out (by decide)) (fun _ hk => hk.2) (.slice Ao48 t232.length co48)) (fun _ hk => hk.2) (.slice Ao51 t235.length co51)) (fun _ h_ => h_.1)))); (case side2 => exact (Kd.qz0 HO234.out).2.1); (case side3 => refine (Kd.qz0 (e := 53) (base := w.heap.size) (ok := fun k_ => (True ∧ some k_ ≠ (.slice Ao43 t228.length co43 : Value).ownBlock)) (n := t235.length) (c := co51) ?_).2.2; exact (by (with_reducible repeat (first | apply Kd.qq0 | apply Kd.qp0 | apply Kd.qt0)); exact (Kd.qm1 (Kd.R_far (p := ⟨gb238, 1, none⟩) (Kd.R_far (p := ⟨gb238, 0, none⟩) (Kd.qi1 HO237.out BK238.out (by decide)) (fun _ hk => hk.2) (.slice Ao48 t232.length co48)) (fun _ hk => hk.2) (.slice Ao51 t235.length co51)) (fun _ h_ => h_.1)))); (case side4 => exact (Kd.qz0 HO237.out).2.1); rintro e w52 ⟨rfl, hb⟩; refine ⟨_, rfl, ?_⟩; have n0_ := Aside0.mk (Kd.R_below (by (with_reducible repeat (first | apply Kd.qq0 | apply Kd.qp0 | apply Kd.qt0)); exact (Kd.qm1 (Kd.R_far (p := ⟨gb238, 1, none⟩) (Kd.R_far (p := ⟨gb238, 0, none⟩) (Kd.qi1 HO227.out BK238.out (by decide)) (fun _ hk => hk.2) (.slice Ao48 t232.length co48)) (fun _ hk => hk.2) (.slice Ao51 t235.length co51)) (fun _ h_ => h_.1))) hb); have n1_ := Aside0.mk (Kd.R_below (by (with_reducible repeat (first | apply Kd.qq0 | apply Kd.qp0 | apply Kd.qt0)); exact (Kd.qm1 (Kd.R_far (p := ⟨gb238, 1, none⟩) (Kd.R_far (p := ⟨gb238, 0, none⟩) (Kd.qi1 HO230.out BK238.out (by decide)) (fun _ hk => hk.2) (.slice Ao48 t232.length co48)) (fun _ hk => hk.2) (.slice Ao51 t235.length co51)) (fun _ h_ => h_.1))) hb); have n2_ := Aside0.mk (Kd.R_below (by (with_reducible repeat (first | apply Kd.qq0 | apply Kd.qp0 | apply Kd.qt0)); exact (Kd.qm1 (Kd.R_far (p := ⟨gb238, 1, none⟩) (Kd.R_far (p := ⟨gb238, 0, none⟩) (Kd.qi1 HO234.out BK238.out (by decide)) (fun _ hk => hk.2) (.slice Ao48 t232.length co48)) (fun _ hk => hk.2) (.slice Ao51 t235.length co51)) (fun _ h_ => h_.1))) hb); have n3_ := Aside0.mk (Kd.R_below (by (with_reducible repeat (first | apply Kd.qq0 | apply Kd.qp0 | apply Kd.qt0)); exact (Kd.qm1 (Kd.R_far (p := ⟨gb238, 1, none⟩) (Kd.R_far (p := ⟨gb238, 0, none⟩) (Kd.qi1 HO237.out BK238.out (by decide)) (fun _ hk => hk.2) (.slice Ao48 t232.length co48)) (fun _ hk => hk.2) (.slice Ao51 t235.length co51)) (fun _ h_ => h_.1))) hb); have n4_ := Aside0.mk (qm0 (g := gb223) (o := .cells #[.slice A0_0 l0_0.length c0_0, .slice A0_1 l0_1.length c0_1] 36 (0, 0)) (by (with_reducible repeat (first | refine qd0 ?_ _ | refine qh0 ?_ | refine qe0 ?_ _)); refine qw0 ?_ NB223_238.out _; (with_reducible repeat (first | refine qd0 ?_ _ | refine qh0 ?_ | refine qe0 ?_ _)); refine qw0 ?_ NB223_238.out _; (with_reducible repeat (first | refine qd0 ?_ _ | refine qh0 ?_ | refine qe0 ?_ _)); exact BK223.out) hb); have n5_ := Aside0.mk (qm0 (g := gb238) (o := .cells #[.slice Ao48 t232.length co48, .slice Ao51 t235.length co51] 42 (0, 0)) (by (with_reducible repeat (first | refine qd0 ?_ _ | refine qh0 ?_ | refine qe0 ?_ _)); refine qx0 (cs := #[.slice Ao48 t232.length co48, .slice none 0 0]) ?_ 1 _ rfl; (with_reducible repeat (first | refine qd0 ?_ _ | refine qh0 ?_ | refine qe0 ?_ _)); refine qx0 (cs := #[.slice none 0 0, .slice none 0 0]) ?_ 0 _ rfl; (with_reducible repeat (first | refine qd0 ?_ _ | refine qh0 ?_ | refine qe0 ?_ _)); exact BK238.out) hb); have n6_ := Aside0.mk (ql0 (by repeat (first | (with_reducible first | exact HB.out | apply qc0 | apply qa0 | apply qb0 | refine qg0 ?_ GE223.out | refine qg0 ?_ GE238.out) | exact HB.out)) hb); clear HO227; clear HO230; clear HO234; clear HO237; clear BK223; clear BK238; clear HB; have HO227 := n0_; have HO230 := n1_; have HO234 := n2_; have HO237 := n3_; have BK223 := n4_; have BK238 := n5_; have HB := n6_; clear n0_ n1_ n2_ n3_ n4_ n5_ n6_; (try clear hb); (try clear hb2); (try clear hk); (try clear hi)))
  have n0_ := Aside0.mk (Kd.qt0 HO227.out)
  have n1_ := Aside0.mk (Kd.qt0 HO230.out)
  have n2_ := Aside0.mk (Kd.qt0 HO234.out)
  have n3_ := Aside0.mk (Kd.qt0 HO237.out)
  have n4_ := Aside0.mk (qh0 BK223.out)
  have n5_ := Aside0.mk (qh0 BK238.out)
  have n6_ := Aside0.mk (qb0 HB.out)
  clear HO227
  clear HO230
  clear HO234
  clear HO237
  clear BK223
  clear BK238
  clear HB
  have HO227 := n0_
  have HO230 := n1_
  have HO234 := n2_
  have HO237 := n3_
  have BK223 := n4_
  have BK238 := n5_
  have HB := n6_
  clear n0_ n1_ n2_ n3_ n4_ n5_ n6_
  refine qo1 (n := 5) (S := fun w' => w'.cell? ⟨gb238, 0, none⟩ = some (.slice Ao48 t232.length co48) ∧ w'.cell? ⟨gb238, 1, none⟩ = some (.slice Ao51 t235.length co51) ∧ w'.cell? ⟨gb223, 0, none⟩ = some (.slice A0_0 l0_0.length c0_0) ∧ w'.cell? ⟨gb223, 1, none⟩ = some (.slice A0_1 l0_1.length c0_1)) (ds := []) #[false, false, false, false, false] (by kernel_rfl) rfl rfl ⟨(qf0 BK238.out 0).trans rfl, (qf0 BK238.out 1).trans rfl, (qf0 BK223.out 0).trans rfl, (qf0 BK223.out 1).trans rfl⟩ (fun hHeld => ?_)
  generalize w52.drew = w53 at HO227 HO230 HO234 HO237 BK223 BK238 HB hHeld ⊢
  refine take_ (i := 0) (N := some 26) (v := ?_) (a' := ?_) #[true, false, false, false, false] rfl rfl (by kernel_rfl) (fun _ _ _ h => h) (Or.inl ⟨by rfl, ?_⟩) hHeld ?_ ?_
  rotate_left
  ·rintro w' ⟨s0, s1, s2, s3⟩
   go_simp
   with_reducible rfl
  rotate_left
  ·simp only [Act.put, List.setIfInBounds_toArray, List.set_cons_zero, List.set_cons_succ, i64_w, i32_w]
   rfl
  refine take_ (i := 1) (N := some 27) (v := ?_) (a' := ?_) #[true, true, false, false, false] rfl rfl (by kernel_rfl) (fun _ _ _ h => h) (Or.inl ⟨by rfl, ?_⟩) hHeld ?_ ?_
  rotate_left
  ·rintro w' ⟨s0, s1, s2, s3⟩
   go_simp
   with_reducible rfl
  rotate_left
  ·simp only [Act.put, List.setIfInBounds_toArray, List.set_cons_zero, List.set_cons_succ, i64_w, i32_w]
   rfl
  refine one_ (i := 2) (N := some 28) #[true, true, true, false, false] rfl rfl (by kernel_rfl) (by decide) (fun K hK => ?_)
  refine goes_ Try.func23 (by kernel_rfl) rfl #[.agg #[.slice A0_0 l0_0.length c0_0, .slice A0_1 l0_1.length c0_1]] (by rfl) rfl rfl (by (try simp only [List.map_toArray, List.map_cons, List.map_nil]); first | done | rfl | (simp only [List.length_drop, List.length_take]; rfl)) ?_
  with_reducible refine (laws_toRegister.calls k _ _ l0_0 _ _ l0_1 t240 t243 _ ?side1 ?side2 ?side3 ?side4 A13.out).mono ?_
  (case side1 => repeat (first | exact (Kd.qy0 HR0_0.out HB.out) | (with_reducible refine Kd.qv0 ?_ _) | (with_reducible refine Kd.qu0 ?_ _) | (with_reducible refine Kd.qa1 ?_)))
  (case side2 => exact HC0_0.out)
  (case side3 => repeat (first | exact (Kd.qy0 HR0_1.out HB.out) | (with_reducible refine Kd.qv0 ?_ _) | (with_reducible refine Kd.qu0 ?_ _) | (with_reducible refine Kd.qa1 ?_)))
  (case side4 => exact HC0_1.out)
  rintro e w54 ⟨v241, v244, rfl, ho0, ho1, hb⟩
  refine ⟨_, rfl, ?_⟩
  have n0_ := Aside0.mk (Kd.R_elder' (by (with_reducible repeat (first | apply Kd.qq0 | apply Kd.qp0 | apply Kd.qt0)); exact HO227.out) (Kd.R_base ho0) hb)
  have n1_ := Aside0.mk (Kd.R_elder' (by (with_reducible repeat (first | apply Kd.qq0 | apply Kd.qp0 | apply Kd.qt0)); exact HO230.out) (Kd.R_base ho1) hb)
  have n2_ := Aside0.mk (Kd.R_elder' (by (with_reducible repeat (first | apply Kd.qq0 | apply Kd.qp0 | apply Kd.qt0)); exact HO234.out) (Kd.R_base ho0) hb)
  have n3_ := Aside0.mk (Kd.R_elder' (by (with_reducible repeat (first | apply Kd.qq0 | apply Kd.qp0 | apply Kd.qt0)); exact HO237.out) (Kd.R_base ho1) hb)
  have n4_ := Aside0.mk (Kd.qj1 (Kd.R_new' (Kd.R_new' ho0 (Kd.R_lt (by (with_reducible repeat (first | apply Kd.qq0 | apply Kd.qp0 | apply Kd.qt0)); exact HO227.out))) (Kd.R_lt (by (with_reducible repeat (first | apply Kd.qq0 | apply Kd.qp0 | apply Kd.qt0)); exact HO234.out))) (qk0 (by repeat (first | (with_reducible first | exact HB.out | apply qc0 | apply qa0 | apply qb0 | refine qg0 ?_ GE223.out | refine qg0 ?_ GE238.out) | exact HB.out))))
  have n5_ := Aside0.mk (Kd.qj1 (Kd.R_new' (Kd.R_new' ho1 (Kd.R_lt (by (with_reducible repeat (first | apply Kd.qq0 | apply Kd.qp0 | apply Kd.qt0)); exact HO230.out))) (Kd.R_lt (by (with_reducible repeat (first | apply Kd.qq0 | apply Kd.qp0 | apply Kd.qt0)); exact HO237.out))) (qk0 (by repeat (first | (with_reducible first | exact HB.out | apply qc0 | apply qa0 | apply qb0 | refine qg0 ?_ GE223.out | refine qg0 ?_ GE238.out) | exact HB.out))))
  have n6_ := Aside0.mk (qm0 (g := gb223) (o := .cells #[.slice A0_0 l0_0.length c0_0, .slice A0_1 l0_1.length c0_1] 36 (0, 0)) (by (with_reducible repeat (first | refine qd0 ?_ _ | refine qh0 ?_ | refine qe0 ?_ _)); exact BK223.out) hb)
  have n7_ := Aside0.mk (qm0 (g := gb238) (o := .cells #[.slice Ao48 t232.length co48, .slice Ao51 t235.length co51] 42 (0, 0)) (by (with_reducible repeat (first | refine qd0 ?_ _ | refine qh0 ?_ | refine qe0 ?_ _)); exact BK238.out) hb)
  have n8_ := Aside0.mk (ql0 (by repeat (first | (with_reducible first | exact HB.out | apply qc0 | apply qa0 | apply qb0 | refine qg0 ?_ GE223.out | refine qg0 ?_ GE238.out) | exact HB.out)) hb)
  clear HO227
  clear HO230
  clear HO234
  clear HO237
  clear BK223
  clear BK238
  clear HB
  have HO227 := n0_
  have HO230 := n1_
  have HO234 := n2_
  have HO237 := n3_
  have HO242 := n4_
  have HO245 := n5_
  have BK223 := n6_
  have BK238 := n7_
  have HB := n8_
  clear n0_ n1_ n2_ n3_ n4_ n5_ n6_ n7_ n8_
  (try clear hb)
  (try clear hb2)
  (try clear hk)
  (try clear hi)
  (try clear ho0)
  (try clear ho1)
  obtain ⟨Ao55, co55, eo55⟩ := Kd.R_slice HO242.out
  (first | subst eo55 | (injection eo55 with f1_ f2_ f3_; have f4_ := f1_.symm; have f5_ := f3_.symm; clear f1_ f2_ f3_; subst f4_; subst f5_))
  obtain ⟨Ao56, co56, eo56⟩ := Kd.R_slice HO245.out
  (first | subst eo56 | (injection eo56 with f1_ f2_ f3_; have f4_ := f1_.symm; have f5_ := f3_.symm; clear f1_ f2_ f3_; subst f4_; subst f5_))
  refine hK.out _ _ ⟨(qf0 BK238.out 0).trans rfl, (qf0 BK238.out 1).trans rfl, (qf0 BK223.out 0).trans rfl, (qf0 BK223.out 1).trans rfl⟩ (fun hHeld => ?_)
  clear hK K
  refine norm_ (a' := ?_) ?_ ?_
  rotate_left
  ·show Act.put _ (some 28) _ = _
   simp only [Act.put, List.setIfInBounds_toArray, List.set_cons_zero, List.set_cons_succ, i64_w, i32_w]
   rfl
  refine one_ (i := 3) (N := some 29) #[true, true, true, true, false] rfl rfl (by kernel_rfl) (by decide) (fun K hK => ?_)
  refine goes_ Try.func25 (by kernel_rfl) rfl #[.agg #[.slice Ao48 t232.length co48, .slice Ao51 t235.length co51], .agg #[.slice Ao55 t240.length co55, .slice Ao56 t243.length co56]] (by rfl) rfl rfl (by (try simp only [List.map_toArray, List.map_cons, List.map_nil]); first | done | rfl | (simp only [List.length_drop, List.length_take]; rfl)) ?_
  with_reducible refine (laws_eqRegister.calls k _ _ t232 _ _ t235 _ _ t240 _ _ t243 false _ ?side1 ?side2 ?side3 ?side4 ?side5 ?side6 ?side7 ?side8 A14.out).mono ?_
  (case side1 => repeat (first | exact (Kd.qz0 HO234.out).2.2 | (with_reducible refine Kd.qv0 ?_ _) | (with_reducible refine Kd.qu0 ?_ _) | (with_reducible refine Kd.qa1 ?_)))
  (case side2 => exact (Kd.qz0 HO234.out).2.1)
  (case side3 => repeat (first | exact (Kd.qz0 HO237.out).2.2 | (with_reducible refine Kd.qv0 ?_ _) | (with_reducible refine Kd.qu0 ?_ _) | (with_reducible refine Kd.qa1 ?_)))
  (case side4 => exact (Kd.qz0 HO237.out).2.1)
  (case side5 => repeat (first | exact (Kd.qz0 HO242.out).2.2 | (with_reducible refine Kd.qv0 ?_ _) | (with_reducible refine Kd.qu0 ?_ _) | (with_reducible refine Kd.qa1 ?_)))
  (case side6 => exact (Kd.qz0 HO242.out).2.1)
  (case side7 => repeat (first | exact (Kd.qz0 HO245.out).2.2 | (with_reducible refine Kd.qv0 ?_ _) | (with_reducible refine Kd.qu0 ?_ _) | (with_reducible refine Kd.qa1 ?_)))
  (case side8 => exact (Kd.qz0 HO245.out).2.1)
  rintro e w57 ⟨rfl, hb⟩
  refine ⟨_, rfl, ?_⟩
  have n0_ := Aside0.mk (Kd.R_below (by (with_reducible repeat (first | apply Kd.qq0 | apply Kd.qp0 | apply Kd.qt0)); exact HO227.out) hb)
  have n1_ := Aside0.mk (Kd.R_below (by (with_reducible repeat (first | apply Kd.qq0 | apply Kd.qp0 | apply Kd.qt0)); exact HO230.out) hb)
  have n2_ := Aside0.mk (Kd.R_below (by (with_reducible repeat (first | apply Kd.qq0 | apply Kd.qp0 | apply Kd.qt0)); exact HO234.out) hb)
  have n3_ := Aside0.mk (Kd.R_below (by (with_reducible repeat (first | apply Kd.qq0 | apply Kd.qp0 | apply Kd.qt0)); exact HO237.out) hb)
  have n4_ := Aside0.mk (Kd.R_below (by (with_reducible repeat (first | apply Kd.qq0 | apply Kd.qp0 | apply Kd.qt0)); exact HO242.out) hb)
  have n5_ := Aside0.mk (Kd.R_below (by (with_reducible repeat (first | apply Kd.qq0 | apply Kd.qp0 | apply Kd.qt0)); exact HO245.out) hb)
  have n6_ := Aside0.mk (qm0 (g := gb223) (o := .cells #[.slice A0_0 l0_0.length c0_0, .slice A0_1 l0_1.length c0_1] 36 (0, 0)) (by (with_reducible repeat (first | refine qd0 ?_ _ | refine qh0 ?_ | refine qe0 ?_ _)); exact BK223.out) hb)
  have n7_ := Aside0.mk (qm0 (g := gb238) (o := .cells #[.slice Ao48 t232.length co48, .slice Ao51 t235.length co51] 42 (0, 0)) (by (with_reducible repeat (first | refine qd0 ?_ _ | refine qh0 ?_ | refine qe0 ?_ _)); exact BK238.out) hb)
  have n8_ := Aside0.mk (ql0 (by repeat (first | (with_reducible first | exact HB.out | apply qc0 | apply qa0 | apply qb0 | refine qg0 ?_ GE223.out | refine qg0 ?_ GE238.out) | exact HB.out)) hb)
  clear HO227
  clear HO230
  clear HO234
  clear HO237
  clear HO242
  clear HO245
  clear BK223
  clear BK238
  clear HB
  have HO227 := n0_
  have HO230 := n1_
  have HO234 := n2_
  have HO237 := n3_
  have HO242 := n4_
  have HO245 := n5_
  have BK223 := n6_
  have BK238 := n7_
  have HB := n8_
  clear n0_ n1_ n2_ n3_ n4_ n5_ n6_ n7_ n8_
  (try clear hb)
  (try clear hb2)
  (try clear hk)
  (try clear hi)
  refine hK.out _ _ ⟨(qf0 BK238.out 0).trans rfl, (qf0 BK238.out 1).trans rfl, (qf0 BK223.out 0).trans rfl, (qf0 BK223.out 1).trans rfl⟩ (fun hHeld => ?_)
  clear hK K
  refine norm_ (a' := ?_) ?_ ?_
  rotate_left
  ·show Act.put _ (some 29) _ = _
   simp only [Act.put, List.setIfInBounds_toArray, List.set_cons_zero, List.set_cons_succ, i64_w, i32_w]
   rfl
  refine pure_ (i := 4) (N := some 30) (v := ?_) (a' := ?_) #[true, true, true, true, true] rfl rfl (by kernel_rfl) (fun _ _ _ h => h) (Or.inl ⟨by rfl, ?_⟩) ?_ ?_
  rotate_left
  ·intro w'
   go_simp
   with_reducible rfl
  rotate_left
  ·simp only [Act.put, List.setIfInBounds_toArray, List.set_cons_zero, List.set_cons_succ, i64_w, i32_w]
   rfl
  refine done_ (by kernel_rfl) ?_
  try go_wp2
  go_ret
  exact ⟨by first | rfl | (simp [errW_none, errW_some] <;> rfl) | (simp [*, errW_none, errW_some] <;> rfl), by repeat (first | (with_reducible first | exact HB.out | apply qc0 | apply qa0 | apply qb0 | refine qg0 ?_ GE223.out | refine qg0 ?_ GE238.out) | exact HB.out)⟩
 rw [if_neg c12] at H
 have c12b0 : (t239.toList == t231.toList) = false := beq_eq_false_iff_ne.mpr c12
 have c12b1 : (t239.toList != t231.toList) = true := bne_iff_ne.mpr c12
 obtain rfl := Option.some.inj H
 go_enter Try.func5, Try.ntmps5
 go_wp2_with (first | ((with_reducible refine qs0 (N := 2) rfl ?_); refine qr0 ?hg (N := 2) ?hd (cs := #[.slice A0_0 l0_0.length c0_0, .slice A0_1 l0_1.length c0_1]) (t := 36) ?hr ?_; (case hd => rfl); (case hg => rfl); (case hr => first | (go_simp; done) | (go_simp; rfl)); intro gb223 hg w58 hbox hb; have n0_ := Aside0.mk (ql0 (by repeat (first | (with_reducible first | exact HB.out | apply qc0 | apply qa0 | apply qb0) | exact HB.out)) hb); have n1_ := Aside0.mk (hbox); have n2_ := Aside0.mk ((by rw [hg]; exact (qk0 (by repeat (first | (with_reducible first | exact HB.out | apply qc0 | apply qa0 | apply qb0) | exact HB.out))) : w.heap.size ≤ gb223)); have n3_ := Aside0.mk ((by rw [hg]; exact (qk0 (by repeat (first | (with_reducible first | exact HB.out | apply qc0 | apply qa0 | apply qb0) | exact HB.out))) : w.heap.size ≤ gb223)); clear HB; have HB := n0_; have BK223 := n1_; have GW223 := n2_; have GE223 := n3_; clear n0_ n1_ n2_ n3_; clear hb hbox hg; have hcz59_0 : w58.cell? ⟨gb223, 0, none⟩ = some (.slice A0_0 l0_0.length c0_0) := (qf0 BK223.out 0).trans rfl; have hcz59_1 : w58.cell? ⟨gb223, 1, none⟩ = some (.slice A0_1 l0_1.length c0_1) := (qf0 BK223.out 1).trans rfl; have hfz59_0 := qi0 BK223.out 0; have hfz59_1 := qi0 BK223.out 1) | ((with_reducible refine qn0 (f := 21) rfl ?_); refine qe1 (some 11) rfl rfl Try.func21 (by kernel_rfl) rfl #[.agg #[.slice A0_0 l0_0.length c0_0, .slice A0_1 l0_1.length c0_1], .int .i64 1048576] rfl (by (try simp only [List.map_toArray, List.map_cons, List.map_nil]); first | done | rfl | (simp only [List.length_drop, List.length_take]; rfl)) ?_; (with_reducible refine (laws_szRegister.calls k _ _ l0_0 _ _ l0_1 1048576 t224 _ ?side1 ?side2 ?side3 ?side4 A3.out).mono ?_); (case side1 => repeat (first | exact (Kd.qy0 HR0_0.out HB.out) | (with_reducible refine Kd.qv0 ?_ _) | (with_reducible refine Kd.qu0 ?_ _) | (with_reducible refine Kd.qa1 ?_))); (case side2 => exact HC0_0.out); (case side3 => repeat (first | exact (Kd.qy0 HR0_1.out HB.out) | (with_reducible refine Kd.qv0 ?_ _) | (with_reducible refine Kd.qu0 ?_ _) | (with_reducible refine Kd.qa1 ?_))); (case side4 => exact HC0_1.out); rintro e w60 ⟨rfl, hb⟩; refine ⟨_, rfl, ?_⟩; have n0_ := Aside0.mk (qm0 (g := gb223) (o := .cells #[.slice A0_0 l0_0.length c0_0, .slice A0_1 l0_1.length c0_1] 36 (0, 0)) (by (with_reducible repeat (first | refine qd0 ?_ _ | refine qh0 ?_ | refine qe0 ?_ _)); exact BK223.out) hb); have n1_ := Aside0.mk (ql0 (by repeat (first | (with_reducible first | exact HB.out | apply qc0 | apply qa0 | apply qb0 | refine qg0 ?_ GE223.out) | exact HB.out)) hb); clear BK223; clear HB; have BK223 := n0_; have HB := n1_; clear n0_ n1_; (try clear hb); (try clear hb2); (try clear hk); (try clear hi); have hcz61_0 : w60.cell? ⟨gb223, 0, none⟩ = some (.slice A0_0 l0_0.length c0_0) := (qf0 BK223.out 0).trans rfl; have hcz61_1 : w60.cell? ⟨gb223, 1, none⟩ = some (.slice A0_1 l0_1.length c0_1) := (qf0 BK223.out 1).trans rfl; have hfz61_0 := qi0 BK223.out 0; have hfz61_1 := qi0 BK223.out 1) | ((with_reducible refine qn0 (f := 23) rfl ?_); refine qe1 (some 15) rfl rfl Try.func23 (by kernel_rfl) rfl #[.agg #[.slice A0_0 l0_0.length c0_0, .slice A0_1 l0_1.length c0_1]] rfl (by (try simp only [List.map_toArray, List.map_cons, List.map_nil]); first | done | rfl | (simp only [List.length_drop, List.length_take]; rfl)) ?_; (with_reducible refine (laws_toRegister.calls k _ _ l0_0 _ _ l0_1 t225 t228 _ ?side1 ?side2 ?side3 ?side4 A8.out).mono ?_); (case side1 => repeat (first | exact (Kd.qy0 HR0_0.out HB.out) | (with_reducible refine Kd.qv0 ?_ _) | (with_reducible refine Kd.qu0 ?_ _) | (with_reducible refine Kd.qa1 ?_))); (case side2 => exact HC0_0.out); (case side3 => repeat (first | exact (Kd.qy0 HR0_1.out HB.out) | (with_reducible refine Kd.qv0 ?_ _) | (with_reducible refine Kd.qu0 ?_ _) | (with_reducible refine Kd.qa1 ?_))); (case side4 => exact HC0_1.out); rintro e w62 ⟨v226, v229, rfl, ho0, ho1, hb⟩; refine ⟨_, rfl, ?_⟩; have n0_ := Aside0.mk (Kd.qj1 ho0 (qk0 (by repeat (first | (with_reducible first | exact HB.out | apply qc0 | apply qa0 | apply qb0 | refine qg0 ?_ GE223.out) | exact HB.out)))); have n1_ := Aside0.mk (Kd.qj1 ho1 (qk0 (by repeat (first | (with_reducible first | exact HB.out | apply qc0 | apply qa0 | apply qb0 | refine qg0 ?_ GE223.out) | exact HB.out)))); have n2_ := Aside0.mk (qm0 (g := gb223) (o := .cells #[.slice A0_0 l0_0.length c0_0, .slice A0_1 l0_1.length c0_1] 36 (0, 0)) (by (with_reducible repeat (first | refine qd0 ?_ _ | refine qh0 ?_ | refine qe0 ?_ _)); exact BK223.out) hb); have n3_ := Aside0.mk (ql0 (by repeat (first | (with_reducible first | exact HB.out | apply qc0 | apply qa0 | apply qb0 | refine qg0 ?_ GE223.out) | exact HB.out)) hb); clear BK223; clear HB; have HO227 := n0_; have HO230 := n1_; have BK223 := n2_; have HB := n3_; clear n0_ n1_ n2_ n3_; (try clear hb); (try clear hb2); (try clear hk); (try clear hi); (try clear ho0); (try clear ho1); obtain ⟨Ao63, co63, eo63⟩ := Kd.R_slice HO227.out; subst eo63; obtain ⟨Ao64, co64, eo64⟩ := Kd.R_slice HO230.out; subst eo64) | ((with_reducible refine qn0 (f := 26) rfl ?_); refine qe1 (some 17) rfl rfl Try.func26 (by kernel_rfl) rfl #[.agg #[.slice Ao63 t225.length co63, .slice Ao64 t228.length co64], .int .i64 a1] rfl (by (try simp only [List.map_toArray, List.map_cons, List.map_nil]); first | done | rfl | (simp only [List.length_drop, List.length_take]; rfl)) ?_; (with_reducible refine (spec_ShowPaper.calls k _ _ t225 _ _ t228 a1 t231 _ ?side1 ?side2 ?side3 ?side4 A9.out).mono ?_); (case side1 => repeat (first | exact (Kd.qz0 HO227.out).2.2 | (with_reducible refine Kd.qv0 ?_ _) | (with_reducible refine Kd.qu0 ?_ _) | (with_reducible refine Kd.qa1 ?_))); (case side2 => exact (Kd.qz0 HO227.out).2.1); (case side3 => repeat (first | exact (Kd.qz0 HO230.out).2.2 | (with_reducible refine Kd.qv0 ?_ _) | (with_reducible refine Kd.qu0 ?_ _) | (with_reducible refine Kd.qa1 ?_))); (case side4 => exact (Kd.qz0 HO230.out).2.1); rintro e w65 ⟨rfl, hb⟩; refine ⟨_, rfl, ?_⟩; have n0_ := Aside0.mk (Kd.R_below (by (with_reducible repeat (first | apply Kd.qq0 | apply Kd.qp0 | apply Kd.qt0)); exact HO227.out) hb); have n1_ := Aside0.mk (Kd.R_below (by (with_reducible repeat (first | apply Kd.qq0 | apply Kd.qp0 | apply Kd.qt0)); exact HO230.out) hb); have n2_ := Aside0.mk (qm0 (g := gb223) (o := .cells #[.slice A0_0 l0_0.length c0_0, .slice A0_1 l0_1.length c0_1] 36 (0, 0)) (by (with_reducible repeat (first | refine qd0 ?_ _ | refine qh0 ?_ | refine qe0 ?_ _)); exact BK223.out) hb); have n3_ := Aside0.mk (ql0 (by repeat (first | (with_reducible first | exact HB.out | apply qc0 | apply qa0 | apply qb0 | refine qg0 ?_ GE223.out) | exact HB.out)) hb); clear HO227; clear HO230; clear BK223; clear HB; have HO227 := n0_; have HO230 := n1_; have BK223 := n2_; have HB := n3_; clear n0_ n1_ n2_ n3_; (try clear hb); (try clear hb2); (try clear hk); (try clear hi); have hcz66_0 : w65.cell? ⟨gb223, 0, none⟩ = some (.slice A0_0 l0_0.length c0_0) := (qf0 BK223.out 0).trans rfl; have hcz66_1 : w65.cell? ⟨gb223, 1, none⟩ = some (.slice A0_1 l0_1.length c0_1) := (qf0 BK223.out 1).trans rfl; have hfz66_0 := qi0 BK223.out 0; have hfz66_1 := qi0 BK223.out 1) | ((with_reducible refine qn0 (f := 23) rfl ?_); refine qe1 (some 19) rfl rfl Try.func23 (by kernel_rfl) rfl #[.agg #[.slice A0_0 l0_0.length c0_0, .slice A0_1 l0_1.length c0_1]] rfl (by (try simp only [List.map_toArray, List.map_cons, List.map_nil]); first | done | rfl | (simp only [List.length_drop, List.length_take]; rfl)) ?_; (with_reducible refine (laws_toRegister.calls k _ _ l0_0 _ _ l0_1 t232 t235 _ ?side1 ?side2 ?side3 ?side4 A10.out).mono ?_); (case side1 => repeat (first | exact (Kd.qy0 HR0_0.out HB.out) | (with_reducible refine Kd.qv0 ?_ _) | (with_reducible refine Kd.qu0 ?_ _) | (with_reducible refine Kd.qa1 ?_))); (case side2 => exact HC0_0.out); (case side3 => repeat (first | exact (Kd.qy0 HR0_1.out HB.out) | (with_reducible refine Kd.qv0 ?_ _) | (with_reducible refine Kd.qu0 ?_ _) | (with_reducible refine Kd.qa1 ?_))); (case side4 => exact HC0_1.out); rintro e w67 ⟨v233, v236, rfl, ho0, ho1, hb⟩; refine ⟨_, rfl, ?_⟩; have n0_ := Aside0.mk (Kd.R_elder' (by (with_reducible repeat (first | apply Kd.qq0 | apply Kd.qp0 | apply Kd.qt0)); exact HO227.out) (Kd.R_base ho0) hb); have n1_ := Aside0.mk (Kd.R_elder' (by (with_reducible repeat (first | apply Kd.qq0 | apply Kd.qp0 | apply Kd.qt0)); exact HO230.out) (Kd.R_base ho1) hb); have n2_ := Aside0.mk (Kd.qj1 (Kd.R_new' ho0 (Kd.R_lt (by (with_reducible repeat (first | apply Kd.qq0 | apply Kd.qp0 | apply Kd.qt0)); exact HO227.out))) (qk0 (by repeat (first | (with_reducible first | exact HB.out | apply qc0 | apply qa0 | apply qb0 | refine qg0 ?_ GE223.out) | exact HB.out)))); have n3_ := Aside0.mk (Kd.qj1 (Kd.R_new' ho1 (Kd.R_lt (by (with_reducible repeat (first | apply Kd.qq0 | apply Kd.qp0 | apply Kd.qt0)); exact HO230.out))) (qk0 (by repeat (first | (with_reducible first | exact HB.out | apply qc0 | apply qa0 | apply qb0 | refine qg0 ?_ GE223.out) | exact HB.out)))); have n4_ := Aside0.mk (qm0 (g := gb223) (o := .cells #[.slice A0_0 l0_0.length c0_0, .slice A0_1 l0_1.length c0_1] 36 (0, 0)) (by (with_reducible repeat (first | refine qd0 ?_ _ | refine qh0 ?_ | refine qe0 ?_ _)); exact BK223.out) hb); have n5_ := Aside0.mk (ql0 (by repeat (first | (with_reducible first | exact HB.out | apply qc0 | apply qa0 | apply qb0 | refine qg0 ?_ GE223.out) | exact HB.out)) hb); clear HO227; clear HO230; clear BK223; clear HB; have HO227 := n0_; have HO230 := n1_; have HO234 := n2_; have HO237 := n3_; have BK223 := n4_; have HB := n5_; clear n0_ n1_ n2_ n3_ n4_ n5_; (try clear hb); (try clear hb2); (try clear hk); (try clear hi); (try clear ho0); (try clear ho1)) | ((with_reducible refine qs0 (N := 7) rfl ?_); refine qr0 ?hg (N := 7) ?hd (cs := #[.slice none 0 0, .slice none 0 0]) (t := 42) ?hr ?_; (case hd => rfl); (case hg => rfl); (case hr => first | (go_simp; done) | (go_simp; rfl)); intro gb238 hg w68 hbox hb; have n0_ := Aside0.mk (Kd.R_below (by (with_reducible repeat (first | apply Kd.qq0 | apply Kd.qp0 | apply Kd.qt0)); exact HO227.out) hb); have n1_ := Aside0.mk (Kd.R_below (by (with_reducible repeat (first | apply Kd.qq0 | apply Kd.qp0 | apply Kd.qt0)); exact HO230.out) hb); have n2_ := Aside0.mk (Kd.R_below (by (with_reducible repeat (first | apply Kd.qq0 | apply Kd.qp0 | apply Kd.qt0)); exact HO234.out) hb); have n3_ := Aside0.mk (Kd.R_below (by (with_reducible repeat (first | apply Kd.qq0 | apply Kd.qp0 | apply Kd.qt0)); exact HO237.out) hb); have n4_ := Aside0.mk (qm0 (g := gb223) (o := .cells #[.slice A0_0 l0_0.length c0_0, .slice A0_1 l0_1.length c0_1] 36 (0, 0)) (by (with_reducible repeat (first | refine qd0 ?_ _ | refine qh0 ?_ | refine qe0 ?_ _)); exact BK223.out) hb); have n5_ := Aside0.mk (ql0 (by repeat (first | (with_reducible first | exact HB.out | apply qc0 | apply qa0 | apply qb0 | refine qg0 ?_ GE223.out) | exact HB.out)) hb); have n6_ := Aside0.mk (hbox); have n7_ := Aside0.mk ((by rw [hg]; exact (qk0 (by repeat (first | (with_reducible first | exact HB.out | apply qc0 | apply qa0 | apply qb0 | refine qg0 ?_ GE223.out) | exact HB.out))) : w.heap.size ≤ gb238)); have n8_ := Aside0.mk ((by rw [hg]; exact (qk0 (by repeat (first | (with_reducible first | exact HB.out | apply qc0 | apply qa0 | apply qb0 | refine qg0 ?_ GE223.out) | exact HB.out))) : w.heap.size ≤ gb238)); have n9_ := Aside0.mk ((by rw [hg]; exact Nat.ne_of_lt (qb1 (g := gb223) (o := .cells #[.slice A0_0 l0_0.length c0_0, .slice A0_1 l0_1.length c0_1] 36 (0, 0)) (by (with_reducible repeat (first | refine qd0 ?_ _ | refine qh0 ?_ | refine qe0 ?_ _)); exact BK223.out)) : gb223 ≠ gb238)); have n10_ := Aside0.mk ((by rw [hg]; exact Nat.ne_of_gt (qb1 (g := gb223) (o := .cells #[.slice A0_0 l0_0.length c0_0, .slice A0_1 l0_1.length c0_1] 36 (0, 0)) (by (with_reducible repeat (first | refine qd0 ?_ _ | refine qh0 ?_ | refine qe0 ?_ _)); exact BK223.out)) : gb238 ≠ gb223)); clear HO227; clear HO230; clear HO234; clear HO237; clear BK223; clear HB; have HO227 := n0_; have HO230 := n1_; have HO234 := n2_; have HO237 := n3_; have BK223 := n4_; have HB := n5_; have BK238 := n6_; have GW238 := n7_; have GE238 := n8_; have NB223_238 := n9_; have NB238_223 := n10_; clear n0_ n1_ n2_ n3_ n4_ n5_ n6_ n7_ n8_ n9_ n10_; clear hb hbox hg; obtain ⟨Ao69, co69, eo69⟩ := Kd.R_slice HO234.out; subst eo69; have hnb70 := NB238_223.out; have hnc70 := NB223_238.out; have hcz71_0 : w68.cell? ⟨gb238, 0, none⟩ = some (.slice none 0 0) := (qf0 BK238.out 0).trans rfl; have hcz71_1 : w68.cell? ⟨gb238, 1, none⟩ = some (.slice none 0 0) := (qf0 BK238.out 1).trans rfl; have hfz71_0 := qi0 BK238.out 0; have hfz71_1 := qi0 BK238.out 1; obtain ⟨Ao72, co72, eo72⟩ := Kd.R_slice HO237.out; subst eo72) | ((with_reducible refine qn0 (f := 27) rfl ?_); refine qe1 (some 22) rfl rfl Try.func27 (by kernel_rfl) rfl #[.agg #[.slice Ao69 t232.length co69, .slice Ao72 t235.length co72], .int .i64 a1] rfl (by (try simp only [List.map_toArray, List.map_cons, List.map_nil]); first | done | rfl | (simp only [List.length_drop, List.length_take]; rfl)) ?_; (with_reducible refine (impl_ShowPaper.calls k _ _ t232 _ _ t235 a1 t239 _ ?side1 ?side2 ?side3 ?side4 A11.out).mono ?_); (case side1 => refine (Kd.qz0 (e := 122) (base := w.heap.size) (ok := fun k_ => (True ∧ some k_ ≠ (.slice Ao63 t225.length co63 : Value).ownBlock)) (n := t232.length) (c := co69) ?_).2.2; exact (by (with_reducible repeat (first | apply Kd.qq0 | apply Kd.qp0 | apply Kd.qt0)); exact (Kd.qm1 (Kd.R_far (p := ⟨gb238, 1, none⟩) (Kd.R_far (p := ⟨gb238, 0, none⟩) (Kd.qi1 HO234.out BK238.out (by decide)) (fun _ hk => hk.2) (.slice Ao69 t232.length co69)) (fun _ hk => hk.2) (.slice Ao72 t235.length co72)) (fun _ h_ => h_.1)))); (case side2 => exact (Kd.qz0 HO234.out).2.1); (case side3 => refine (Kd.qz0 (e := 53) (base := w.heap.size) (ok := fun k_ => (True ∧ some k_ ≠ (.slice Ao64 t228.length co64 : Value).ownBlock)) (n := t235.length) (c := co72) ?_).2.2; exact (by (with_reducible repeat (first | apply Kd.qq0 | apply Kd.qp0 | apply Kd.qt0)); exact (Kd.qm1 (Kd.R_far (p := ⟨gb238, 1, none⟩) (Kd.R_far (p := ⟨gb238, 0, none⟩) (Kd.qi1 HO237.out BK238.out (by decide)) (fun _ hk => hk.2) (.slice Ao69 t232.length co69)) (fun _ hk => hk.2) (.slice Ao72 t235.length co72)) (fun _ h_ => h_.1)))); (case side4 => exact (Kd.qz0 HO237.out).2.1); rintro e w73 ⟨rfl, hb⟩; refine ⟨_, rfl, ?_⟩; have n0_ := Aside0.mk (Kd.R_below (by (with_reducible repeat (first | apply Kd.qq0 | apply Kd.qp0 | apply Kd.qt0)); exact (Kd.qm1 (Kd.R_far (p := ⟨gb238, 1, none⟩) (Kd.R_far (p := ⟨gb238, 0, none⟩) (Kd.qi1 HO227.out BK238.out (by decide)) (fun _ hk => hk.2) (.slice Ao69 t232.length co69)) (fun _ hk => hk.2) (.slice Ao72 t235.length co72)) (fun _ h_ => h_.1))) hb); have n1_ := Aside0.mk (Kd.R_below (by (with_reducible repeat (first | apply Kd.qq0 | apply Kd.qp0 | apply Kd.qt0)); exact (Kd.qm1 (Kd.R_far (p := ⟨gb238, 1, none⟩) (Kd.R_far (p := ⟨gb238, 0, none⟩) (Kd.qi1 HO230.out BK238.out (by decide)) (fun _ hk => hk.2) (.slice Ao69 t232.length co69)) (fun _ hk => hk.2) (.slice Ao72 t235.length co72)) (fun _ h_ => h_.1))) hb); have n2_ := Aside0.mk (Kd.R_below (by (with_reducible repeat (first | apply Kd.qq0 | apply Kd.qp0 | apply Kd.qt0)); exact (Kd.qm1 (Kd.R_far (p := ⟨gb238, 1, none⟩) (Kd.R_far (p := ⟨gb238, 0, none⟩) (Kd.qi1 HO234.out BK238.out (by decide)) (fun _ hk => hk.2) (.slice Ao69 t232.length co69)) (fun _ hk => hk.2) (.slice Ao72 t235.length co72)) (fun _ h_ => h_.1))) hb); have n3_ := Aside0.mk (Kd.R_below (by (with_reducible repeat (first | apply Kd.qq0 | apply Kd.qp0 | apply Kd.qt0)); exact (Kd.qm1 (Kd.R_far (p := ⟨gb238, 1, none⟩) (Kd.R_far (p := ⟨gb238, 0, none⟩) (Kd.qi1 HO237.out BK238.out (by decide)) (fun _ hk => hk.2) (.slice Ao69 t232.length co69)) (fun _ hk => hk.2) (.slice Ao72 t235.length co72)) (fun _ h_ => h_.1))) hb); have n4_ := Aside0.mk (qm0 (g := gb223) (o := .cells #[.slice A0_0 l0_0.length c0_0, .slice A0_1 l0_1.length c0_1] 36 (0, 0)) (by (with_reducible repeat (first | refine qd0 ?_ _ | refine qh0 ?_ | refine qe0 ?_ _)); refine qw0 ?_ NB223_238.out _; (with_reducible repeat (first | refine qd0 ?_ _ | refine qh0 ?_ | refine qe0 ?_ _)); refine qw0 ?_ NB223_238.out _; (with_reducible repeat (first | refine qd0 ?_ _ | refine qh0 ?_ | refine qe0 ?_ _)); exact BK223.out) hb); have n5_ := Aside0.mk (qm0 (g := gb238) (o := .cells #[.slice Ao69 t232.length co69, .slice Ao72 t235.length co72] 42 (0, 0)) (by (with_reducible repeat (first | refine qd0 ?_ _ | refine qh0 ?_ | refine qe0 ?_ _)); refine qx0 (cs := #[.slice Ao69 t232.length co69, .slice none 0 0]) ?_ 1 _ rfl; (with_reducible repeat (first | refine qd0 ?_ _ | refine qh0 ?_ | refine qe0 ?_ _)); refine qx0 (cs := #[.slice none 0 0, .slice none 0 0]) ?_ 0 _ rfl; (with_reducible repeat (first | refine qd0 ?_ _ | refine qh0 ?_ | refine qe0 ?_ _)); exact BK238.out) hb); have n6_ := Aside0.mk (ql0 (by repeat (first | (with_reducible first | exact HB.out | apply qc0 | apply qa0 | apply qb0 | refine qg0 ?_ GE223.out | refine qg0 ?_ GE238.out) | exact HB.out)) hb); clear HO227; clear HO230; clear HO234; clear HO237; clear BK223; clear BK238; clear HB; have HO227 := n0_; have HO230 := n1_; have HO234 := n2_; have HO237 := n3_; have BK223 := n4_; have BK238 := n5_; have HB := n6_; clear n0_ n1_ n2_ n3_ n4_ n5_ n6_; (try clear hb); (try clear hb2); (try clear hk); (try clear hi)))
 go_ret
 exact ⟨by first | rfl | (simp [errW_none, errW_some] <;> rfl) | (simp [*, errW_none, errW_some] <;> rfl), by repeat (first | (with_reducible first | exact HB.out | apply qc0 | apply qa0 | apply qb0 | refine qg0 ?_ GE223.out | refine qg0 ?_ GE238.out) | exact HB.out)⟩

/-- THE ONE PURE STATEMENT of laws_FnExactShowPaper. -/
def laws_FnExactShowPaper.Pure : Prop := ∀ (l0_0 : List (S207)) (l0_1 : List (S210)) (a1 : Int), ((l0_0.length ≤ maxLen ∧ ∀ a_ ∈ l0_0, G207 a_)) → ((l0_1.length ≤ maxLen ∧ ∀ a_ ∈ l0_1, G210 a_)) → ((Lit.int .i64 a1).wf = true) → ∃ k, laws_FnExactShowPaper.f k l0_0 l0_1 a1 = some true

end Go.Proofs.Ytdnhpicgjkddbaa.PFnExactShowPaper
