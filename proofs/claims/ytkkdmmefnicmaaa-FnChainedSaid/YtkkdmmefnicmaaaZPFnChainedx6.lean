/- Lines by a program (a changed copy of the kit's print: this repo's wip/tools): Go functions as Lean functions, and proofs that the calls answer so. -/
import Derived.Test.YtkkdmmefnicmaaaZPFnChainedx0
import Derived.Test.YtkkdmmefnicmaaaZPFnChainedx1
import Derived.Test.YtkkdmmefnicmaaaZPFnChainedx5
namespace Go.Proofs.Ytkkdmmefnicmaaa.PFnChained
open Go.RowKit Go.Proofs.YtkkdmmefnicmaaaW.PrintWords Go.Proofs.YtkkdmmefnicmaaaW.PrintLast Go.Proofs.YtkkdmmefnicmaaaW.PrintMore
/-- Closing blocks told once. -/
theorem z6_0 {P : Prop} (h : P := by repeat (first | (with_reducible first | exact HB.out | apply qj0 | apply qh0 | apply qi0 | refine qk0 ?_ GE218.out) | exact HB.out)) : P := h
theorem z6_1 {P : Prop} (h : P := by (with_reducible repeat (first | refine qe0 ?_ _ | refine qf0 ?_ | refine qd0 ?_ _)); refine qo0 (cs := #[.string ((rd_T209 l0 x3_1).f0), .int .i64 ((rd_T209 l0 x3_1).f1), .int .i64 0]) ?_ 2 _ rfl; (with_reducible repeat (first | refine qe0 ?_ _ | refine qf0 ?_ | refine qd0 ?_ _)); refine qo0 (cs := #[.string ((rd_T209 l0 x3_1).f0), .int .i64 0, .int .i64 0]) ?_ 1 _ rfl; (with_reducible repeat (first | refine qe0 ?_ _ | refine qf0 ?_ | refine qd0 ?_ _)); refine qo0 (cs := #[.string (⟨#[]⟩ : ByteArray), .int .i64 0, .int .i64 0]) ?_ 0 _ rfl; (with_reducible repeat (first | refine qe0 ?_ _ | refine qf0 ?_ | refine qd0 ?_ _)); exact BK218.out) : P := h
theorem z6_2 {P : Prop} (h : P := by repeat (first | (with_reducible first | exact HB.out | apply qj0 | apply qh0 | apply qi0) | exact HB.out)) : P := h
theorem z6_3 {P : Prop} (h : P := by repeat (first | exact (Kd.C_below HR0.out HB.out) | (with_reducible refine Kd.qx1 ?_ _) | (with_reducible refine Kd.qw1 ?_ _) | (with_reducible refine Kd.qg2 ?_))) : P := h
theorem z6_4 {P : Prop} (h : P := by rw [hg]; exact (qv0 (by repeat (first | (with_reducible first | exact HB.out | apply qj0 | apply qh0 | apply qi0) | exact HB.out)))) : P := h
theorem z6_5 {P : Prop} (h : P := by first | rfl | (simp [errW_none, errW_some] <;> rfl) | (simp [*, errW_none, errW_some] <;> rfl)) : P := h
theorem z6_6 {P : Prop} (h : P := by first | (with_reducible assumption) | assumption) : P := h
theorem z6_7 {P : Prop} (h : P := by (with_reducible repeat (first | refine qe0 ?_ _ | refine qf0 ?_ | refine qd0 ?_ _)); exact BK218.out) : P := h
theorem z6_8 {P : Prop} (h : P := by first | rfl | (simp; done) | (simp [*]; done)) : P := h
attribute [local go_sem] max2_int min2_int max_two min_two max_three min_three max_four min_four   -- for this text's walks alone
set_option linter.unusedVariables false
set_option linter.unusedSimpArgs false

/-! ### spec_ChartOk: function 166 -/
mutual
def spec_ChartOk.l0 : Nat → List (S209) → Int → Option (Bool)
 | 0, _, _ => none
 | k + 1, x0, x3 => if x3 < (x0.length : Int) then (if 0 ≤ x3 then ((spec_NameOk.f k ((rd_T209 x0 x3).f0)).bind fun t219 => (if t219 = true then ((spec_l1In.f ((rd_T209 x0 x3).f2) 1 5).bind fun t220 => (if t220 = true then ((spec_l1In.f ((rd_T209 x0 x3).f1) (-1) (wrap64 (x3 - 1))).bind fun t221 => (spec_ChartOk.j1 k x0 x3 (!t221) ((rd_T209 x0 x3).f0) ((rd_T209 x0 x3).f1) ((rd_T209 x0 x3).f2))) else (spec_ChartOk.j1 k x0 x3 true ((rd_T209 x0 x3).f0) ((rd_T209 x0 x3).f1) ((rd_T209 x0 x3).f2)))) else (spec_ChartOk.j1 k x0 x3 true ((rd_T209 x0 x3).f0) ((rd_T209 x0 x3).f1) ((rd_T209 x0 x3).f2)))) else (none)) else (some true)
def spec_ChartOk.j1 : Nat → List (S209) → Int → Bool → ByteArray → Int → Int → Option (Bool)
 | 0, _, _, _, _, _, _ => none
 | k + 1, x0, x3, x38, x219000, x219001, x219002 => if x38 = true then (some false) else (spec_ChartOk.l1 k x0 x3 0 x219000 x219001 x219002)
def spec_ChartOk.l1 : Nat → List (S209) → Int → Int → ByteArray → Int → Int → Option (Bool)
 | 0, _, _, _, _, _, _ => none
 | k + 1, x0, x3, x5, x219000, x219001, x219002 => if x5 < x3 then (if 0 ≤ x5 then (if x5 < (x0.length : Int) then (if ((rd_T209 x0 x5).f0).toList = x219000.toList then (some false) else (spec_ChartOk.l1 k x0 x3 (wrap64 (x5 + 1)) x219000 x219001 x219002)) else (none)) else (none)) else (if x219001 < 0 then (spec_ChartOk.l0 k x0 (wrap64 (x3 + 1))) else (spec_ChartOk.l2 k x0 x3 (wrap64 (x3 - 1)) x219000 x219001 x219002))
def spec_ChartOk.l2 : Nat → List (S209) → Int → Int → ByteArray → Int → Int → Option (Bool)
 | 0, _, _, _, _, _, _ => none
 | k + 1, x0, x3, x6, x219000, x219001, x219002 => if x6 ≥ 0 then (if x6 = x219001 then (if x6 < 0 then (some false) else (if 0 ≤ x6 then (if x6 < (x0.length : Int) then (if ((rd_T209 x0 x6).f2) = x219002 then ((spec_l4Deep.f k x0 x3).bind fun t224 => (if t224 > 8 then (some false) else (spec_ChartOk.l0 k x0 (wrap64 (x3 + 1))))) else (some false)) else (none)) else (none))) else (if 0 ≤ x6 then (if x6 < (x0.length : Int) then (spec_ChartOk.l2 k x0 x3 ((rd_T209 x0 x6).f1) x219000 x219001 x219002) else (none)) else (none))) else (if x6 < 0 then (some false) else (if 0 ≤ x6 then (if x6 < (x0.length : Int) then (if ((rd_T209 x0 x6).f2) = x219002 then ((spec_l4Deep.f k x0 x3).bind fun t227 => (if t227 > 8 then (some false) else (spec_ChartOk.l0 k x0 (wrap64 (x3 + 1))))) else (some false)) else (none)) else (none)))
end
def spec_ChartOk.f (k : Nat) (l0 : List (S209)) : Option (Bool) := (spec_l1In.f (l0.length : Int) 1 120).bind fun t216 => (if t216 = true then (spec_ChartOk.l0 k l0 0) else (some false))
theorem spec_ChartOk.mono_l : ∀ k, (∀ y0 y1, LeO (spec_ChartOk.l0 k y0 y1) (spec_ChartOk.l0 (k + 1) y0 y1)) ∧ (∀ y0 y1 y2 y3 y4 y5, LeO (spec_ChartOk.j1 k y0 y1 y2 y3 y4 y5) (spec_ChartOk.j1 (k + 1) y0 y1 y2 y3 y4 y5)) ∧ (∀ y0 y1 y2 y3 y4 y5, LeO (spec_ChartOk.l1 k y0 y1 y2 y3 y4 y5) (spec_ChartOk.l1 (k + 1) y0 y1 y2 y3 y4 y5)) ∧ (∀ y0 y1 y2 y3 y4 y5, LeO (spec_ChartOk.l2 k y0 y1 y2 y3 y4 y5) (spec_ChartOk.l2 (k + 1) y0 y1 y2 y3 y4 y5))
 | 0 => ⟨fun _ _ r h => by simp [spec_ChartOk.l0] at h, fun _ _ _ _ _ _ r h => by simp [spec_ChartOk.j1] at h, fun _ _ _ _ _ _ r h => by simp [spec_ChartOk.l1] at h, fun _ _ _ _ _ _ r h => by simp [spec_ChartOk.l2] at h⟩
 | k + 1 => by
  obtain ⟨ih0, ih1, ih2, ih3⟩ := spec_ChartOk.mono_l k
  refine ⟨?_, ?_, ?_, ?_⟩
  ·intro y0 y1
   unfold spec_ChartOk.l0
   repeat' first
   | (with_reducible exact ih0 _ _)
   | (with_reducible exact ih1 _ _ _ _ _ _)
   | (with_reducible exact ih2 _ _ _ _ _ _)
   | (with_reducible exact ih3 _ _ _ _ _ _)
   | (with_reducible exact spec_NameOk.mono _ _)
   | (with_reducible exact spec_l4Deep.mono _ _ _)
   | (with_reducible exact LeO.refl _)
   | (with_reducible exact LeO.none _)
   | (with_reducible refine LeO.ite ?_ ?_)
   | (with_reducible refine LeO.bind ?_ (fun _ => ?_))
   | exact ih0 _ _
   | exact ih1 _ _ _ _ _ _
   | exact ih2 _ _ _ _ _ _
   | exact ih3 _ _ _ _ _ _
   | exact spec_NameOk.mono _ _
   | exact spec_l4Deep.mono _ _ _
   | exact LeO.none _
   | refine LeO.ite ?_ ?_
   | refine LeO.bind ?_ (fun _ => ?_)
  ·intro y0 y1 y2 y3 y4 y5
   unfold spec_ChartOk.j1
   repeat' first
   | (with_reducible exact ih0 _ _)
   | (with_reducible exact ih1 _ _ _ _ _ _)
   | (with_reducible exact ih2 _ _ _ _ _ _)
   | (with_reducible exact ih3 _ _ _ _ _ _)
   | (with_reducible exact spec_NameOk.mono _ _)
   | (with_reducible exact spec_l4Deep.mono _ _ _)
   | (with_reducible exact LeO.refl _)
   | (with_reducible exact LeO.none _)
   | (with_reducible refine LeO.ite ?_ ?_)
   | (with_reducible refine LeO.bind ?_ (fun _ => ?_))
   | exact ih0 _ _
   | exact ih1 _ _ _ _ _ _
   | exact ih2 _ _ _ _ _ _
   | exact ih3 _ _ _ _ _ _
   | exact spec_NameOk.mono _ _
   | exact spec_l4Deep.mono _ _ _
   | exact LeO.none _
   | refine LeO.ite ?_ ?_
   | refine LeO.bind ?_ (fun _ => ?_)
  ·intro y0 y1 y2 y3 y4 y5
   unfold spec_ChartOk.l1
   repeat' first
   | (with_reducible exact ih0 _ _)
   | (with_reducible exact ih1 _ _ _ _ _ _)
   | (with_reducible exact ih2 _ _ _ _ _ _)
   | (with_reducible exact ih3 _ _ _ _ _ _)
   | (with_reducible exact spec_NameOk.mono _ _)
   | (with_reducible exact spec_l4Deep.mono _ _ _)
   | (with_reducible exact LeO.refl _)
   | (with_reducible exact LeO.none _)
   | (with_reducible refine LeO.ite ?_ ?_)
   | (with_reducible refine LeO.bind ?_ (fun _ => ?_))
   | exact ih0 _ _
   | exact ih1 _ _ _ _ _ _
   | exact ih2 _ _ _ _ _ _
   | exact ih3 _ _ _ _ _ _
   | exact spec_NameOk.mono _ _
   | exact spec_l4Deep.mono _ _ _
   | exact LeO.none _
   | refine LeO.ite ?_ ?_
   | refine LeO.bind ?_ (fun _ => ?_)
  ·intro y0 y1 y2 y3 y4 y5
   unfold spec_ChartOk.l2
   repeat' first
   | (with_reducible exact ih0 _ _)
   | (with_reducible exact ih1 _ _ _ _ _ _)
   | (with_reducible exact ih2 _ _ _ _ _ _)
   | (with_reducible exact ih3 _ _ _ _ _ _)
   | (with_reducible exact spec_NameOk.mono _ _)
   | (with_reducible exact spec_l4Deep.mono _ _ _)
   | (with_reducible exact LeO.refl _)
   | (with_reducible exact LeO.none _)
   | (with_reducible refine LeO.ite ?_ ?_)
   | (with_reducible refine LeO.bind ?_ (fun _ => ?_))
   | exact ih0 _ _
   | exact ih1 _ _ _ _ _ _
   | exact ih2 _ _ _ _ _ _
   | exact ih3 _ _ _ _ _ _
   | exact spec_NameOk.mono _ _
   | exact spec_l4Deep.mono _ _ _
   | exact LeO.none _
   | refine LeO.ite ?_ ?_
   | refine LeO.bind ?_ (fun _ => ?_)
theorem spec_ChartOk.mono : ∀ a0 k, LeO (spec_ChartOk.f k a0) (spec_ChartOk.f (k + 1) a0) := by
 intro a0 k
 obtain ⟨ih0, ih1, ih2, ih3⟩ := spec_ChartOk.mono_l k
 unfold spec_ChartOk.f
 repeat' first
   | (with_reducible exact ih0 _ _)
   | (with_reducible exact ih1 _ _ _ _ _ _)
   | (with_reducible exact ih2 _ _ _ _ _ _)
   | (with_reducible exact ih3 _ _ _ _ _ _)
   | (with_reducible exact spec_NameOk.mono _ _)
   | (with_reducible exact spec_l4Deep.mono _ _ _)
   | (with_reducible exact LeO.refl _)
   | (with_reducible exact LeO.none _)
   | (with_reducible refine LeO.ite ?_ ?_)
   | (with_reducible refine LeO.bind ?_ (fun _ => ?_))
   | exact ih0 _ _
   | exact ih1 _ _ _ _ _ _
   | exact ih2 _ _ _ _ _ _
   | exact ih3 _ _ _ _ _ _
   | exact spec_NameOk.mono _ _
   | exact spec_l4Deep.mono _ _ _
   | exact LeO.none _
   | refine LeO.ite ?_ ?_
   | refine LeO.bind ?_ (fun _ => ?_)
set_option maxHeartbeats 8000000 in
set_option maxRecDepth 100000 in
theorem spec_ChartOk.calls (k : Nat) (A0 : Option Addr) (c0 : Nat) (l0 : List (S209)) (r : Bool) (w : World) (hr0 : Kd.C k209 w A0 l0.length l0) (hc0 : l0.length ≤ c0) (h : spec_ChartOk.f k l0 = some r) :
  Calls Try.prog 166 #[.slice A0 l0.length c0] w fun e w' => e = .returned (.bool r) ∧ Below w.heap.size w w' := by
 have hu209 := Try.underlying209
 have HR0 := Aside0.mk hr0
 have HC0 := Aside0.mk hc0
 clear hr0 hc0
 have HB := Aside0.mk (Below.refl w.heap.size w)
 have H : ((spec_l1In.f (l0.length : Int) 1 120).bind fun t216 => (if t216 = true then (spec_ChartOk.l0 k l0 0) else (some false))) = some r := h
 clear h
 replace H := Option.bind_eq_some_iff.mp H
 obtain ⟨t216, A20, H⟩ := H
 replace H : (if t216 = true then (spec_ChartOk.l0 k l0 0) else (some false)) = some r := H
 have A2 := Aside0.mk A20
 clear A20
 by_cases c3 : t216 = true
 ·subst c3
  have H1 : (spec_ChartOk.l0 k l0 0) = some r := by rw [if_pos rfl] at H; exact H
  clear H
  have H := H1
  clear H1
  have H' := Aside0.mk H
  clear H
  go_enter Try.func166, Try.ntmps166
  go_wp2_with (first | (go_at_call 79; (with_reducible refine (spec_l1In.calls (l0.length : Int) 1 120 true _ A2.out).mono ?_); rintro e w' ⟨rfl, ⟨nd, rfl⟩⟩; (try first | exact ⟨rfl, _, World.drewN_drewN _ _ _⟩ | exact ⟨rfl, _, Eq.trans (World.drewN_drewN _ _ _) (congrArg (World.drewN _) (Nat.add_assoc _ _ _))⟩)))
  repeat (go_quiet (first | (go_at_call 79; (with_reducible refine (spec_l1In.calls (l0.length : Int) 1 120 true _ A2.out).mono ?_); rintro e w' ⟨rfl, ⟨nd, rfl⟩⟩; (try first | exact ⟨rfl, _, World.drewN_drewN _ _ _⟩ | exact ⟨rfl, _, Eq.trans (World.drewN_drewN _ _ _) (congrArg (World.drewN _) (Nat.add_assoc _ _ _))⟩))); try go_wp2_with (first | (go_at_call 79; (with_reducible refine (spec_l1In.calls (l0.length : Int) 1 120 true _ A2.out).mono ?_); rintro e w' ⟨rfl, ⟨nd, rfl⟩⟩; (try first | exact ⟨rfl, _, World.drewN_drewN _ _ _⟩ | exact ⟨rfl, _, Eq.trans (World.drewN_drewN _ _ _) (congrArg (World.drewN _) (Nat.add_assoc _ _ _))⟩))))
  go_loopg [3] k (fun kq v3 w' => ∃ (x3_1 : Int), v3 = .int .i64 x3_1 ∧ Aside0 (spec_ChartOk.l0 kq l0 x3_1 = some r) ∧ Aside0 (kq ≤ k) ∧ Aside0 (Below w.heap.size w w'))
  case atStart => exact ⟨(0), z6_8, H', ⟨Nat.le_refl _⟩, ⟨z6_2⟩⟩
  case round =>
   clear H'
   try clear c1
   try clear p2
   try clear c3
   obtain ⟨x3_1, rfl, HA, HK1, HB⟩ := hrel
   cases gk with
   | zero => exact absurd HA.out (by simp [spec_ChartOk.l0])
   | succ k1 =>
    have H := HA.out
    clear HA
    simp only [spec_ChartOk.l0] at H
    by_cases c4 : x3_1 < (l0.length : Int)
    ·rw [if_pos c4] at H
     have c4b0 : decide (x3_1 < (l0.length : Int)) = true := decide_eq_true c4
     clear c4
     by_cases c5 : 0 ≤ x3_1
     case neg => rw [if_neg c5] at H; exact absurd H (by simp)
     rw [if_pos c5] at H
     have c5b0 : decide (0 ≤ x3_1) = true := decide_eq_true c5
     clear c5
     have HC6 := Aside0.mk H
     clear H
     have p217 : 0 ≤ (x3_1 : Int) := of_decide_eq_true z6_6
     have q217 : x3_1 < (l0.length : Int) := of_decide_eq_true z6_6
     obtain ⟨ad217, e217, hx217_0, hx217_1, hx217_2⟩ := at_T209 HR0.out x3_1 p217 q217
     cases e217
     replace hx217_0 := (HB.out.cell (World.block_lt_of_cell? w _ hx217_0)).trans hx217_0
     replace hx217_1 := (HB.out.cell (World.block_lt_of_cell? w _ hx217_1)).trans hx217_1
     replace hx217_2 := (HB.out.cell (World.block_lt_of_cell? w _ hx217_2)).trans hx217_2
     replace p217 := eq_true p217
     replace q217 := eq_true q217
     go_upto_region 7 with (first | ((with_reducible refine qa1 (N := 4) rfl ?_); refine qe1 ?hg (N := 4) ?hd (cs := #[.string (⟨#[]⟩ : ByteArray), .int .i64 0, .int .i64 0]) (t := 209) ?hr ?_; (case hd => rfl); (case hg => rfl); (case hr => first | (go_simp; done) | (go_simp; rfl)); intro gb218 hg w7 hbox hb; have n0_ := Aside0.mk (ql0 z6_2 hb); have n1_ := Aside0.mk (hbox); have n2_ := Aside0.mk ((z6_4 : w.heap.size ≤ gb218)); have n3_ := Aside0.mk ((z6_4 : w.heap.size ≤ gb218)); clear HB; have HB := n0_; have BK218 := n1_; have GW218 := n2_; have GE218 := n3_; clear n0_ n1_ n2_ n3_; clear hb hbox hg; have hcz8_0 : w7.cell? ⟨gb218, 0, none⟩ = some (.string (⟨#[]⟩ : ByteArray)) := (qb0 BK218.out 0).trans rfl; have hcz8_1 : w7.cell? ⟨gb218, 1, none⟩ = some (.int .i64 0) := (qb0 BK218.out 1).trans rfl; have hcz8_2 : w7.cell? ⟨gb218, 2, none⟩ = some (.int .i64 0) := (qb0 BK218.out 2).trans rfl; have hfz8_0 := qa0 BK218.out 0; have hfz8_1 := qa0 BK218.out 1; have hfz8_2 := qa0 BK218.out 2))
     repeat (go_quiet (first | ((with_reducible refine qa1 (N := 4) rfl ?_); refine qe1 ?hg (N := 4) ?hd (cs := #[.string (⟨#[]⟩ : ByteArray), .int .i64 0, .int .i64 0]) (t := 209) ?hr ?_; (case hd => rfl); (case hg => rfl); (case hr => first | (go_simp; done) | (go_simp; rfl)); intro gb218 hg w7 hbox hb; have n0_ := Aside0.mk (ql0 z6_2 hb); have n1_ := Aside0.mk (hbox); have n2_ := Aside0.mk ((z6_4 : w.heap.size ≤ gb218)); have n3_ := Aside0.mk ((z6_4 : w.heap.size ≤ gb218)); clear HB; have HB := n0_; have BK218 := n1_; have GW218 := n2_; have GE218 := n3_; clear n0_ n1_ n2_ n3_; clear hb hbox hg; have hcz8_0 : w7.cell? ⟨gb218, 0, none⟩ = some (.string (⟨#[]⟩ : ByteArray)) := (qb0 BK218.out 0).trans rfl; have hcz8_1 : w7.cell? ⟨gb218, 1, none⟩ = some (.int .i64 0) := (qb0 BK218.out 1).trans rfl; have hcz8_2 : w7.cell? ⟨gb218, 2, none⟩ = some (.int .i64 0) := (qb0 BK218.out 2).trans rfl; have hfz8_0 := qa0 BK218.out 0; have hfz8_1 := qa0 BK218.out 1; have hfz8_2 := qa0 BK218.out 2)); go_upto_region 7 with (first | ((with_reducible refine qa1 (N := 4) rfl ?_); refine qe1 ?hg (N := 4) ?hd (cs := #[.string (⟨#[]⟩ : ByteArray), .int .i64 0, .int .i64 0]) (t := 209) ?hr ?_; (case hd => rfl); (case hg => rfl); (case hr => first | (go_simp; done) | (go_simp; rfl)); intro gb218 hg w7 hbox hb; have n0_ := Aside0.mk (ql0 z6_2 hb); have n1_ := Aside0.mk (hbox); have n2_ := Aside0.mk ((z6_4 : w.heap.size ≤ gb218)); have n3_ := Aside0.mk ((z6_4 : w.heap.size ≤ gb218)); clear HB; have HB := n0_; have BK218 := n1_; have GW218 := n2_; have GE218 := n3_; clear n0_ n1_ n2_ n3_; clear hb hbox hg; have hcz8_0 : w7.cell? ⟨gb218, 0, none⟩ = some (.string (⟨#[]⟩ : ByteArray)) := (qb0 BK218.out 0).trans rfl; have hcz8_1 : w7.cell? ⟨gb218, 1, none⟩ = some (.int .i64 0) := (qb0 BK218.out 1).trans rfl; have hcz8_2 : w7.cell? ⟨gb218, 2, none⟩ = some (.int .i64 0) := (qb0 BK218.out 2).trans rfl; have hfz8_0 := qa0 BK218.out 0; have hfz8_1 := qa0 BK218.out 1; have hfz8_2 := qa0 BK218.out 2)))
     (try simp only [Act.put, List.setIfInBounds_toArray, List.set_cons_zero, List.set_cons_succ])
     go_cut [38] (fun v38 wc => ∃ (kq : Nat) (x38_5 : Bool), v38 = .bool x38_5 ∧ Aside0 (spec_ChartOk.j1 kq l0 x3_1 x38_5 ((rd_T209 l0 x3_1).f0) ((rd_T209 l0 x3_1).f1) ((rd_T209 l0 x3_1).f2) = some r) ∧ Aside0 (kq ≤ k1) ∧ Aside0 (wc.heap[gb218]? = some (.cells #[.string ((rd_T209 l0 x3_1).f0), .int .i64 ((rd_T209 l0 x3_1).f1), .int .i64 ((rd_T209 l0 x3_1).f2)] 209 (0, 0))) ∧ Aside0 (Below w.heap.size w wc))
     case first =>
      have H := HC6.out
      clear HC6
      replace H := Option.bind_eq_some_iff.mp H
      obtain ⟨t219, A90, H⟩ := H
      replace H : (if t219 = true then ((spec_l1In.f ((rd_T209 l0 x3_1).f2) 1 5).bind fun t220 => (if t220 = true then ((spec_l1In.f ((rd_T209 l0 x3_1).f1) (-1) (wrap64 (x3_1 - 1))).bind fun t221 => (spec_ChartOk.j1 k1 l0 x3_1 (!t221) ((rd_T209 l0 x3_1).f0) ((rd_T209 l0 x3_1).f1) ((rd_T209 l0 x3_1).f2))) else (spec_ChartOk.j1 k1 l0 x3_1 true ((rd_T209 l0 x3_1).f0) ((rd_T209 l0 x3_1).f1) ((rd_T209 l0 x3_1).f2)))) else (spec_ChartOk.j1 k1 l0 x3_1 true ((rd_T209 l0 x3_1).f0) ((rd_T209 l0 x3_1).f1) ((rd_T209 l0 x3_1).f2))) = some r := H
      have A9 := Aside0.mk A90
      clear A90
      by_cases c10 : t219 = true
      ·subst c10
       have H1 : ((spec_l1In.f ((rd_T209 l0 x3_1).f2) 1 5).bind fun t220 => (if t220 = true then ((spec_l1In.f ((rd_T209 l0 x3_1).f1) (-1) (wrap64 (x3_1 - 1))).bind fun t221 => (spec_ChartOk.j1 k1 l0 x3_1 (!t221) ((rd_T209 l0 x3_1).f0) ((rd_T209 l0 x3_1).f1) ((rd_T209 l0 x3_1).f2))) else (spec_ChartOk.j1 k1 l0 x3_1 true ((rd_T209 l0 x3_1).f0) ((rd_T209 l0 x3_1).f1) ((rd_T209 l0 x3_1).f2)))) = some r := by rw [if_pos rfl] at H; exact H
       clear H
       have H := H1
       clear H1
       replace H := Option.bind_eq_some_iff.mp H
       obtain ⟨t220, A110, H⟩ := H
       replace H : (if t220 = true then ((spec_l1In.f ((rd_T209 l0 x3_1).f1) (-1) (wrap64 (x3_1 - 1))).bind fun t221 => (spec_ChartOk.j1 k1 l0 x3_1 (!t221) ((rd_T209 l0 x3_1).f0) ((rd_T209 l0 x3_1).f1) ((rd_T209 l0 x3_1).f2))) else (spec_ChartOk.j1 k1 l0 x3_1 true ((rd_T209 l0 x3_1).f0) ((rd_T209 l0 x3_1).f1) ((rd_T209 l0 x3_1).f2))) = some r := H
       have A11 := Aside0.mk A110
       clear A110
       by_cases c12 : t220 = true
       ·subst c12
        have H1 : ((spec_l1In.f ((rd_T209 l0 x3_1).f1) (-1) (wrap64 (x3_1 - 1))).bind fun t221 => (spec_ChartOk.j1 k1 l0 x3_1 (!t221) ((rd_T209 l0 x3_1).f0) ((rd_T209 l0 x3_1).f1) ((rd_T209 l0 x3_1).f2))) = some r := by rw [if_pos rfl] at H; exact H
        clear H
        have H := H1
        clear H1
        replace H := Option.bind_eq_some_iff.mp H
        obtain ⟨t221, A130, H⟩ := H
        replace H : (spec_ChartOk.j1 k1 l0 x3_1 (!t221) ((rd_T209 l0 x3_1).f0) ((rd_T209 l0 x3_1).f1) ((rd_T209 l0 x3_1).f2)) = some r := H
        have A13 := Aside0.mk A130
        clear A130
        have H' := Aside0.mk H
        clear H
        have hcz14_0 : w7.cell? ⟨gb218, 0, none⟩ = some (.string (⟨#[]⟩ : ByteArray)) := (qb0 BK218.out 0).trans rfl
        have hcz14_1 : w7.cell? ⟨gb218, 1, none⟩ = some (.int .i64 0) := (qb0 BK218.out 1).trans rfl
        have hcz14_2 : w7.cell? ⟨gb218, 2, none⟩ = some (.int .i64 0) := (qb0 BK218.out 2).trans rfl
        have hfz14_0 := qa0 BK218.out 0
        have hfz14_1 := qa0 BK218.out 1
        have hfz14_2 := qa0 BK218.out 2
        go_wp2_with (first | (go_at_call 78; (with_reducible refine (spec_NameOk.calls k1 ((rd_T209 l0 x3_1).f0) true _ A9.out).mono ?_); rintro e w' ⟨rfl, ⟨nd, rfl⟩⟩; (try first | exact ⟨rfl, _, World.drewN_drewN _ _ _⟩ | exact ⟨rfl, _, Eq.trans (World.drewN_drewN _ _ _) (congrArg (World.drewN _) (Nat.add_assoc _ _ _))⟩)) | (go_at_call 79; (with_reducible refine (spec_l1In.calls ((rd_T209 l0 x3_1).f2) 1 5 true _ A11.out).mono ?_); rintro e w' ⟨rfl, ⟨nd, rfl⟩⟩; (try first | exact ⟨rfl, _, World.drewN_drewN _ _ _⟩ | exact ⟨rfl, _, Eq.trans (World.drewN_drewN _ _ _) (congrArg (World.drewN _) (Nat.add_assoc _ _ _))⟩)) | (go_at_call 79; (with_reducible refine (spec_l1In.calls ((rd_T209 l0 x3_1).f1) (-1) (wrap64 (x3_1 - 1)) t221 _ A13.out).mono ?_); rintro e w' ⟨rfl, ⟨nd, rfl⟩⟩; (try first | exact ⟨rfl, _, World.drewN_drewN _ _ _⟩ | exact ⟨rfl, _, Eq.trans (World.drewN_drewN _ _ _) (congrArg (World.drewN _) (Nat.add_assoc _ _ _))⟩)))
        repeat (go_quiet (first | (go_at_call 78; (with_reducible refine (spec_NameOk.calls k1 ((rd_T209 l0 x3_1).f0) true _ A9.out).mono ?_); rintro e w' ⟨rfl, ⟨nd, rfl⟩⟩; (try first | exact ⟨rfl, _, World.drewN_drewN _ _ _⟩ | exact ⟨rfl, _, Eq.trans (World.drewN_drewN _ _ _) (congrArg (World.drewN _) (Nat.add_assoc _ _ _))⟩)) | (go_at_call 79; (with_reducible refine (spec_l1In.calls ((rd_T209 l0 x3_1).f2) 1 5 true _ A11.out).mono ?_); rintro e w' ⟨rfl, ⟨nd, rfl⟩⟩; (try first | exact ⟨rfl, _, World.drewN_drewN _ _ _⟩ | exact ⟨rfl, _, Eq.trans (World.drewN_drewN _ _ _) (congrArg (World.drewN _) (Nat.add_assoc _ _ _))⟩)) | (go_at_call 79; (with_reducible refine (spec_l1In.calls ((rd_T209 l0 x3_1).f1) (-1) (wrap64 (x3_1 - 1)) t221 _ A13.out).mono ?_); rintro e w' ⟨rfl, ⟨nd, rfl⟩⟩; (try first | exact ⟨rfl, _, World.drewN_drewN _ _ _⟩ | exact ⟨rfl, _, Eq.trans (World.drewN_drewN _ _ _) (congrArg (World.drewN _) (Nat.add_assoc _ _ _))⟩))); try go_wp2_with (first | (go_at_call 78; (with_reducible refine (spec_NameOk.calls k1 ((rd_T209 l0 x3_1).f0) true _ A9.out).mono ?_); rintro e w' ⟨rfl, ⟨nd, rfl⟩⟩; (try first | exact ⟨rfl, _, World.drewN_drewN _ _ _⟩ | exact ⟨rfl, _, Eq.trans (World.drewN_drewN _ _ _) (congrArg (World.drewN _) (Nat.add_assoc _ _ _))⟩)) | (go_at_call 79; (with_reducible refine (spec_l1In.calls ((rd_T209 l0 x3_1).f2) 1 5 true _ A11.out).mono ?_); rintro e w' ⟨rfl, ⟨nd, rfl⟩⟩; (try first | exact ⟨rfl, _, World.drewN_drewN _ _ _⟩ | exact ⟨rfl, _, Eq.trans (World.drewN_drewN _ _ _) (congrArg (World.drewN _) (Nat.add_assoc _ _ _))⟩)) | (go_at_call 79; (with_reducible refine (spec_l1In.calls ((rd_T209 l0 x3_1).f1) (-1) (wrap64 (x3_1 - 1)) t221 _ A13.out).mono ?_); rintro e w' ⟨rfl, ⟨nd, rfl⟩⟩; (try first | exact ⟨rfl, _, World.drewN_drewN _ _ _⟩ | exact ⟨rfl, _, Eq.trans (World.drewN_drewN _ _ _) (congrArg (World.drewN _) (Nat.add_assoc _ _ _))⟩))))
        go_meet
        case rel => exact ⟨_, (!t221), z6_8, H', ⟨by have := HK1.out; first | omega | exact Nat.le_refl _⟩, ⟨z6_1⟩, ⟨z6_0⟩⟩
       replace c12 := Bool.eq_false_iff.mpr c12
       subst c12
       have H1 : (spec_ChartOk.j1 k1 l0 x3_1 true ((rd_T209 l0 x3_1).f0) ((rd_T209 l0 x3_1).f1) ((rd_T209 l0 x3_1).f2)) = some r := by rw [if_neg (show ¬ (false = true) by decide)] at H; exact H
       clear H
       have H := H1
       clear H1
       have H' := Aside0.mk H
       clear H
       have hcz15_0 : w7.cell? ⟨gb218, 0, none⟩ = some (.string (⟨#[]⟩ : ByteArray)) := (qb0 BK218.out 0).trans rfl
       have hcz15_1 : w7.cell? ⟨gb218, 1, none⟩ = some (.int .i64 0) := (qb0 BK218.out 1).trans rfl
       have hcz15_2 : w7.cell? ⟨gb218, 2, none⟩ = some (.int .i64 0) := (qb0 BK218.out 2).trans rfl
       have hfz15_0 := qa0 BK218.out 0
       have hfz15_1 := qa0 BK218.out 1
       have hfz15_2 := qa0 BK218.out 2
       go_wp2_with (first | (go_at_call 78; (with_reducible refine (spec_NameOk.calls k1 ((rd_T209 l0 x3_1).f0) true _ A9.out).mono ?_); rintro e w' ⟨rfl, ⟨nd, rfl⟩⟩; (try first | exact ⟨rfl, _, World.drewN_drewN _ _ _⟩ | exact ⟨rfl, _, Eq.trans (World.drewN_drewN _ _ _) (congrArg (World.drewN _) (Nat.add_assoc _ _ _))⟩)) | (go_at_call 79; (with_reducible refine (spec_l1In.calls ((rd_T209 l0 x3_1).f2) 1 5 false _ A11.out).mono ?_); rintro e w' ⟨rfl, ⟨nd, rfl⟩⟩; (try first | exact ⟨rfl, _, World.drewN_drewN _ _ _⟩ | exact ⟨rfl, _, Eq.trans (World.drewN_drewN _ _ _) (congrArg (World.drewN _) (Nat.add_assoc _ _ _))⟩)))
       repeat (go_quiet (first | (go_at_call 78; (with_reducible refine (spec_NameOk.calls k1 ((rd_T209 l0 x3_1).f0) true _ A9.out).mono ?_); rintro e w' ⟨rfl, ⟨nd, rfl⟩⟩; (try first | exact ⟨rfl, _, World.drewN_drewN _ _ _⟩ | exact ⟨rfl, _, Eq.trans (World.drewN_drewN _ _ _) (congrArg (World.drewN _) (Nat.add_assoc _ _ _))⟩)) | (go_at_call 79; (with_reducible refine (spec_l1In.calls ((rd_T209 l0 x3_1).f2) 1 5 false _ A11.out).mono ?_); rintro e w' ⟨rfl, ⟨nd, rfl⟩⟩; (try first | exact ⟨rfl, _, World.drewN_drewN _ _ _⟩ | exact ⟨rfl, _, Eq.trans (World.drewN_drewN _ _ _) (congrArg (World.drewN _) (Nat.add_assoc _ _ _))⟩))); try go_wp2_with (first | (go_at_call 78; (with_reducible refine (spec_NameOk.calls k1 ((rd_T209 l0 x3_1).f0) true _ A9.out).mono ?_); rintro e w' ⟨rfl, ⟨nd, rfl⟩⟩; (try first | exact ⟨rfl, _, World.drewN_drewN _ _ _⟩ | exact ⟨rfl, _, Eq.trans (World.drewN_drewN _ _ _) (congrArg (World.drewN _) (Nat.add_assoc _ _ _))⟩)) | (go_at_call 79; (with_reducible refine (spec_l1In.calls ((rd_T209 l0 x3_1).f2) 1 5 false _ A11.out).mono ?_); rintro e w' ⟨rfl, ⟨nd, rfl⟩⟩; (try first | exact ⟨rfl, _, World.drewN_drewN _ _ _⟩ | exact ⟨rfl, _, Eq.trans (World.drewN_drewN _ _ _) (congrArg (World.drewN _) (Nat.add_assoc _ _ _))⟩))))
       go_meet
       case rel => exact ⟨_, (true), z6_8, H', ⟨by have := HK1.out; first | omega | exact Nat.le_refl _⟩, ⟨z6_1⟩, ⟨z6_0⟩⟩
      replace c10 := Bool.eq_false_iff.mpr c10
      subst c10
      have H1 : (spec_ChartOk.j1 k1 l0 x3_1 true ((rd_T209 l0 x3_1).f0) ((rd_T209 l0 x3_1).f1) ((rd_T209 l0 x3_1).f2)) = some r := by rw [if_neg (show ¬ (false = true) by decide)] at H; exact H
      clear H
      have H := H1
      clear H1
      have H' := Aside0.mk H
      clear H
      have hcz16_0 : w7.cell? ⟨gb218, 0, none⟩ = some (.string (⟨#[]⟩ : ByteArray)) := (qb0 BK218.out 0).trans rfl
      have hcz16_1 : w7.cell? ⟨gb218, 1, none⟩ = some (.int .i64 0) := (qb0 BK218.out 1).trans rfl
      have hcz16_2 : w7.cell? ⟨gb218, 2, none⟩ = some (.int .i64 0) := (qb0 BK218.out 2).trans rfl
      have hfz16_0 := qa0 BK218.out 0
      have hfz16_1 := qa0 BK218.out 1
      have hfz16_2 := qa0 BK218.out 2
      go_wp2_with (first | (go_at_call 78; (with_reducible refine (spec_NameOk.calls k1 ((rd_T209 l0 x3_1).f0) false _ A9.out).mono ?_); rintro e w' ⟨rfl, ⟨nd, rfl⟩⟩; (try first | exact ⟨rfl, _, World.drewN_drewN _ _ _⟩ | exact ⟨rfl, _, Eq.trans (World.drewN_drewN _ _ _) (congrArg (World.drewN _) (Nat.add_assoc _ _ _))⟩)))
      repeat (go_quiet (first | (go_at_call 78; (with_reducible refine (spec_NameOk.calls k1 ((rd_T209 l0 x3_1).f0) false _ A9.out).mono ?_); rintro e w' ⟨rfl, ⟨nd, rfl⟩⟩; (try first | exact ⟨rfl, _, World.drewN_drewN _ _ _⟩ | exact ⟨rfl, _, Eq.trans (World.drewN_drewN _ _ _) (congrArg (World.drewN _) (Nat.add_assoc _ _ _))⟩))); try go_wp2_with (first | (go_at_call 78; (with_reducible refine (spec_NameOk.calls k1 ((rd_T209 l0 x3_1).f0) false _ A9.out).mono ?_); rintro e w' ⟨rfl, ⟨nd, rfl⟩⟩; (try first | exact ⟨rfl, _, World.drewN_drewN _ _ _⟩ | exact ⟨rfl, _, Eq.trans (World.drewN_drewN _ _ _) (congrArg (World.drewN _) (Nat.add_assoc _ _ _))⟩))))
      go_meet
      case rel => exact ⟨_, (true), z6_8, H', ⟨by have := HK1.out; first | omega | exact Nat.le_refl _⟩, ⟨z6_1⟩, ⟨z6_0⟩⟩
     case rest =>
      clear HC6
      try clear c1
      try clear p2
      try clear q2
      try clear hx2
      try clear c3
      try clear c4
      try clear c4b0
      try clear c5
      try clear c5b0
      try clear p6
      try clear c10
      try clear c12
      try clear c16
      try clear hcz14_0
      try clear hcz14_1
      try clear hcz14_2
      try clear hcz15_0
      try clear hcz15_1
      try clear hcz15_2
      try clear hcz16_0
      try clear hcz16_1
      try clear hcz16_2
      try clear hcz8_0
      try clear hcz8_1
      try clear hcz8_2
      try clear hfz14_0
      try clear hfz14_1
      try clear hfz14_2
      try clear hfz15_0
      try clear hfz15_1
      try clear hfz15_2
      try clear hfz16_0
      try clear hfz16_1
      try clear hfz16_2
      try clear hfz8_0
      try clear hfz8_1
      try clear hfz8_2
      try clear hx217_0
      try clear hx217_1
      try clear hx217_2
      try clear p2
      try clear p217
      try clear q217
      obtain ⟨kq, x38_5, rfl, HA, HJ5, BK218, HB⟩ := hcut
      cases kq with
      | zero => exact absurd HA.out (by simp [spec_ChartOk.j1])
      | succ kj5 =>
       have H := HA.out
       clear HA
       simp only [spec_ChartOk.j1] at H
       by_cases c17 : x38_5 = true
       ·subst c17
        have H1 : (some false) = some r := by rw [if_pos rfl] at H; exact H
        clear H
        have H := H1
        clear H1
        obtain rfl := Option.some.inj H
        go_wp2
        repeat (go_quiet (fail); try go_wp2)
        go_ret
        exact ⟨z6_5, z6_0⟩
       replace c17 := Bool.eq_false_iff.mpr c17
       subst c17
       have H1 : (spec_ChartOk.l1 kj5 l0 x3_1 0 ((rd_T209 l0 x3_1).f0) ((rd_T209 l0 x3_1).f1) ((rd_T209 l0 x3_1).f2)) = some r := by rw [if_neg (show ¬ (false = true) by decide)] at H; exact H
       clear H
       have H := H1
       clear H1
       have H' := Aside0.mk H
       clear H
       go_wp2
       repeat (go_quiet (fail); try go_wp2)
       go_loopg [5] kj5 (fun kq v5 w' => ∃ (x5_3 : Int), v5 = .int .i64 x5_3 ∧ Aside0 (spec_ChartOk.l1 kq l0 x3_1 x5_3 ((rd_T209 l0 x3_1).f0) ((rd_T209 l0 x3_1).f1) ((rd_T209 l0 x3_1).f2) = some r) ∧ Aside0 (kq ≤ kj5) ∧ Aside0 (w'.heap[gb218]? = some (.cells #[.string ((rd_T209 l0 x3_1).f0), .int .i64 ((rd_T209 l0 x3_1).f1), .int .i64 ((rd_T209 l0 x3_1).f2)] 209 (0, 0))) ∧ Aside0 (Below w.heap.size w w'))
       case atStart => exact ⟨(0), z6_8, H', ⟨Nat.le_refl _⟩, ⟨z6_7⟩, ⟨z6_0⟩⟩
       case round =>
        clear H'
        try clear c1
        try clear p2
        try clear q2
        try clear hx2
        try clear c3
        try clear c4
        try clear c4b0
        try clear c5
        try clear c5b0
        try clear p6
        try clear c10
        try clear c12
        try clear c16
        try clear c17
        try clear hcz14_0
        try clear hcz14_1
        try clear hcz14_2
        try clear hcz15_0
        try clear hcz15_1
        try clear hcz15_2
        try clear hcz16_0
        try clear hcz16_1
        try clear hcz16_2
        try clear hcz8_0
        try clear hcz8_1
        try clear hcz8_2
        try clear hfz14_0
        try clear hfz14_1
        try clear hfz14_2
        try clear hfz15_0
        try clear hfz15_1
        try clear hfz15_2
        try clear hfz16_0
        try clear hfz16_1
        try clear hfz16_2
        try clear hfz8_0
        try clear hfz8_1
        try clear hfz8_2
        try clear hx217_0
        try clear hx217_1
        try clear hx217_2
        try clear p2
        try clear p217
        try clear p6
        try clear q2
        try clear q217
        obtain ⟨x5_3, rfl, HA, HK3, BK218, HB⟩ := hrel
        cases gk with
        | zero => exact absurd HA.out (by simp [spec_ChartOk.l1])
        | succ k3 =>
         have H := HA.out
         clear HA
         simp only [spec_ChartOk.l1] at H
         by_cases c18 : x5_3 < x3_1
         ·rw [if_pos c18] at H
          have c18b0 : decide (x5_3 < x3_1) = true := decide_eq_true c18
          clear c18
          by_cases c19 : 0 ≤ x5_3
          case neg => rw [if_neg c19] at H; exact absurd H (by simp)
          rw [if_pos c19] at H
          have c19b0 : decide (0 ≤ x5_3) = true := decide_eq_true c19
          clear c19
          by_cases c20 : x5_3 < (l0.length : Int)
          case neg => rw [if_neg c20] at H; exact absurd H (by simp)
          rw [if_pos c20] at H
          have c20b0 : decide (x5_3 < (l0.length : Int)) = true := decide_eq_true c20
          clear c20
          by_cases c21 : ((rd_T209 l0 x5_3).f0).toList = ((rd_T209 l0 x3_1).f0).toList
          ·rw [if_pos c21] at H
           have c21b0 : (((rd_T209 l0 x5_3).f0).toList == ((rd_T209 l0 x3_1).f0).toList) = true := beq_iff_eq.mpr c21
           have c21b1 : (((rd_T209 l0 x5_3).f0).toList != ((rd_T209 l0 x3_1).f0).toList) = false := bne_eq_false_iff_eq.mpr c21
           clear c21
           obtain rfl := Option.some.inj H
           have p222 : 0 ≤ (x5_3 : Int) := of_decide_eq_true z6_6
           have q222 : x5_3 < (l0.length : Int) := of_decide_eq_true z6_6
           obtain ⟨ad222, e222, hx222_0, hx222_1, hx222_2⟩ := at_T209 HR0.out x5_3 p222 q222
           obtain rfl : ad217 = ad222 := (by injection e222)
           replace hx222_0 := (HB.out.cell (World.block_lt_of_cell? w _ hx222_0)).trans hx222_0
           replace hx222_1 := (HB.out.cell (World.block_lt_of_cell? w _ hx222_1)).trans hx222_1
           replace hx222_2 := (HB.out.cell (World.block_lt_of_cell? w _ hx222_2)).trans hx222_2
           replace p222 := eq_true p222
           replace q222 := eq_true q222
           have hcz22_0 : wr.cell? ⟨gb218, 0, none⟩ = some (.string ((rd_T209 l0 x3_1).f0)) := (qb0 BK218.out 0).trans rfl
           have hcz22_1 : wr.cell? ⟨gb218, 1, none⟩ = some (.int .i64 ((rd_T209 l0 x3_1).f1)) := (qb0 BK218.out 1).trans rfl
           have hcz22_2 : wr.cell? ⟨gb218, 2, none⟩ = some (.int .i64 ((rd_T209 l0 x3_1).f2)) := (qb0 BK218.out 2).trans rfl
           have hfz22_0 := qa0 BK218.out 0
           have hfz22_1 := qa0 BK218.out 1
           have hfz22_2 := qa0 BK218.out 2
           go_wp2
           repeat (go_quiet (fail); try go_wp2)
           go_ret
           exact ⟨z6_5, z6_0⟩
          rw [if_neg c21] at H
          have c21b0 : (((rd_T209 l0 x5_3).f0).toList == ((rd_T209 l0 x3_1).f0).toList) = false := beq_eq_false_iff_ne.mpr c21
          have c21b1 : (((rd_T209 l0 x5_3).f0).toList != ((rd_T209 l0 x3_1).f0).toList) = true := bne_iff_ne.mpr c21
          have H' := Aside0.mk H
          clear H
          have p222 : 0 ≤ (x5_3 : Int) := of_decide_eq_true z6_6
          have q222 : x5_3 < (l0.length : Int) := of_decide_eq_true z6_6
          obtain ⟨ad222, e222, hx222_0, hx222_1, hx222_2⟩ := at_T209 HR0.out x5_3 p222 q222
          obtain rfl : ad217 = ad222 := (by injection e222)
          replace hx222_0 := (HB.out.cell (World.block_lt_of_cell? w _ hx222_0)).trans hx222_0
          replace hx222_1 := (HB.out.cell (World.block_lt_of_cell? w _ hx222_1)).trans hx222_1
          replace hx222_2 := (HB.out.cell (World.block_lt_of_cell? w _ hx222_2)).trans hx222_2
          replace p222 := eq_true p222
          replace q222 := eq_true q222
          have hcz23_0 : wr.cell? ⟨gb218, 0, none⟩ = some (.string ((rd_T209 l0 x3_1).f0)) := (qb0 BK218.out 0).trans rfl
          have hcz23_1 : wr.cell? ⟨gb218, 1, none⟩ = some (.int .i64 ((rd_T209 l0 x3_1).f1)) := (qb0 BK218.out 1).trans rfl
          have hcz23_2 : wr.cell? ⟨gb218, 2, none⟩ = some (.int .i64 ((rd_T209 l0 x3_1).f2)) := (qb0 BK218.out 2).trans rfl
          have hfz23_0 := qa0 BK218.out 0
          have hfz23_1 := qa0 BK218.out 1
          have hfz23_2 := qa0 BK218.out 2
          go_wp2
          repeat (go_quiet (fail); try go_wp2)
          go_roundg k3
          case measure => have := HK1.out; have := HJ5.out; have := HK3.out; omega
          case rel => exact ⟨(wrap64 (x5_3 + 1)), z6_8, H', ⟨by have := HK1.out; have := HJ5.out; have := HK3.out; omega⟩, ⟨z6_7⟩, ⟨z6_0⟩⟩
         rw [if_neg c18] at H
         have c18b0 : decide (x5_3 < x3_1) = false := decide_eq_false c18
         clear c18
         by_cases c24 : ((rd_T209 l0 x3_1).f1) < 0
         ·rw [if_pos c24] at H
          have c24b0 : decide (((rd_T209 l0 x3_1).f1) < 0) = true := decide_eq_true c24
          clear c24
          have H' := Aside0.mk H
          clear H
          have hcz25_0 : wr.cell? ⟨gb218, 0, none⟩ = some (.string ((rd_T209 l0 x3_1).f0)) := (qb0 BK218.out 0).trans rfl
          have hcz25_1 : wr.cell? ⟨gb218, 1, none⟩ = some (.int .i64 ((rd_T209 l0 x3_1).f1)) := (qb0 BK218.out 1).trans rfl
          have hcz25_2 : wr.cell? ⟨gb218, 2, none⟩ = some (.int .i64 ((rd_T209 l0 x3_1).f2)) := (qb0 BK218.out 2).trans rfl
          have hfz25_0 := qa0 BK218.out 0
          have hfz25_1 := qa0 BK218.out 1
          have hfz25_2 := qa0 BK218.out 2
          go_wp2
          repeat (go_quiet (fail); try go_wp2)
          go_roundg k3
          case measure => have := HK1.out; have := HJ5.out; have := HK3.out; omega
          case rel => exact ⟨(wrap64 (x3_1 + 1)), z6_8, H', ⟨by have := HK1.out; have := HJ5.out; have := HK3.out; omega⟩, ⟨z6_0⟩⟩
         rw [if_neg c24] at H
         have c24b0 : decide (((rd_T209 l0 x3_1).f1) < 0) = false := decide_eq_false c24
         clear c24
         have H' := Aside0.mk H
         clear H
         have hcz26_0 : wr.cell? ⟨gb218, 0, none⟩ = some (.string ((rd_T209 l0 x3_1).f0)) := (qb0 BK218.out 0).trans rfl
         have hcz26_1 : wr.cell? ⟨gb218, 1, none⟩ = some (.int .i64 ((rd_T209 l0 x3_1).f1)) := (qb0 BK218.out 1).trans rfl
         have hcz26_2 : wr.cell? ⟨gb218, 2, none⟩ = some (.int .i64 ((rd_T209 l0 x3_1).f2)) := (qb0 BK218.out 2).trans rfl
         have hfz26_0 := qa0 BK218.out 0
         have hfz26_1 := qa0 BK218.out 1
         have hfz26_2 := qa0 BK218.out 2
         go_wp2
         repeat (go_quiet (fail); try go_wp2)
         go_loopg [6] k3 (fun kq v6 w' => ∃ (x6_4 : Int), v6 = .int .i64 x6_4 ∧ Aside0 (spec_ChartOk.l2 kq l0 x3_1 x6_4 ((rd_T209 l0 x3_1).f0) ((rd_T209 l0 x3_1).f1) ((rd_T209 l0 x3_1).f2) = some r) ∧ Aside0 (kq ≤ k3) ∧ Aside0 (w'.heap[gb218]? = some (.cells #[.string ((rd_T209 l0 x3_1).f0), .int .i64 ((rd_T209 l0 x3_1).f1), .int .i64 ((rd_T209 l0 x3_1).f2)] 209 (0, 0))) ∧ Aside0 (Below w.heap.size w w'))
         case atStart => exact ⟨(wrap64 (x3_1 - 1)), z6_8, H', ⟨Nat.le_refl _⟩, ⟨z6_7⟩, ⟨z6_0⟩⟩
         case round =>
          clear H'
          try clear c1
          try clear c2
          try clear p2
          try clear q2
          try clear hx2
          try clear c3
          try clear c4
          try clear c4b0
          try clear c5
          try clear c5b0
          try clear p6
          try clear c10
          try clear c12
          try clear c16
          try clear c17
          try clear c18
          try clear c18b0
          try clear c19
          try clear c19b0
          try clear c20
          try clear c20b0
          try clear c21
          try clear c21b0
          try clear c21b1
          try clear p21
          try clear q21
          try clear hx21
          try clear p22
          try clear q22
          try clear hx22
          try clear c24
          try clear c24b0
          try clear hcz14_0
          try clear hcz14_1
          try clear hcz14_2
          try clear hcz15_0
          try clear hcz15_1
          try clear hcz15_2
          try clear hcz16_0
          try clear hcz16_1
          try clear hcz16_2
          try clear hcz22_0
          try clear hcz22_1
          try clear hcz22_2
          try clear hcz23_0
          try clear hcz23_1
          try clear hcz23_2
          try clear hcz25_0
          try clear hcz25_1
          try clear hcz25_2
          try clear hcz26_0
          try clear hcz26_1
          try clear hcz26_2
          try clear hcz8_0
          try clear hcz8_1
          try clear hcz8_2
          try clear hfz14_0
          try clear hfz14_1
          try clear hfz14_2
          try clear hfz15_0
          try clear hfz15_1
          try clear hfz15_2
          try clear hfz16_0
          try clear hfz16_1
          try clear hfz16_2
          try clear hfz22_0
          try clear hfz22_1
          try clear hfz22_2
          try clear hfz23_0
          try clear hfz23_1
          try clear hfz23_2
          try clear hfz25_0
          try clear hfz25_1
          try clear hfz25_2
          try clear hfz26_0
          try clear hfz26_1
          try clear hfz26_2
          try clear hfz8_0
          try clear hfz8_1
          try clear hfz8_2
          try clear hx217_0
          try clear hx217_1
          try clear hx217_2
          try clear hx222_0
          try clear hx222_1
          try clear hx222_2
          try clear p2
          try clear p217
          try clear p222
          try clear p6
          try clear q2
          try clear q217
          try clear q222
          obtain ⟨x6_4, rfl, HA, HK4, BK218, HB⟩ := hrel
          cases gk with
          | zero => exact absurd HA.out (by simp [spec_ChartOk.l2])
          | succ k4 =>
           have H := HA.out
           clear HA
           simp only [spec_ChartOk.l2] at H
           by_cases c27 : x6_4 ≥ 0
           ·rw [if_pos c27] at H
            have c27b0 : decide (0 ≤ x6_4) = true := decide_eq_true c27
            clear c27
            by_cases c28 : x6_4 = ((rd_T209 l0 x3_1).f1)
            ·rw [if_pos c28] at H
             have c28b0 : (x6_4 == ((rd_T209 l0 x3_1).f1)) = true := beq_iff_eq.mpr c28
             have c28b1 : (x6_4 != ((rd_T209 l0 x3_1).f1)) = false := bne_eq_false_iff_eq.mpr c28
             clear c28
             by_cases c29 : x6_4 < 0
             ·rw [if_pos c29] at H
              have c29b0 : decide (x6_4 < 0) = true := decide_eq_true c29
              clear c29
              obtain rfl := Option.some.inj H
              have hcz30_0 : wr.cell? ⟨gb218, 0, none⟩ = some (.string ((rd_T209 l0 x3_1).f0)) := (qb0 BK218.out 0).trans rfl
              have hcz30_1 : wr.cell? ⟨gb218, 1, none⟩ = some (.int .i64 ((rd_T209 l0 x3_1).f1)) := (qb0 BK218.out 1).trans rfl
              have hcz30_2 : wr.cell? ⟨gb218, 2, none⟩ = some (.int .i64 ((rd_T209 l0 x3_1).f2)) := (qb0 BK218.out 2).trans rfl
              have hfz30_0 := qa0 BK218.out 0
              have hfz30_1 := qa0 BK218.out 1
              have hfz30_2 := qa0 BK218.out 2
              go_wp2
              repeat (go_quiet (fail); try go_wp2)
              go_ret
              exact ⟨z6_5, z6_0⟩
             rw [if_neg c29] at H
             have c29b0 : decide (x6_4 < 0) = false := decide_eq_false c29
             clear c29
             by_cases c31 : 0 ≤ x6_4
             case neg => rw [if_neg c31] at H; exact absurd H (by simp)
             rw [if_pos c31] at H
             have c31b0 : decide (0 ≤ x6_4) = true := decide_eq_true c31
             clear c31
             by_cases c32 : x6_4 < (l0.length : Int)
             case neg => rw [if_neg c32] at H; exact absurd H (by simp)
             rw [if_pos c32] at H
             have c32b0 : decide (x6_4 < (l0.length : Int)) = true := decide_eq_true c32
             clear c32
             by_cases c33 : ((rd_T209 l0 x6_4).f2) = ((rd_T209 l0 x3_1).f2)
             ·rw [if_pos c33] at H
              have c33b0 : (((rd_T209 l0 x6_4).f2) == ((rd_T209 l0 x3_1).f2)) = true := beq_iff_eq.mpr c33
              have c33b1 : (((rd_T209 l0 x6_4).f2) != ((rd_T209 l0 x3_1).f2)) = false := bne_eq_false_iff_eq.mpr c33
              clear c33
              replace H := Option.bind_eq_some_iff.mp H
              obtain ⟨t224, A340, H⟩ := H
              replace H : (if t224 > 8 then (some false) else (spec_ChartOk.l0 k4 l0 (wrap64 (x3_1 + 1)))) = some r := H
              have A34 := Aside0.mk A340
              clear A340
              by_cases c35 : t224 > 8
              ·rw [if_pos c35] at H
               have c35b0 : decide (8 < t224) = true := decide_eq_true c35
               clear c35
               obtain rfl := Option.some.inj H
               have hcz36_0 : wr.cell? ⟨gb218, 0, none⟩ = some (.string ((rd_T209 l0 x3_1).f0)) := (qb0 BK218.out 0).trans rfl
               have hcz36_1 : wr.cell? ⟨gb218, 1, none⟩ = some (.int .i64 ((rd_T209 l0 x3_1).f1)) := (qb0 BK218.out 1).trans rfl
               have hcz36_2 : wr.cell? ⟨gb218, 2, none⟩ = some (.int .i64 ((rd_T209 l0 x3_1).f2)) := (qb0 BK218.out 2).trans rfl
               have hfz36_0 := qa0 BK218.out 0
               have hfz36_1 := qa0 BK218.out 1
               have hfz36_2 := qa0 BK218.out 2
               have p223 : 0 ≤ (x6_4 : Int) := of_decide_eq_true z6_6
               have q223 : x6_4 < (l0.length : Int) := of_decide_eq_true z6_6
               obtain ⟨ad223, e223, hx223_0, hx223_1, hx223_2⟩ := at_T209 HR0.out x6_4 p223 q223
               obtain rfl : ad217 = ad223 := (by injection e223)
               replace hx223_0 := (HB.out.cell (World.block_lt_of_cell? w _ hx223_0)).trans hx223_0
               replace hx223_1 := (HB.out.cell (World.block_lt_of_cell? w _ hx223_1)).trans hx223_1
               replace hx223_2 := (HB.out.cell (World.block_lt_of_cell? w _ hx223_2)).trans hx223_2
               replace p223 := eq_true p223
               replace q223 := eq_true q223
               go_wp2_with (first | (go_at_call 164; (with_reducible refine (spec_l4Deep.calls k4 _ _ l0 x3_1 t224 _ ?side1 ?side2 A34.out).mono ?_); (case side1 => exact z6_3); (case side2 => exact HC0.out); rintro e w' ⟨rfl, ⟨nd, rfl⟩⟩; (try first | exact ⟨rfl, _, World.drewN_drewN _ _ _⟩ | exact ⟨rfl, _, Eq.trans (World.drewN_drewN _ _ _) (congrArg (World.drewN _) (Nat.add_assoc _ _ _))⟩)))
               repeat (go_quiet (first | (go_at_call 164; (with_reducible refine (spec_l4Deep.calls k4 _ _ l0 x3_1 t224 _ ?side1 ?side2 A34.out).mono ?_); (case side1 => exact z6_3); (case side2 => exact HC0.out); rintro e w' ⟨rfl, ⟨nd, rfl⟩⟩; (try first | exact ⟨rfl, _, World.drewN_drewN _ _ _⟩ | exact ⟨rfl, _, Eq.trans (World.drewN_drewN _ _ _) (congrArg (World.drewN _) (Nat.add_assoc _ _ _))⟩))); try go_wp2_with (first | (go_at_call 164; (with_reducible refine (spec_l4Deep.calls k4 _ _ l0 x3_1 t224 _ ?side1 ?side2 A34.out).mono ?_); (case side1 => exact z6_3); (case side2 => exact HC0.out); rintro e w' ⟨rfl, ⟨nd, rfl⟩⟩; (try first | exact ⟨rfl, _, World.drewN_drewN _ _ _⟩ | exact ⟨rfl, _, Eq.trans (World.drewN_drewN _ _ _) (congrArg (World.drewN _) (Nat.add_assoc _ _ _))⟩))))
               go_ret
               exact ⟨z6_5, z6_0⟩
              rw [if_neg c35] at H
              have c35b0 : decide (8 < t224) = false := decide_eq_false c35
              clear c35
              have H' := Aside0.mk H
              clear H
              have hcz37_0 : wr.cell? ⟨gb218, 0, none⟩ = some (.string ((rd_T209 l0 x3_1).f0)) := (qb0 BK218.out 0).trans rfl
              have hcz37_1 : wr.cell? ⟨gb218, 1, none⟩ = some (.int .i64 ((rd_T209 l0 x3_1).f1)) := (qb0 BK218.out 1).trans rfl
              have hcz37_2 : wr.cell? ⟨gb218, 2, none⟩ = some (.int .i64 ((rd_T209 l0 x3_1).f2)) := (qb0 BK218.out 2).trans rfl
              have hfz37_0 := qa0 BK218.out 0
              have hfz37_1 := qa0 BK218.out 1
              have hfz37_2 := qa0 BK218.out 2
              have p223 : 0 ≤ (x6_4 : Int) := of_decide_eq_true z6_6
              have q223 : x6_4 < (l0.length : Int) := of_decide_eq_true z6_6
              obtain ⟨ad223, e223, hx223_0, hx223_1, hx223_2⟩ := at_T209 HR0.out x6_4 p223 q223
              obtain rfl : ad217 = ad223 := (by injection e223)
              replace hx223_0 := (HB.out.cell (World.block_lt_of_cell? w _ hx223_0)).trans hx223_0
              replace hx223_1 := (HB.out.cell (World.block_lt_of_cell? w _ hx223_1)).trans hx223_1
              replace hx223_2 := (HB.out.cell (World.block_lt_of_cell? w _ hx223_2)).trans hx223_2
              replace p223 := eq_true p223
              replace q223 := eq_true q223
              go_wp2_with (first | (go_at_call 164; (with_reducible refine (spec_l4Deep.calls k4 _ _ l0 x3_1 t224 _ ?side1 ?side2 A34.out).mono ?_); (case side1 => exact z6_3); (case side2 => exact HC0.out); rintro e w' ⟨rfl, ⟨nd, rfl⟩⟩; (try first | exact ⟨rfl, _, World.drewN_drewN _ _ _⟩ | exact ⟨rfl, _, Eq.trans (World.drewN_drewN _ _ _) (congrArg (World.drewN _) (Nat.add_assoc _ _ _))⟩)))
              repeat (go_quiet (first | (go_at_call 164; (with_reducible refine (spec_l4Deep.calls k4 _ _ l0 x3_1 t224 _ ?side1 ?side2 A34.out).mono ?_); (case side1 => exact z6_3); (case side2 => exact HC0.out); rintro e w' ⟨rfl, ⟨nd, rfl⟩⟩; (try first | exact ⟨rfl, _, World.drewN_drewN _ _ _⟩ | exact ⟨rfl, _, Eq.trans (World.drewN_drewN _ _ _) (congrArg (World.drewN _) (Nat.add_assoc _ _ _))⟩))); try go_wp2_with (first | (go_at_call 164; (with_reducible refine (spec_l4Deep.calls k4 _ _ l0 x3_1 t224 _ ?side1 ?side2 A34.out).mono ?_); (case side1 => exact z6_3); (case side2 => exact HC0.out); rintro e w' ⟨rfl, ⟨nd, rfl⟩⟩; (try first | exact ⟨rfl, _, World.drewN_drewN _ _ _⟩ | exact ⟨rfl, _, Eq.trans (World.drewN_drewN _ _ _) (congrArg (World.drewN _) (Nat.add_assoc _ _ _))⟩))))
              go_roundg k4
              case measure => have := HK1.out; have := HJ5.out; have := HK3.out; have := HK4.out; omega
              case rel => exact ⟨(wrap64 (x3_1 + 1)), z6_8, H', ⟨by have := HK1.out; have := HJ5.out; have := HK3.out; have := HK4.out; omega⟩, ⟨z6_0⟩⟩
             rw [if_neg c33] at H
             have c33b0 : (((rd_T209 l0 x6_4).f2) == ((rd_T209 l0 x3_1).f2)) = false := beq_eq_false_iff_ne.mpr c33
             have c33b1 : (((rd_T209 l0 x6_4).f2) != ((rd_T209 l0 x3_1).f2)) = true := bne_iff_ne.mpr c33
             obtain rfl := Option.some.inj H
             have hcz38_0 : wr.cell? ⟨gb218, 0, none⟩ = some (.string ((rd_T209 l0 x3_1).f0)) := (qb0 BK218.out 0).trans rfl
             have hcz38_1 : wr.cell? ⟨gb218, 1, none⟩ = some (.int .i64 ((rd_T209 l0 x3_1).f1)) := (qb0 BK218.out 1).trans rfl
             have hcz38_2 : wr.cell? ⟨gb218, 2, none⟩ = some (.int .i64 ((rd_T209 l0 x3_1).f2)) := (qb0 BK218.out 2).trans rfl
             have hfz38_0 := qa0 BK218.out 0
             have hfz38_1 := qa0 BK218.out 1
             have hfz38_2 := qa0 BK218.out 2
             have p223 : 0 ≤ (x6_4 : Int) := of_decide_eq_true z6_6
             have q223 : x6_4 < (l0.length : Int) := of_decide_eq_true z6_6
             obtain ⟨ad223, e223, hx223_0, hx223_1, hx223_2⟩ := at_T209 HR0.out x6_4 p223 q223
             obtain rfl : ad217 = ad223 := (by injection e223)
             replace hx223_0 := (HB.out.cell (World.block_lt_of_cell? w _ hx223_0)).trans hx223_0
             replace hx223_1 := (HB.out.cell (World.block_lt_of_cell? w _ hx223_1)).trans hx223_1
             replace hx223_2 := (HB.out.cell (World.block_lt_of_cell? w _ hx223_2)).trans hx223_2
             replace p223 := eq_true p223
             replace q223 := eq_true q223
             go_wp2
             repeat (go_quiet (fail); try go_wp2)
             go_ret
             exact ⟨z6_5, z6_0⟩
            rw [if_neg c28] at H
            have c28b0 : (x6_4 == ((rd_T209 l0 x3_1).f1)) = false := beq_eq_false_iff_ne.mpr c28
            have c28b1 : (x6_4 != ((rd_T209 l0 x3_1).f1)) = true := bne_iff_ne.mpr c28
            by_cases c39 : 0 ≤ x6_4
            case neg => rw [if_neg c39] at H; exact absurd H (by simp)
            rw [if_pos c39] at H
            have c39b0 : decide (0 ≤ x6_4) = true := decide_eq_true c39
            clear c39
            by_cases c40 : x6_4 < (l0.length : Int)
            case neg => rw [if_neg c40] at H; exact absurd H (by simp)
            rw [if_pos c40] at H
            have c40b0 : decide (x6_4 < (l0.length : Int)) = true := decide_eq_true c40
            clear c40
            have H' := Aside0.mk H
            clear H
            have hcz41_0 : wr.cell? ⟨gb218, 0, none⟩ = some (.string ((rd_T209 l0 x3_1).f0)) := (qb0 BK218.out 0).trans rfl
            have hcz41_1 : wr.cell? ⟨gb218, 1, none⟩ = some (.int .i64 ((rd_T209 l0 x3_1).f1)) := (qb0 BK218.out 1).trans rfl
            have hcz41_2 : wr.cell? ⟨gb218, 2, none⟩ = some (.int .i64 ((rd_T209 l0 x3_1).f2)) := (qb0 BK218.out 2).trans rfl
            have hfz41_0 := qa0 BK218.out 0
            have hfz41_1 := qa0 BK218.out 1
            have hfz41_2 := qa0 BK218.out 2
            have p225 : 0 ≤ (x6_4 : Int) := of_decide_eq_true z6_6
            have q225 : x6_4 < (l0.length : Int) := of_decide_eq_true z6_6
            obtain ⟨ad225, e225, hx225_0, hx225_1, hx225_2⟩ := at_T209 HR0.out x6_4 p225 q225
            obtain rfl : ad217 = ad225 := (by injection e225)
            replace hx225_0 := (HB.out.cell (World.block_lt_of_cell? w _ hx225_0)).trans hx225_0
            replace hx225_1 := (HB.out.cell (World.block_lt_of_cell? w _ hx225_1)).trans hx225_1
            replace hx225_2 := (HB.out.cell (World.block_lt_of_cell? w _ hx225_2)).trans hx225_2
            replace p225 := eq_true p225
            replace q225 := eq_true q225
            go_wp2
            repeat (go_quiet (fail); try go_wp2)
            go_roundg k4
            case measure => have := HK1.out; have := HJ5.out; have := HK3.out; have := HK4.out; omega
            case rel => exact ⟨((rd_T209 l0 x6_4).f1), z6_8, H', ⟨by have := HK1.out; have := HJ5.out; have := HK3.out; have := HK4.out; omega⟩, ⟨z6_7⟩, ⟨z6_0⟩⟩
           rw [if_neg c27] at H
           have c27b0 : decide (0 ≤ x6_4) = false := decide_eq_false c27
           clear c27
           by_cases c42 : x6_4 < 0
           ·rw [if_pos c42] at H
            have c42b0 : decide (x6_4 < 0) = true := decide_eq_true c42
            clear c42
            obtain rfl := Option.some.inj H
            go_wp2
            repeat (go_quiet (fail); try go_wp2)
            go_ret
            exact ⟨z6_5, z6_0⟩
           rw [if_neg c42] at H
           have c42b0 : decide (x6_4 < 0) = false := decide_eq_false c42
           clear c42
           by_cases c43 : 0 ≤ x6_4
           case neg => rw [if_neg c43] at H; exact absurd H (by simp)
           rw [if_pos c43] at H
           have c43b0 : decide (0 ≤ x6_4) = true := decide_eq_true c43
           clear c43
           exact absurd (c27b0.symm.trans c43b0) (by decide)
    rw [if_neg c4] at H
    have c4b0 : decide (x3_1 < (l0.length : Int)) = false := decide_eq_false c4
    clear c4
    obtain rfl := Option.some.inj H
    go_wp2
    repeat (go_quiet (fail); try go_wp2)
    go_ret
    exact ⟨z6_5, z6_2⟩
 replace c3 := Bool.eq_false_iff.mpr c3
 subst c3
 have H1 : (some false) = some r := by rw [if_neg (show ¬ (false = true) by decide)] at H; exact H
 clear H
 have H := H1
 clear H1
 obtain rfl := Option.some.inj H
 go_enter Try.func166, Try.ntmps166
 go_wp2_with (first | (go_at_call 79; (with_reducible refine (spec_l1In.calls (l0.length : Int) 1 120 false _ A2.out).mono ?_); rintro e w' ⟨rfl, ⟨nd, rfl⟩⟩; (try first | exact ⟨rfl, _, World.drewN_drewN _ _ _⟩ | exact ⟨rfl, _, Eq.trans (World.drewN_drewN _ _ _) (congrArg (World.drewN _) (Nat.add_assoc _ _ _))⟩)))
 repeat (go_quiet (first | (go_at_call 79; (with_reducible refine (spec_l1In.calls (l0.length : Int) 1 120 false _ A2.out).mono ?_); rintro e w' ⟨rfl, ⟨nd, rfl⟩⟩; (try first | exact ⟨rfl, _, World.drewN_drewN _ _ _⟩ | exact ⟨rfl, _, Eq.trans (World.drewN_drewN _ _ _) (congrArg (World.drewN _) (Nat.add_assoc _ _ _))⟩))); try go_wp2_with (first | (go_at_call 79; (with_reducible refine (spec_l1In.calls (l0.length : Int) 1 120 false _ A2.out).mono ?_); rintro e w' ⟨rfl, ⟨nd, rfl⟩⟩; (try first | exact ⟨rfl, _, World.drewN_drewN _ _ _⟩ | exact ⟨rfl, _, Eq.trans (World.drewN_drewN _ _ _) (congrArg (World.drewN _) (Nat.add_assoc _ _ _))⟩))))
 go_ret
 exact ⟨z6_5, z6_2⟩

end Go.Proofs.Ytkkdmmefnicmaaa.PFnChained
