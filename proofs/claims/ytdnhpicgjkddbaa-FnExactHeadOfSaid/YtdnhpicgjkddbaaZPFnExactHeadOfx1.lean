/- Lines by a program (a changed copy of the kit's print: this repo's wip/tools): Go functions as Lean functions, and proofs that the calls answer so. -/
import Derived.Test.YtdnhpicgjkddbaaZPFnExactHeadOfx0
namespace Go.Proofs.Ytdnhpicgjkddbaa.PFnExactHeadOf
open Go.RowKit Go.Proofs.YtdnhpicgjkddbaaW.PrintWords Go.Proofs.YtdnhpicgjkddbaaW.PrintLast Go.Proofs.YtdnhpicgjkddbaaW.PrintMore
attribute [local go_sem] max2_int min2_int max_two min_two max_three min_three max_four min_four   -- for this text's walks alone
set_option linter.unusedVariables false
set_option linter.unusedSimpArgs false

/-! ### laws_szLineS: function 177 -/
def laws_szLineS.f (l0 : List (S254)) (a1 : Int) : Option (Int) := if (wrap64 (a1 - (l0.length : Int))) < 0 then (some (-1)) else (some (wrap64 (a1 - (l0.length : Int))))
set_option maxHeartbeats 8000000 in
set_option maxRecDepth 100000 in
theorem laws_szLineS.calls (A0 : Option Addr) (c0 : Nat) (l0 : List (S254)) (a1 : Int) (r : Int) (w : World) (hr0 : Kd.C k254 w A0 l0.length l0) (hc0 : l0.length ≤ c0) (h : laws_szLineS.f l0 a1 = some r) :
  Calls Try.prog 177 #[.slice A0 l0.length c0, .int .i64 a1] w fun e w' => e = .returned (.int .i64 r) ∧ Drawn0 w w' := by
 have HR0 := Aside0.mk hr0
 have HC0 := Aside0.mk hc0
 clear hr0 hc0
 have H : (if (wrap64 (a1 - (l0.length : Int))) < 0 then (some (-1)) else (some (wrap64 (a1 - (l0.length : Int))))) = some r := h
 clear h
 by_cases c3 : (wrap64 (a1 - (l0.length : Int))) < 0
 ·rw [if_pos c3] at H
  have c3b0 : decide ((wrap64 (a1 - (l0.length : Int))) < 0) = true := decide_eq_true c3
  clear c3
  obtain rfl := Option.some.inj H
  go_enter Try.func177, Try.ntmps177
  go_wp2
  go_ret
  exact ⟨by first | rfl | (simp; done) | (simp [*]; done), by repeat (first | exact Drawn0.refl _ | apply Drawn0.step)⟩
 rw [if_neg c3] at H
 have c3b0 : decide ((wrap64 (a1 - (l0.length : Int))) < 0) = false := decide_eq_false c3
 clear c3
 obtain rfl := Option.some.inj H
 go_enter Try.func177, Try.ntmps177
 go_wp2
 go_ret
 exact ⟨by first | rfl | (simp; done) | (simp [*]; done), by repeat (first | exact Drawn0.refl _ | apply Drawn0.step)⟩

/-! ### laws_szEntry: function 125 -/
def laws_szEntry.f (a0_0 : Int) (a0_1 : Int) (a0_2 : ByteArray) (l0_3 : List (S254)) (a1 : Int) : Option (Int) := if (wrap64 (a1 - (a0_2.size : Int))) < 0 then (some (-1)) else ((laws_szLineS.f l0_3 (wrap64 (a1 - (a0_2.size : Int)))).bind fun t102 => (if t102 < 0 then (some (-1)) else (some t102)))
set_option maxHeartbeats 8000000 in
set_option maxRecDepth 100000 in
theorem laws_szEntry.calls (a0_0 : Int) (a0_1 : Int) (a0_2 : ByteArray) (A0_3 : Option Addr) (c0_3 : Nat) (l0_3 : List (S254)) (a1 : Int) (r : Int) (w : World) (hr0_3 : Kd.C k254 w A0_3 l0_3.length l0_3) (hc0_3 : l0_3.length ≤ c0_3) (h : laws_szEntry.f a0_0 a0_1 a0_2 l0_3 a1 = some r) :
  Calls Try.prog 125 #[.agg #[.int .i64 a0_0, .int .i64 a0_1, .string a0_2, .slice A0_3 l0_3.length c0_3], .int .i64 a1] w fun e w' => e = .returned (.int .i64 r) ∧ Below w.heap.size w w' := by
 have hu177 := Try.underlying177
 have HR0_3 := Aside0.mk hr0_3
 have HC0_3 := Aside0.mk hc0_3
 clear hr0_3 hc0_3
 have HB := Aside0.mk (Below.refl w.heap.size w)
 have H : (if (wrap64 (a1 - (a0_2.size : Int))) < 0 then (some (-1)) else ((laws_szLineS.f l0_3 (wrap64 (a1 - (a0_2.size : Int)))).bind fun t102 => (if t102 < 0 then (some (-1)) else (some t102)))) = some r := h
 clear h
 by_cases c3 : (wrap64 (a1 - (a0_2.size : Int))) < 0
 ·rw [if_pos c3] at H
  have c3b0 : decide ((wrap64 (a1 - (a0_2.size : Int))) < 0) = true := decide_eq_true c3
  clear c3
  obtain rfl := Option.some.inj H
  go_enter Try.func125, Try.ntmps125
  go_wp2_with (first | ((with_reducible refine qo0 (N := 2) rfl ?_); refine qn0 ?hg (N := 2) ?hd (cs := #[.int .i64 a0_0, .int .i64 a0_1, .string a0_2, .slice A0_3 l0_3.length c0_3]) (t := 177) ?hr ?_; (case hd => rfl); (case hg => rfl); (case hr => first | (go_simp; done) | (go_simp; rfl)); intro gb101 hg w4 hbox hb; have n0_ := Aside0.mk (qk0 (by repeat (first | (with_reducible first | exact HB.out | apply qb0 | apply qa0 | apply qc0) | exact HB.out)) hb); have n1_ := Aside0.mk (hbox); have n2_ := Aside0.mk ((by rw [hg]; exact (qj0 (by repeat (first | (with_reducible first | exact HB.out | apply qb0 | apply qa0 | apply qc0) | exact HB.out))) : w.heap.size ≤ gb101)); have n3_ := Aside0.mk ((by rw [hg]; exact (qj0 (by repeat (first | (with_reducible first | exact HB.out | apply qb0 | apply qa0 | apply qc0) | exact HB.out))) : w.heap.size ≤ gb101)); clear HB; have HB := n0_; have BK101 := n1_; have GW101 := n2_; have GE101 := n3_; clear n0_ n1_ n2_ n3_; clear hb hbox hg; have hcz5_0 : w4.cell? ⟨gb101, 0, none⟩ = some (.int .i64 a0_0) := (qe0 BK101.out 0).trans rfl; have hcz5_1 : w4.cell? ⟨gb101, 1, none⟩ = some (.int .i64 a0_1) := (qe0 BK101.out 1).trans rfl; have hcz5_2 : w4.cell? ⟨gb101, 2, none⟩ = some (.string a0_2) := (qe0 BK101.out 2).trans rfl; have hcz5_3 : w4.cell? ⟨gb101, 3, none⟩ = some (.slice A0_3 l0_3.length c0_3) := (qe0 BK101.out 3).trans rfl; have hfz5_0 := qd0 BK101.out 0; have hfz5_1 := qd0 BK101.out 1; have hfz5_2 := qd0 BK101.out 2; have hfz5_3 := qd0 BK101.out 3))
  go_ret
  exact ⟨by first | rfl | (simp [errW_none, errW_some] <;> rfl) | (simp [*, errW_none, errW_some] <;> rfl), by repeat (first | (with_reducible first | exact HB.out | apply qb0 | apply qa0 | apply qc0 | refine qf0 ?_ GE101.out) | exact HB.out)⟩
 rw [if_neg c3] at H
 have c3b0 : decide ((wrap64 (a1 - (a0_2.size : Int))) < 0) = false := decide_eq_false c3
 clear c3
 replace H := Option.bind_eq_some_iff.mp H
 obtain ⟨t102, A60, H⟩ := H
 replace H : (if t102 < 0 then (some (-1)) else (some t102)) = some r := H
 have A6 := Aside0.mk A60
 clear A60
 by_cases c7 : t102 < 0
 ·rw [if_pos c7] at H
  have c7b0 : decide (t102 < 0) = true := decide_eq_true c7
  clear c7
  obtain rfl := Option.some.inj H
  go_enter Try.func125, Try.ntmps125
  go_wp2_with (first | ((with_reducible refine qo0 (N := 2) rfl ?_); refine qn0 ?hg (N := 2) ?hd (cs := #[.int .i64 a0_0, .int .i64 a0_1, .string a0_2, .slice A0_3 l0_3.length c0_3]) (t := 177) ?hr ?_; (case hd => rfl); (case hg => rfl); (case hr => first | (go_simp; done) | (go_simp; rfl)); intro gb101 hg w8 hbox hb; have n0_ := Aside0.mk (qk0 (by repeat (first | (with_reducible first | exact HB.out | apply qb0 | apply qa0 | apply qc0) | exact HB.out)) hb); have n1_ := Aside0.mk (hbox); have n2_ := Aside0.mk ((by rw [hg]; exact (qj0 (by repeat (first | (with_reducible first | exact HB.out | apply qb0 | apply qa0 | apply qc0) | exact HB.out))) : w.heap.size ≤ gb101)); have n3_ := Aside0.mk ((by rw [hg]; exact (qj0 (by repeat (first | (with_reducible first | exact HB.out | apply qb0 | apply qa0 | apply qc0) | exact HB.out))) : w.heap.size ≤ gb101)); clear HB; have HB := n0_; have BK101 := n1_; have GW101 := n2_; have GE101 := n3_; clear n0_ n1_ n2_ n3_; clear hb hbox hg; have hcz9_0 : w8.cell? ⟨gb101, 0, none⟩ = some (.int .i64 a0_0) := (qe0 BK101.out 0).trans rfl; have hcz9_1 : w8.cell? ⟨gb101, 1, none⟩ = some (.int .i64 a0_1) := (qe0 BK101.out 1).trans rfl; have hcz9_2 : w8.cell? ⟨gb101, 2, none⟩ = some (.string a0_2) := (qe0 BK101.out 2).trans rfl; have hcz9_3 : w8.cell? ⟨gb101, 3, none⟩ = some (.slice A0_3 l0_3.length c0_3) := (qe0 BK101.out 3).trans rfl; have hfz9_0 := qd0 BK101.out 0; have hfz9_1 := qd0 BK101.out 1; have hfz9_2 := qd0 BK101.out 2; have hfz9_3 := qd0 BK101.out 3) | ((with_reducible refine qm0 (f := 177) rfl ?_); refine qe1 (some 15) rfl rfl Try.func177 (by kernel_rfl) rfl #[.slice A0_3 l0_3.length c0_3, .int .i64 (wrap64 (a1 - (a0_2.size : Int)))] rfl (by (try simp only [List.map_toArray, List.map_cons, List.map_nil]); first | done | rfl | (simp only [List.length_drop, List.length_take]; rfl)) ?_; (with_reducible refine (laws_szLineS.calls _ _ l0_3 (wrap64 (a1 - (a0_2.size : Int))) t102 _ ?side1 ?side2 A6.out).mono ?_); (case side1 => repeat (first | exact (Kd.qd1 HR0_3.out HB.out) | (with_reducible refine Kd.qu0 ?_ _) | (with_reducible refine Kd.qt0 ?_ _) | (with_reducible refine Kd.C_drew ?_))); (case side2 => exact HC0_3.out); rintro e w' ⟨rfl, ⟨nd, rfl⟩⟩; refine ⟨_, rfl, ?_⟩))
  go_ret
  exact ⟨by first | rfl | (simp [errW_none, errW_some] <;> rfl) | (simp [*, errW_none, errW_some] <;> rfl), by repeat (first | (with_reducible first | exact HB.out | apply qb0 | apply qa0 | apply qc0 | refine qf0 ?_ GE101.out) | exact HB.out)⟩
 rw [if_neg c7] at H
 have c7b0 : decide (t102 < 0) = false := decide_eq_false c7
 clear c7
 obtain rfl := Option.some.inj H
 go_enter Try.func125, Try.ntmps125
 go_wp2_with (first | ((with_reducible refine qo0 (N := 2) rfl ?_); refine qn0 ?hg (N := 2) ?hd (cs := #[.int .i64 a0_0, .int .i64 a0_1, .string a0_2, .slice A0_3 l0_3.length c0_3]) (t := 177) ?hr ?_; (case hd => rfl); (case hg => rfl); (case hr => first | (go_simp; done) | (go_simp; rfl)); intro gb101 hg w10 hbox hb; have n0_ := Aside0.mk (qk0 (by repeat (first | (with_reducible first | exact HB.out | apply qb0 | apply qa0 | apply qc0) | exact HB.out)) hb); have n1_ := Aside0.mk (hbox); have n2_ := Aside0.mk ((by rw [hg]; exact (qj0 (by repeat (first | (with_reducible first | exact HB.out | apply qb0 | apply qa0 | apply qc0) | exact HB.out))) : w.heap.size ≤ gb101)); have n3_ := Aside0.mk ((by rw [hg]; exact (qj0 (by repeat (first | (with_reducible first | exact HB.out | apply qb0 | apply qa0 | apply qc0) | exact HB.out))) : w.heap.size ≤ gb101)); clear HB; have HB := n0_; have BK101 := n1_; have GW101 := n2_; have GE101 := n3_; clear n0_ n1_ n2_ n3_; clear hb hbox hg; have hcz11_0 : w10.cell? ⟨gb101, 0, none⟩ = some (.int .i64 a0_0) := (qe0 BK101.out 0).trans rfl; have hcz11_1 : w10.cell? ⟨gb101, 1, none⟩ = some (.int .i64 a0_1) := (qe0 BK101.out 1).trans rfl; have hcz11_2 : w10.cell? ⟨gb101, 2, none⟩ = some (.string a0_2) := (qe0 BK101.out 2).trans rfl; have hcz11_3 : w10.cell? ⟨gb101, 3, none⟩ = some (.slice A0_3 l0_3.length c0_3) := (qe0 BK101.out 3).trans rfl; have hfz11_0 := qd0 BK101.out 0; have hfz11_1 := qd0 BK101.out 1; have hfz11_2 := qd0 BK101.out 2; have hfz11_3 := qd0 BK101.out 3) | ((with_reducible refine qm0 (f := 177) rfl ?_); refine qe1 (some 15) rfl rfl Try.func177 (by kernel_rfl) rfl #[.slice A0_3 l0_3.length c0_3, .int .i64 (wrap64 (a1 - (a0_2.size : Int)))] rfl (by (try simp only [List.map_toArray, List.map_cons, List.map_nil]); first | done | rfl | (simp only [List.length_drop, List.length_take]; rfl)) ?_; (with_reducible refine (laws_szLineS.calls _ _ l0_3 (wrap64 (a1 - (a0_2.size : Int))) t102 _ ?side1 ?side2 A6.out).mono ?_); (case side1 => repeat (first | exact (Kd.qd1 HR0_3.out HB.out) | (with_reducible refine Kd.qu0 ?_ _) | (with_reducible refine Kd.qt0 ?_ _) | (with_reducible refine Kd.C_drew ?_))); (case side2 => exact HC0_3.out); rintro e w' ⟨rfl, ⟨nd, rfl⟩⟩; refine ⟨_, rfl, ?_⟩))
 go_ret
 exact ⟨by first | rfl | (simp [errW_none, errW_some] <;> rfl) | (simp [*, errW_none, errW_some] <;> rfl), by repeat (first | (with_reducible first | exact HB.out | apply qb0 | apply qa0 | apply qc0 | refine qf0 ?_ GE101.out) | exact HB.out)⟩

/-! ### laws_szEntryS: function 57 -/
def laws_szEntryS.l0 : Nat → List (S177) → Int → Int → Option (Int)
 | 0, _, _, _ => none
 | k + 1, x0, x1, x5 => if x5 < (x0.length : Int) then (if 0 ≤ x5 then ((laws_szEntry.f ((rd_T177 x0 x5).f0) ((rd_T177 x0 x5).f1) ((rd_T177 x0 x5).f2) ((rd_T177 x0 x5).f3) x1).bind fun t104 => (if t104 < 0 then (some (-1)) else (laws_szEntryS.l0 k x0 t104 (wrap64 (x5 + 1))))) else (none)) else (some x1)
def laws_szEntryS.f (k : Nat) (l0 : List (S177)) (a1 : Int) : Option (Int) := if (wrap64 (a1 - (l0.length : Int))) < 0 then (some (-1)) else (laws_szEntryS.l0 k l0 (wrap64 (a1 - (l0.length : Int))) 0)
theorem laws_szEntryS.mono_l : ∀ k, (∀ y0 y1 y2, LeO (laws_szEntryS.l0 k y0 y1 y2) (laws_szEntryS.l0 (k + 1) y0 y1 y2))
 | 0 => fun _ _ _ r h => by simp [laws_szEntryS.l0] at h
 | k + 1 => by
  have ih0 := laws_szEntryS.mono_l k
  ·intro y0 y1 y2
   unfold laws_szEntryS.l0
   repeat' first
   | (with_reducible exact ih0 _ _ _)
   | (with_reducible exact LeO.refl _)
   | (with_reducible exact LeO.none _)
   | (with_reducible refine LeO.ite ?_ ?_)
   | (with_reducible refine LeO.bind ?_ (fun _ => ?_))
   | exact ih0 _ _ _
   | exact LeO.none _
   | refine LeO.ite ?_ ?_
   | refine LeO.bind ?_ (fun _ => ?_)
theorem laws_szEntryS.mono : ∀ a0 a1 k, LeO (laws_szEntryS.f k a0 a1) (laws_szEntryS.f (k + 1) a0 a1) := by
 intro a0 a1 k
 have ih0 := laws_szEntryS.mono_l k
 unfold laws_szEntryS.f
 repeat' first
   | (with_reducible exact ih0 _ _ _)
   | (with_reducible exact LeO.refl _)
   | (with_reducible exact LeO.none _)
   | (with_reducible refine LeO.ite ?_ ?_)
   | (with_reducible refine LeO.bind ?_ (fun _ => ?_))
   | exact ih0 _ _ _
   | exact LeO.none _
   | refine LeO.ite ?_ ?_
   | refine LeO.bind ?_ (fun _ => ?_)
set_option maxHeartbeats 8000000 in
set_option maxRecDepth 100000 in
theorem laws_szEntryS.calls (k : Nat) (A0 : Option Addr) (c0 : Nat) (l0 : List (S177)) (a1 : Int) (r : Int) (w : World) (hr0 : Kd.C k177 w A0 l0.length l0) (hc0 : l0.length ≤ c0) (h : laws_szEntryS.f k l0 a1 = some r) :
  Calls Try.prog 57 #[.slice A0 l0.length c0, .int .i64 a1] w fun e w' => e = .returned (.int .i64 r) ∧ Below w.heap.size w w' := by
 have hu177 := Try.underlying177
 have HR0 := Aside0.mk hr0
 have HC0 := Aside0.mk hc0
 clear hr0 hc0
 have HB := Aside0.mk (Below.refl w.heap.size w)
 have H : (if (wrap64 (a1 - (l0.length : Int))) < 0 then (some (-1)) else (laws_szEntryS.l0 k l0 (wrap64 (a1 - (l0.length : Int))) 0)) = some r := h
 clear h
 by_cases c3 : (wrap64 (a1 - (l0.length : Int))) < 0
 ·rw [if_pos c3] at H
  have c3b0 : decide ((wrap64 (a1 - (l0.length : Int))) < 0) = true := decide_eq_true c3
  clear c3
  obtain rfl := Option.some.inj H
  go_enter Try.func57, Try.ntmps57
  go_wp2
  go_ret
  exact ⟨by first | rfl | (simp [errW_none, errW_some] <;> rfl) | (simp [*, errW_none, errW_some] <;> rfl), by repeat (first | (with_reducible first | exact HB.out | apply qb0 | apply qa0 | apply qc0) | exact HB.out)⟩
 rw [if_neg c3] at H
 have c3b0 : decide ((wrap64 (a1 - (l0.length : Int))) < 0) = false := decide_eq_false c3
 clear c3
 have H' := Aside0.mk H
 clear H
 go_enter Try.func57, Try.ntmps57
 go_wp2
 go_loopg [1, 5] k (fun kq v1 v5 w' => ∃ (x1_1 : Int) (x5_1 : Int), v1 = .int .i64 x1_1 ∧ v5 = .int .i64 x5_1 ∧ Aside0 (laws_szEntryS.l0 kq l0 x1_1 x5_1 = some r) ∧ Aside0 (kq ≤ k) ∧ Aside0 (Below w.heap.size w w'))
 case atStart => exact ⟨(wrap64 (a1 - (l0.length : Int))), (0), (by first | rfl | (simp; done) | (simp [*]; done)), (by first | rfl | (simp; done) | (simp [*]; done)), H', ⟨Nat.le_refl _⟩, ⟨by repeat (first | (with_reducible first | exact HB.out | apply qb0 | apply qa0 | apply qc0) | exact HB.out)⟩⟩
 case round =>
  clear H'
  try clear p2
  try clear c3
  try clear c3b0
  obtain ⟨x1_1, x5_1, rfl, rfl, HA, HK1, HB⟩ := hrel
  cases gk with
  | zero => exact absurd HA.out (by simp [laws_szEntryS.l0])
  | succ k1 =>
   have H := HA.out
   clear HA
   simp only [laws_szEntryS.l0] at H
   by_cases c4 : x5_1 < (l0.length : Int)
   ·rw [if_pos c4] at H
    have c4b0 : decide (x5_1 < (l0.length : Int)) = true := decide_eq_true c4
    clear c4
    by_cases c5 : 0 ≤ x5_1
    case neg => rw [if_neg c5] at H; exact absurd H (by simp)
    rw [if_pos c5] at H
    have c5b0 : decide (0 ≤ x5_1) = true := decide_eq_true c5
    clear c5
    replace H := Option.bind_eq_some_iff.mp H
    obtain ⟨t104, A60, H⟩ := H
    replace H : (if t104 < 0 then (some (-1)) else (laws_szEntryS.l0 k1 l0 t104 (wrap64 (x5_1 + 1)))) = some r := H
    have A6 := Aside0.mk A60
    clear A60
    by_cases c7 : t104 < 0
    ·rw [if_pos c7] at H
     have c7b0 : decide (t104 < 0) = true := decide_eq_true c7
     clear c7
     obtain rfl := Option.some.inj H
     have p103 : 0 ≤ (x5_1 : Int) := of_decide_eq_true (by first | (with_reducible assumption) | assumption)
     have q103 : x5_1 < (l0.length : Int) := of_decide_eq_true (by first | (with_reducible assumption) | assumption)
     obtain ⟨ad103, A103_3, c103_3, e103, hx103_0, hx103_1, hx103_2, hx103_3, hl103_3, hi103_3⟩ := at_T177 HR0.out x5_1 p103 q103
     cases e103
     replace hx103_0 := (HB.out.cell (World.block_lt_of_cell? w _ hx103_0)).trans hx103_0
     replace hx103_1 := (HB.out.cell (World.block_lt_of_cell? w _ hx103_1)).trans hx103_1
     replace hx103_2 := (HB.out.cell (World.block_lt_of_cell? w _ hx103_2)).trans hx103_2
     replace hx103_3 := (HB.out.cell (World.block_lt_of_cell? w _ hx103_3)).trans hx103_3
     have HR103_3 := Aside0.mk hi103_3
     have HC103_3 := Aside0.mk hl103_3
     clear hi103_3 hl103_3
     replace p103 := eq_true p103
     replace q103 := eq_true q103
     go_wp2_with (first | ((with_reducible refine qm0 (f := 125) rfl ?_); refine qe1 (some 23) rfl rfl Try.func125 (by kernel_rfl) rfl #[.agg #[.int .i64 ((rd_T177 l0 x5_1).f0), .int .i64 ((rd_T177 l0 x5_1).f1), .string ((rd_T177 l0 x5_1).f2), .slice A103_3 ((rd_T177 l0 x5_1).f3).length c103_3], .int .i64 x1_1] rfl (by (try simp only [List.map_toArray, List.map_cons, List.map_nil]); first | done | rfl | (simp only [List.length_drop, List.length_take]; rfl)) ?_; (with_reducible refine (laws_szEntry.calls ((rd_T177 l0 x5_1).f0) ((rd_T177 l0 x5_1).f1) ((rd_T177 l0 x5_1).f2) _ _ ((rd_T177 l0 x5_1).f3) x1_1 t104 _ ?side1 ?side2 A6.out).mono ?_); (case side1 => repeat (first | exact (Kd.qd1 HR103_3.out HB.out) | (with_reducible refine Kd.qu0 ?_ _) | (with_reducible refine Kd.qt0 ?_ _) | (with_reducible refine Kd.C_drew ?_))); (case side2 => exact HC103_3.out); rintro e w8 ⟨rfl, hb⟩; refine ⟨_, rfl, ?_⟩; have n0_ := Aside0.mk (qk0 (by repeat (first | (with_reducible first | exact HB.out | apply qb0 | apply qa0 | apply qc0) | exact HB.out)) hb); clear HB; have HB := n0_; clear n0_; (try clear hb); (try clear hb2); (try clear hk); (try clear hi)))
     go_ret
     exact ⟨by first | rfl | (simp [errW_none, errW_some] <;> rfl) | (simp [*, errW_none, errW_some] <;> rfl), by repeat (first | (with_reducible first | exact HB.out | apply qb0 | apply qa0 | apply qc0) | exact HB.out)⟩
    rw [if_neg c7] at H
    have c7b0 : decide (t104 < 0) = false := decide_eq_false c7
    clear c7
    have H' := Aside0.mk H
    clear H
    have p103 : 0 ≤ (x5_1 : Int) := of_decide_eq_true (by first | (with_reducible assumption) | assumption)
    have q103 : x5_1 < (l0.length : Int) := of_decide_eq_true (by first | (with_reducible assumption) | assumption)
    obtain ⟨ad103, A103_3, c103_3, e103, hx103_0, hx103_1, hx103_2, hx103_3, hl103_3, hi103_3⟩ := at_T177 HR0.out x5_1 p103 q103
    cases e103
    replace hx103_0 := (HB.out.cell (World.block_lt_of_cell? w _ hx103_0)).trans hx103_0
    replace hx103_1 := (HB.out.cell (World.block_lt_of_cell? w _ hx103_1)).trans hx103_1
    replace hx103_2 := (HB.out.cell (World.block_lt_of_cell? w _ hx103_2)).trans hx103_2
    replace hx103_3 := (HB.out.cell (World.block_lt_of_cell? w _ hx103_3)).trans hx103_3
    have HR103_3 := Aside0.mk hi103_3
    have HC103_3 := Aside0.mk hl103_3
    clear hi103_3 hl103_3
    replace p103 := eq_true p103
    replace q103 := eq_true q103
    go_wp2_with (first | ((with_reducible refine qm0 (f := 125) rfl ?_); refine qe1 (some 23) rfl rfl Try.func125 (by kernel_rfl) rfl #[.agg #[.int .i64 ((rd_T177 l0 x5_1).f0), .int .i64 ((rd_T177 l0 x5_1).f1), .string ((rd_T177 l0 x5_1).f2), .slice A103_3 ((rd_T177 l0 x5_1).f3).length c103_3], .int .i64 x1_1] rfl (by (try simp only [List.map_toArray, List.map_cons, List.map_nil]); first | done | rfl | (simp only [List.length_drop, List.length_take]; rfl)) ?_; (with_reducible refine (laws_szEntry.calls ((rd_T177 l0 x5_1).f0) ((rd_T177 l0 x5_1).f1) ((rd_T177 l0 x5_1).f2) _ _ ((rd_T177 l0 x5_1).f3) x1_1 t104 _ ?side1 ?side2 A6.out).mono ?_); (case side1 => repeat (first | exact (Kd.qd1 HR103_3.out HB.out) | (with_reducible refine Kd.qu0 ?_ _) | (with_reducible refine Kd.qt0 ?_ _) | (with_reducible refine Kd.C_drew ?_))); (case side2 => exact HC103_3.out); rintro e w9 ⟨rfl, hb⟩; refine ⟨_, rfl, ?_⟩; have n0_ := Aside0.mk (qk0 (by repeat (first | (with_reducible first | exact HB.out | apply qb0 | apply qa0 | apply qc0) | exact HB.out)) hb); clear HB; have HB := n0_; clear n0_; (try clear hb); (try clear hb2); (try clear hk); (try clear hi)))
    go_roundg k1
    case measure => have := HK1.out; omega
    case rel => exact ⟨(t104), (wrap64 (x5_1 + 1)), (by first | rfl | (simp; done) | (simp [*]; done)), (by first | rfl | (simp; done) | (simp [*]; done)), H', ⟨by have := HK1.out; omega⟩, ⟨by repeat (first | (with_reducible first | exact HB.out | apply qb0 | apply qa0 | apply qc0) | exact HB.out)⟩⟩
   rw [if_neg c4] at H
   have c4b0 : decide (x5_1 < (l0.length : Int)) = false := decide_eq_false c4
   clear c4
   obtain rfl := Option.some.inj H
   go_wp2
   go_ret
   exact ⟨by first | rfl | (simp [errW_none, errW_some] <;> rfl) | (simp [*, errW_none, errW_some] <;> rfl), by repeat (first | (with_reducible first | exact HB.out | apply qb0 | apply qa0 | apply qc0) | exact HB.out)⟩

/-! ### spec_l1In: function 76 -/
def spec_l1In.f (a0 : Int) (a1 : Int) (a2 : Int) : Option (Bool) := if a0 ≥ a1 then (some (decide (a0 ≤ a2))) else (some false)
set_option maxHeartbeats 8000000 in
set_option maxRecDepth 100000 in
theorem spec_l1In.calls (a0 : Int) (a1 : Int) (a2 : Int) (r : Bool) (w : World) (h : spec_l1In.f a0 a1 a2 = some r) :
  Calls Try.prog 76 #[.int .i64 a0, .int .i64 a1, .int .i64 a2] w fun e w' => e = .returned (.bool r) ∧ Drawn0 w w' := by
 have H : (if a0 ≥ a1 then (some (decide (a0 ≤ a2))) else (some false)) = some r := h
 clear h
 by_cases c4 : a0 ≥ a1
 ·rw [if_pos c4] at H
  have c4b0 : decide (a1 ≤ a0) = true := decide_eq_true c4
  clear c4
  obtain rfl := Option.some.inj H
  go_enter Try.func76, Try.ntmps76
  go_wp2
  go_ret
  exact ⟨by first | rfl | (simp; done) | (simp [*]; done), by repeat (first | exact Drawn0.refl _ | apply Drawn0.step)⟩
 rw [if_neg c4] at H
 have c4b0 : decide (a1 ≤ a0) = false := decide_eq_false c4
 clear c4
 obtain rfl := Option.some.inj H
 go_enter Try.func76, Try.ntmps76
 go_wp2
 go_ret
 exact ⟨by first | rfl | (simp; done) | (simp [*]; done), by repeat (first | exact Drawn0.refl _ | apply Drawn0.step)⟩

/-! ### spec_l5Numbers: function 126 -/
mutual
def spec_l5Numbers.l0 : Nat → List Int → Int → Int → Int → ByteArray → List (S98) → Option (List Int)
 | 0, _, _, _, _, _, _ => none
 | k + 1, x3, x4, x106000, x106001, x106002, x106003 => if x4 < (x106002.size : Int) then (if 0 ≤ x4 then (if x3.length < 17592186044416 then (spec_l5Numbers.l0 k (x3 ++ [wrap64 (bt x106002 x4)]) (wrap64 (x4 + 1)) x106000 x106001 x106002 x106003) else (none)) else (none)) else (if x3.length < 17592186044416 then (spec_l5Numbers.l1 k (x3 ++ [(x106003.length : Int)]) 0 x106000 x106001 x106002 x106003) else (none))
def spec_l5Numbers.l1 : Nat → List Int → Int → Int → Int → ByteArray → List (S98) → Option (List Int)
 | 0, _, _, _, _, _, _ => none
 | k + 1, x3, x5, x106000, x106001, x106002, x106003 => if x5 < (x106003.length : Int) then (if 0 ≤ x5 then ((some (([(rd_T98 x106003 x5).f0, (rd_T98 x106003 x5).f1, (rd_T98 x106003 x5).f2, (rd_T98 x106003 x5).f3, (rd_T98 x106003 x5).f4] : List Int) : List Int)).bind fun y117 => (if x3.length + y117.length < 17592186044416 then (spec_l5Numbers.l1 k (x3 ++ y117) (wrap64 (x5 + 1)) x106000 x106001 x106002 x106003) else (none))) else (none)) else (some x3)
end
def spec_l5Numbers.f (k : Nat) (a0_0 : Int) (a0_1 : Int) (a0_2 : ByteArray) (l0_3 : List (S98)) : Option (List Int) := spec_l5Numbers.l0 k (([a0_0, a0_1, (a0_2.size : Int)] : List Int)) 0 a0_0 a0_1 a0_2 l0_3
theorem spec_l5Numbers.mono_l : ∀ k, (∀ y0 y1 y2 y3 y4 y5, LeO (spec_l5Numbers.l0 k y0 y1 y2 y3 y4 y5) (spec_l5Numbers.l0 (k + 1) y0 y1 y2 y3 y4 y5)) ∧ (∀ y0 y1 y2 y3 y4 y5, LeO (spec_l5Numbers.l1 k y0 y1 y2 y3 y4 y5) (spec_l5Numbers.l1 (k + 1) y0 y1 y2 y3 y4 y5))
 | 0 => ⟨fun _ _ _ _ _ _ r h => by simp [spec_l5Numbers.l0] at h, fun _ _ _ _ _ _ r h => by simp [spec_l5Numbers.l1] at h⟩
 | k + 1 => by
  obtain ⟨ih0, ih1⟩ := spec_l5Numbers.mono_l k
  refine ⟨?_, ?_⟩
  ·intro y0 y1 y2 y3 y4 y5
   unfold spec_l5Numbers.l0
   repeat' first
   | (with_reducible exact ih0 _ _ _ _ _ _)
   | (with_reducible exact ih1 _ _ _ _ _ _)
   | (with_reducible exact LeO.refl _)
   | (with_reducible exact LeO.none _)
   | (with_reducible refine LeO.ite ?_ ?_)
   | (with_reducible refine LeO.bind ?_ (fun _ => ?_))
   | exact ih0 _ _ _ _ _ _
   | exact ih1 _ _ _ _ _ _
   | exact LeO.none _
   | refine LeO.ite ?_ ?_
   | refine LeO.bind ?_ (fun _ => ?_)
  ·intro y0 y1 y2 y3 y4 y5
   unfold spec_l5Numbers.l1
   repeat' first
   | (with_reducible exact ih0 _ _ _ _ _ _)
   | (with_reducible exact ih1 _ _ _ _ _ _)
   | (with_reducible exact LeO.refl _)
   | (with_reducible exact LeO.none _)
   | (with_reducible refine LeO.ite ?_ ?_)
   | (with_reducible refine LeO.bind ?_ (fun _ => ?_))
   | exact ih0 _ _ _ _ _ _
   | exact ih1 _ _ _ _ _ _
   | exact LeO.none _
   | refine LeO.ite ?_ ?_
   | refine LeO.bind ?_ (fun _ => ?_)
theorem spec_l5Numbers.mono : ∀ a0 a1 a2 a3 k, LeO (spec_l5Numbers.f k a0 a1 a2 a3) (spec_l5Numbers.f (k + 1) a0 a1 a2 a3) := by
 intro a0 a1 a2 a3 k
 obtain ⟨ih0, ih1⟩ := spec_l5Numbers.mono_l k
 unfold spec_l5Numbers.f
 repeat' first
   | (with_reducible exact ih0 _ _ _ _ _ _)
   | (with_reducible exact ih1 _ _ _ _ _ _)
   | (with_reducible exact LeO.refl _)
   | (with_reducible exact LeO.none _)
   | (with_reducible refine LeO.ite ?_ ?_)
   | (with_reducible refine LeO.bind ?_ (fun _ => ?_))
   | exact ih0 _ _ _ _ _ _
   | exact ih1 _ _ _ _ _ _
   | exact LeO.none _
   | refine LeO.ite ?_ ?_
   | refine LeO.bind ?_ (fun _ => ?_)
set_option maxHeartbeats 8000000 in
set_option maxRecDepth 100000 in
theorem spec_l5Numbers.calls (k : Nat) (a0_0 : Int) (a0_1 : Int) (a0_2 : ByteArray) (A0_3 : Option Addr) (c0_3 : Nat) (l0_3 : List (S98)) (r : List Int) (w : World) (hr0_3 : Kd.C k98 w A0_3 l0_3.length l0_3) (hc0_3 : l0_3.length ≤ c0_3) (h : spec_l5Numbers.f k a0_0 a0_1 a0_2 l0_3 = some r) :
  Calls Try.prog 126 #[.agg #[.int .i64 a0_0, .int .i64 a0_1, .string a0_2, .slice A0_3 l0_3.length c0_3]] w fun e w' => ∃ v0_ : Value, e = .returned (v0_) ∧ Kd.R (Kd.int .i64) 3 w' w.heap.size (fun _ => True) v0_ r ∧ Below w.heap.size w w' := by
 have hu96 := Try.underlying96
 have hu98 := Try.underlying98
 have HR0_3 := Aside0.mk hr0_3
 have HC0_3 := Aside0.mk hc0_3
 clear hr0_3 hc0_3
 have HB := Aside0.mk (Below.refl w.heap.size w)
 have H : (spec_l5Numbers.l0 k (([a0_0, a0_1, (a0_2.size : Int)] : List Int)) 0 a0_0 a0_1 a0_2 l0_3) = some r := h
 clear h
 obtain ⟨y106, hy106⟩ : ∃ y_ : List Int, y_ = (([a0_0, a0_1, (a0_2.size : Int)] : List Int)) := ⟨_, rfl⟩
 replace H : (spec_l5Numbers.l0 k y106 0 a0_0 a0_1 a0_2 l0_3) = some r := by first | (rw [hy106]; with_reducible exact H) | (have H2_ := (Option.bind_some _ _).symm.trans H; rw [hy106]; with_reducible exact H2_) | (have H2_ := (Option.bind_some _ _).symm.trans H; with_reducible exact H2_) | with_reducible exact H | (rw [hy106]; exact H) | exact H
 have Ny106 := Aside0.mk hy106
 clear hy106
 have H' := Aside0.mk H
 clear H
 go_enter Try.func126, Try.ntmps126
 go_wp2_with (first | ((with_reducible refine qo0 (N := 1) rfl ?_); refine qn0 ?hg (N := 1) ?hd (cs := #[.int .i64 a0_0, .int .i64 a0_1, .string a0_2, .slice A0_3 l0_3.length c0_3]) (t := 96) ?hr ?_; (case hd => rfl); (case hg => rfl); (case hr => first | (go_simp; done) | (go_simp; rfl)); intro gb105 hg w2 hbox hb; have n0_ := Aside0.mk (qk0 (by repeat (first | (with_reducible first | exact HB.out | apply qb0 | apply qa0 | apply qc0) | exact HB.out)) hb); have n1_ := Aside0.mk (hbox); have n2_ := Aside0.mk ((by rw [hg]; exact (qj0 (by repeat (first | (with_reducible first | exact HB.out | apply qb0 | apply qa0 | apply qc0) | exact HB.out))) : w.heap.size ≤ gb105)); have n3_ := Aside0.mk ((by rw [hg]; exact (qj0 (by repeat (first | (with_reducible first | exact HB.out | apply qb0 | apply qa0 | apply qc0) | exact HB.out))) : w.heap.size ≤ gb105)); clear HB; have HB := n0_; have BK105 := n1_; have GW105 := n2_; have GE105 := n3_; clear n0_ n1_ n2_ n3_; clear hb hbox hg; have hcz3_0 : w2.cell? ⟨gb105, 0, none⟩ = some (.int .i64 a0_0) := (qe0 BK105.out 0).trans rfl; have hcz3_1 : w2.cell? ⟨gb105, 1, none⟩ = some (.int .i64 a0_1) := (qe0 BK105.out 1).trans rfl; have hcz3_2 : w2.cell? ⟨gb105, 2, none⟩ = some (.string a0_2) := (qe0 BK105.out 2).trans rfl; have hcz3_3 : w2.cell? ⟨gb105, 3, none⟩ = some (.slice A0_3 l0_3.length c0_3) := (qe0 BK105.out 3).trans rfl; have hfz3_0 := qd0 BK105.out 0; have hfz3_1 := qd0 BK105.out 1; have hfz3_2 := qd0 BK105.out 2; have hfz3_3 := qd0 BK105.out 3) | ((with_reducible refine qo0 (N := 14) rfl ?_); refine Kd.R_lit (Kd.int .i64) _ 3 ?hg (N := 14) ?hd (xs := ([a0_0, a0_1, (a0_2.size : Int)] : List Int)) (inner := [.int .i64 a0_0, .int .i64 a0_1, .int .i64 (a0_2.size : Int)]) (ok := fun _ => True) (okp := fun _ => True) ?hr ?hp (fun _ hk => hk) trivial (Below.refl _ _) (Nat.le_refl _) (by simp) ?_; (case hd => rfl); (case hg => rfl); (case hr => first | (go_simp; done) | (go_simp; rfl)); (case hp => exact (Reps.one (show Kd.M (Kd.int .i64) _ _ _ a0_0 [.int .i64 a0_0] from rfl) (Reps.one (show Kd.M (Kd.int .i64) _ _ _ a0_1 [.int .i64 a0_1] from rfl) (Reps.one (show Kd.M (Kd.int .i64) _ _ _ (a0_2.size : Int) [.int .i64 (a0_2.size : Int)] from rfl) (Reps.none _ _))))); intro v107 w4 ho5 hb hg_ hnew_; clear hg_ hnew_; (first | rw [← Ny106.out] at ho5 | (simp only [Int.reduceToNat] at ho5; rw [← Ny106.out] at ho5)); have n0_ := Aside0.mk (Kd.R_lower ho5 (qj0 (by repeat (first | (with_reducible first | exact HB.out | apply qb0 | apply qa0 | apply qc0 | refine qf0 ?_ GE105.out) | exact HB.out)))); have n1_ := Aside0.mk (qp0 (g := gb105) (o := .cells #[.int .i64 a0_0, .int .i64 a0_1, .string a0_2, .slice A0_3 l0_3.length c0_3] 96 (0, 0)) (by (with_reducible repeat (first | refine qg0 ?_ _ | refine qi0 ?_ | refine qh0 ?_ _)); exact BK105.out) hb); have n2_ := Aside0.mk (qk0 (by repeat (first | (with_reducible first | exact HB.out | apply qb0 | apply qa0 | apply qc0 | refine qf0 ?_ GE105.out) | exact HB.out)) hb); clear BK105; clear HB; have HO108 := n0_; have BK105 := n1_; have HB := n2_; clear n0_ n1_ n2_; clear hb ho5))
 go_loopg [3, 4] k (fun kq v3 v4 w' => ∃ (x3_1 : List Int) (x4_1 : Int), v4 = .int .i64 x4_1 ∧ Aside0 (spec_l5Numbers.l0 kq x3_1 x4_1 a0_0 a0_1 a0_2 l0_3 = some r) ∧ Aside0 (kq ≤ k) ∧ Aside0 (Kd.R (Kd.int .i64) 3 w' w.heap.size (fun _ => True) v3 x3_1) ∧ Aside0 (w'.heap[gb105]? = some (.cells #[.int .i64 a0_0, .int .i64 a0_1, .string a0_2, (.slice A0_3 l0_3.length c0_3)] 96 (0, 0))) ∧ Aside0 (Below w.heap.size w w'))
 case atStart => exact ⟨(y106), (0), (by first | rfl | (simp; done) | (simp [*]; done)), H', ⟨Nat.le_refl _⟩, ⟨by (with_reducible repeat (first | apply Kd.qk1 | apply Kd.qj1 | apply Kd.qn1)); exact HO108.out⟩, ⟨by (with_reducible repeat (first | refine qg0 ?_ _ | refine qi0 ?_ | refine qh0 ?_ _)); exact BK105.out⟩, ⟨by repeat (first | (with_reducible first | exact HB.out | apply qb0 | apply qa0 | apply qc0 | refine qf0 ?_ GE105.out) | exact HB.out)⟩⟩
 case round =>
  clear H'
  try clear c1
  try clear p2
  try clear hcz3_0
  try clear hcz3_1
  try clear hcz3_2
  try clear hcz3_3
  try clear hfz3_0
  try clear hfz3_1
  try clear hfz3_2
  try clear hfz3_3
  obtain ⟨x3_1, x4_1, rfl, HA, HK1, HO_3, BK105, HB⟩ := hrel
  cases gk with
  | zero => exact absurd HA.out (by simp [spec_l5Numbers.l0])
  | succ k1 =>
   have H := HA.out
   clear HA
   simp only [spec_l5Numbers.l0] at H
   by_cases c6 : x4_1 < (a0_2.size : Int)
   ·rw [if_pos c6] at H
    have c6b0 : decide (x4_1 < (a0_2.size : Int)) = true := decide_eq_true c6
    clear c6
    by_cases c7 : 0 ≤ x4_1
    case neg => rw [if_neg c7] at H; exact absurd H (by simp)
    rw [if_pos c7] at H
    have c7b0 : decide (0 ≤ x4_1) = true := decide_eq_true c7
    clear c7
    by_cases c9 : x3_1.length < 17592186044416
    case neg => rw [if_neg c9] at H; exact absurd H (by simp)
    rw [if_pos c9] at H
    have LMc9 := Aside0.mk c9
    clear c9
    obtain ⟨y109, hy109⟩ : ∃ y_ : List Int, y_ = (x3_1 ++ [wrap64 (bt a0_2 x4_1)]) := ⟨_, rfl⟩
    replace H : (spec_l5Numbers.l0 k1 y109 (wrap64 (x4_1 + 1)) a0_0 a0_1 a0_2 l0_3) = some r := by first | (rw [hy109]; with_reducible exact H) | (have H2_ := (Option.bind_some _ _).symm.trans H; rw [hy109]; with_reducible exact H2_) | (have H2_ := (Option.bind_some _ _).symm.trans H; with_reducible exact H2_) | with_reducible exact H | (rw [hy109]; exact H) | exact H
    have Ny109 := Aside0.mk hy109
    clear hy109
    have H' := Aside0.mk H
    clear H
    have hcz10_0 : wr.cell? ⟨gb105, 0, none⟩ = some (.int .i64 a0_0) := (qe0 BK105.out 0).trans rfl
    have hcz10_1 : wr.cell? ⟨gb105, 1, none⟩ = some (.int .i64 a0_1) := (qe0 BK105.out 1).trans rfl
    have hcz10_2 : wr.cell? ⟨gb105, 2, none⟩ = some (.string a0_2) := (qe0 BK105.out 2).trans rfl
    have hcz10_3 : wr.cell? ⟨gb105, 3, none⟩ = some (.slice A0_3 l0_3.length c0_3) := (qe0 BK105.out 3).trans rfl
    have hfz10_0 := qd0 BK105.out 0
    have hfz10_1 := qd0 BK105.out 1
    have hfz10_2 := qd0 BK105.out 2
    have hfz10_3 := qd0 BK105.out 3
    have p8 : 0 ≤ (x4_1 : Int) := of_decide_eq_true (by first | (with_reducible assumption) | assumption)
    have q8 : x4_1 < (a0_2.size : Int) := of_decide_eq_true (by first | (with_reducible assumption) | assumption)
    have hx8 := bt_at a0_2 x4_1
    replace p8 := eq_true p8
    replace q8 := eq_true q8
    go_wp2_with (first | ((with_reducible refine gate_builtin (b := .append) (xs := #[.tmp 22, .tmp 28]) rfl ?_); at_builtin; refine Kd.R_append (Kd.int .i64) (w0 := w) w.heap.size rfl (.tmp 22) (.tmp 28) 25 3 (.int .i64 0) 8 rfl Try.underlying25 info3 rfl (by decide) (by omega) u3 x3_1 (wrap64 (bt a0_2 x4_1)) [.int .i64 (wrap64 (bt a0_2 x4_1))] (fun _ => True) (fun _ => False) rfl rfl ?aP (fun _ hk => hk.elim) ?aF ?aO ?aB ?aS ?aL ?_; (case aP => exact rfl); (case aB => exact (by repeat (first | (with_reducible first | exact HB.out | apply qb0 | apply qa0 | apply qc0 | refine qf0 ?_ GE105.out) | exact HB.out))); (case aF => exact (fun _ _ => trivial)); (case aO => exact (by (with_reducible repeat (first | apply Kd.qk1 | apply Kd.qj1 | apply Kd.qn1)); exact HO_3.out)); (case aS => exact (qj0 (by repeat (first | (with_reducible first | exact HB.out | apply qb0 | apply qa0 | apply qc0 | refine qf0 ?_ GE105.out) | exact HB.out)))); (case aL => have := LMc9.out; omega); intro v110 w11 ho hb hg hat; rw [← Ny109.out] at ho; have n0_ := Aside0.mk (blk_grown (g := gb105) (o := .cells #[.int .i64 a0_0, .int .i64 a0_1, .string a0_2, .slice A0_3 l0_3.length c0_3] 96 (0, 0)) (by (with_reducible repeat (first | refine qg0 ?_ _ | refine qi0 ?_ | refine qh0 ?_ _)); exact BK105.out) hg (Kd.R_ne HO_3.out BK105.out (by decide))); have n1_ := Aside0.mk (hb); have n2_ := Aside0.mk (ho); clear BK105; clear HB; clear HO_3; have BK105 := n0_; have HB := n1_; have HO111 := n2_; clear n0_ n1_ n2_; clear ho hb hg hat))
    go_roundg k1
    case measure => have := HK1.out; omega
    case rel => exact ⟨(y109), (wrap64 (x4_1 + 1)), (by first | rfl | (simp; done) | (simp [*]; done)), H', ⟨by have := HK1.out; omega⟩, ⟨by (with_reducible repeat (first | apply Kd.qk1 | apply Kd.qj1 | apply Kd.qn1)); exact HO111.out⟩, ⟨by (with_reducible repeat (first | refine qg0 ?_ _ | refine qi0 ?_ | refine qh0 ?_ _)); exact BK105.out⟩, ⟨by repeat (first | (with_reducible first | exact HB.out | apply qb0 | apply qa0 | apply qc0 | refine qf0 ?_ GE105.out) | exact HB.out)⟩⟩
   rw [if_neg c6] at H
   have c6b0 : decide (x4_1 < (a0_2.size : Int)) = false := decide_eq_false c6
   clear c6
   by_cases c12 : x3_1.length < 17592186044416
   case neg => rw [if_neg c12] at H; exact absurd H (by simp)
   rw [if_pos c12] at H
   have LMc12 := Aside0.mk c12
   clear c12
   obtain ⟨y112, hy112⟩ : ∃ y_ : List Int, y_ = (x3_1 ++ [(l0_3.length : Int)]) := ⟨_, rfl⟩
   replace H : (spec_l5Numbers.l1 k1 y112 0 a0_0 a0_1 a0_2 l0_3) = some r := by first | (rw [hy112]; with_reducible exact H) | (have H2_ := (Option.bind_some _ _).symm.trans H; rw [hy112]; with_reducible exact H2_) | (have H2_ := (Option.bind_some _ _).symm.trans H; with_reducible exact H2_) | with_reducible exact H | (rw [hy112]; exact H) | exact H
   have Ny112 := Aside0.mk hy112
   clear hy112
   have H' := Aside0.mk H
   clear H
   have hcz13_0 : wr.cell? ⟨gb105, 0, none⟩ = some (.int .i64 a0_0) := (qe0 BK105.out 0).trans rfl
   have hcz13_1 : wr.cell? ⟨gb105, 1, none⟩ = some (.int .i64 a0_1) := (qe0 BK105.out 1).trans rfl
   have hcz13_2 : wr.cell? ⟨gb105, 2, none⟩ = some (.string a0_2) := (qe0 BK105.out 2).trans rfl
   have hcz13_3 : wr.cell? ⟨gb105, 3, none⟩ = some (.slice A0_3 l0_3.length c0_3) := (qe0 BK105.out 3).trans rfl
   have hfz13_0 := qd0 BK105.out 0
   have hfz13_1 := qd0 BK105.out 1
   have hfz13_2 := qd0 BK105.out 2
   have hfz13_3 := qd0 BK105.out 3
   go_wp2_with (first | ((with_reducible refine gate_builtin (b := .append) (xs := #[.tmp 30, .tmp 34]) rfl ?_); at_builtin; refine Kd.R_append (Kd.int .i64) (w0 := w) w.heap.size rfl (.tmp 30) (.tmp 34) 25 3 (.int .i64 0) 8 rfl Try.underlying25 info3 rfl (by decide) (by omega) u3 x3_1 (l0_3.length : Int) [.int .i64 (l0_3.length : Int)] (fun _ => True) (fun _ => False) rfl rfl ?aP (fun _ hk => hk.elim) ?aF ?aO ?aB ?aS ?aL ?_; (case aP => exact rfl); (case aB => exact (by repeat (first | (with_reducible first | exact HB.out | apply qb0 | apply qa0 | apply qc0 | refine qf0 ?_ GE105.out) | exact HB.out))); (case aF => exact (fun _ _ => trivial)); (case aO => exact (by (with_reducible repeat (first | apply Kd.qk1 | apply Kd.qj1 | apply Kd.qn1)); exact HO_3.out)); (case aS => exact (qj0 (by repeat (first | (with_reducible first | exact HB.out | apply qb0 | apply qa0 | apply qc0 | refine qf0 ?_ GE105.out) | exact HB.out)))); (case aL => have := LMc12.out; omega); intro v113 w14 ho hb hg hat; rw [← Ny112.out] at ho; have n0_ := Aside0.mk (blk_grown (g := gb105) (o := .cells #[.int .i64 a0_0, .int .i64 a0_1, .string a0_2, .slice A0_3 l0_3.length c0_3] 96 (0, 0)) (by (with_reducible repeat (first | refine qg0 ?_ _ | refine qi0 ?_ | refine qh0 ?_ _)); exact BK105.out) hg (Kd.R_ne HO_3.out BK105.out (by decide))); have n1_ := Aside0.mk (hb); have n2_ := Aside0.mk (ho); clear BK105; clear HB; clear HO_3; have BK105 := n0_; have HB := n1_; have HO114 := n2_; clear n0_ n1_ n2_; clear ho hb hg hat))
   go_loopg [3, 5] k1 (fun kq v3 v5 w' => ∃ (x3_2 : List Int) (x5_2 : Int), v5 = .int .i64 x5_2 ∧ Aside0 (spec_l5Numbers.l1 kq x3_2 x5_2 a0_0 a0_1 a0_2 l0_3 = some r) ∧ Aside0 (kq ≤ k1) ∧ Aside0 (Kd.R (Kd.int .i64) 3 w' w.heap.size (fun _ => True) v3 x3_2) ∧ Aside0 (w'.heap[gb105]? = some (.cells #[.int .i64 a0_0, .int .i64 a0_1, .string a0_2, (.slice A0_3 l0_3.length c0_3)] 96 (0, 0))) ∧ Aside0 (Below w.heap.size w w'))
   case atStart => exact ⟨(y112), (0), (by first | rfl | (simp; done) | (simp [*]; done)), H', ⟨Nat.le_refl _⟩, ⟨by (with_reducible repeat (first | apply Kd.qk1 | apply Kd.qj1 | apply Kd.qn1)); exact HO114.out⟩, ⟨by (with_reducible repeat (first | refine qg0 ?_ _ | refine qi0 ?_ | refine qh0 ?_ _)); exact BK105.out⟩, ⟨by repeat (first | (with_reducible first | exact HB.out | apply qb0 | apply qa0 | apply qc0 | refine qf0 ?_ GE105.out) | exact HB.out)⟩⟩
   case round =>
    clear H'
    try clear c1
    try clear p2
    try clear c6
    try clear c6b0
    try clear p6
    try clear c7
    try clear c7b0
    try clear p8
    try clear q8
    try clear hx8
    try clear c9
    try clear c12
    try clear hcz10_0
    try clear hcz10_1
    try clear hcz10_2
    try clear hcz10_3
    try clear hcz13_0
    try clear hcz13_1
    try clear hcz13_2
    try clear hcz13_3
    try clear hcz3_0
    try clear hcz3_1
    try clear hcz3_2
    try clear hcz3_3
    try clear hfz10_0
    try clear hfz10_1
    try clear hfz10_2
    try clear hfz10_3
    try clear hfz13_0
    try clear hfz13_1
    try clear hfz13_2
    try clear hfz13_3
    try clear hfz3_0
    try clear hfz3_1
    try clear hfz3_2
    try clear hfz3_3
    try clear p2
    try clear p8
    try clear q8
    obtain ⟨x3_2, x5_2, rfl, HA, HK2, HO_3, BK105, HB⟩ := hrel
    cases gk with
    | zero => exact absurd HA.out (by simp [spec_l5Numbers.l1])
    | succ k2 =>
     have H := HA.out
     clear HA
     simp only [spec_l5Numbers.l1] at H
     by_cases c15 : x5_2 < (l0_3.length : Int)
     ·rw [if_pos c15] at H
      have c15b0 : decide (x5_2 < (l0_3.length : Int)) = true := decide_eq_true c15
      clear c15
      by_cases c16 : 0 ≤ x5_2
      case neg => rw [if_neg c16] at H; exact absurd H (by simp)
      rw [if_pos c16] at H
      have c16b0 : decide (0 ≤ x5_2) = true := decide_eq_true c16
      clear c16
      obtain ⟨y117, hy117⟩ : ∃ y_ : List Int, y_ = (([(rd_T98 l0_3 x5_2).f0, (rd_T98 l0_3 x5_2).f1, (rd_T98 l0_3 x5_2).f2, (rd_T98 l0_3 x5_2).f3, (rd_T98 l0_3 x5_2).f4] : List Int)) := ⟨_, rfl⟩
      replace H : (if x3_2.length + y117.length < 17592186044416 then (spec_l5Numbers.l1 k2 (x3_2 ++ y117) (wrap64 (x5_2 + 1)) a0_0 a0_1 a0_2 l0_3) else (none)) = some r := by first | (rw [hy117]; with_reducible exact H) | (have H2_ := (Option.bind_some _ _).symm.trans H; rw [hy117]; with_reducible exact H2_) | (have H2_ := (Option.bind_some _ _).symm.trans H; with_reducible exact H2_) | with_reducible exact H | (rw [hy117]; exact H) | exact H
      have Ny117 := Aside0.mk hy117
      clear hy117
      by_cases c17 : x3_2.length + y117.length < 17592186044416
      case neg => rw [if_neg c17] at H; exact absurd H (by simp)
      rw [if_pos c17] at H
      have LMc17 := Aside0.mk c17
      clear c17
      obtain ⟨y120, hy120⟩ : ∃ y_ : List Int, y_ = (x3_2 ++ y117) := ⟨_, rfl⟩
      replace H : (spec_l5Numbers.l1 k2 y120 (wrap64 (x5_2 + 1)) a0_0 a0_1 a0_2 l0_3) = some r := by first | (rw [hy120]; with_reducible exact H) | (have H2_ := (Option.bind_some _ _).symm.trans H; rw [hy120]; with_reducible exact H2_) | (have H2_ := (Option.bind_some _ _).symm.trans H; with_reducible exact H2_) | with_reducible exact H | (rw [hy120]; exact H) | exact H
      have Ny120 := Aside0.mk hy120
      clear hy120
      have H' := Aside0.mk H
      clear H
      have hcz18_0 : wr.cell? ⟨gb105, 0, none⟩ = some (.int .i64 a0_0) := (qe0 BK105.out 0).trans rfl
      have hcz18_1 : wr.cell? ⟨gb105, 1, none⟩ = some (.int .i64 a0_1) := (qe0 BK105.out 1).trans rfl
      have hcz18_2 : wr.cell? ⟨gb105, 2, none⟩ = some (.string a0_2) := (qe0 BK105.out 2).trans rfl
      have hcz18_3 : wr.cell? ⟨gb105, 3, none⟩ = some (.slice A0_3 l0_3.length c0_3) := (qe0 BK105.out 3).trans rfl
      have hfz18_0 := qd0 BK105.out 0
      have hfz18_1 := qd0 BK105.out 1
      have hfz18_2 := qd0 BK105.out 2
      have hfz18_3 := qd0 BK105.out 3
      have p115 : 0 ≤ (x5_2 : Int) := of_decide_eq_true (by first | (with_reducible assumption) | assumption)
      have q115 : x5_2 < (l0_3.length : Int) := of_decide_eq_true (by first | (with_reducible assumption) | assumption)
      obtain ⟨ad115, e115, hx115_0, hx115_1, hx115_2, hx115_3, hx115_4⟩ := at_T98 HR0_3.out x5_2 p115 q115
      cases e115
      replace hx115_0 := (HB.out.cell (World.block_lt_of_cell? w _ hx115_0)).trans hx115_0
      replace hx115_1 := (HB.out.cell (World.block_lt_of_cell? w _ hx115_1)).trans hx115_1
      replace hx115_2 := (HB.out.cell (World.block_lt_of_cell? w _ hx115_2)).trans hx115_2
      replace hx115_3 := (HB.out.cell (World.block_lt_of_cell? w _ hx115_3)).trans hx115_3
      replace hx115_4 := (HB.out.cell (World.block_lt_of_cell? w _ hx115_4)).trans hx115_4
      replace p115 := eq_true p115
      replace q115 := eq_true q115
      go_wp2_with (first | ((with_reducible refine qo0 (N := 6) rfl ?_); refine qn0 ?hg (N := 6) ?hd (cs := #[.int .i64 0, .int .i64 0, .int .i64 0, .int .i64 0, .int .i64 0]) (t := 98) ?hr ?_; (case hd => rfl); (case hg => rfl); (case hr => first | (go_simp; done) | (go_simp; rfl)); intro gb116 hg w19 hbox hb; have n0_ := Aside0.mk (Kd.R_below (by (with_reducible repeat (first | apply Kd.qk1 | apply Kd.qj1 | apply Kd.qn1)); exact HO_3.out) hb); have n1_ := Aside0.mk (qp0 (g := gb105) (o := .cells #[.int .i64 a0_0, .int .i64 a0_1, .string a0_2, .slice (some ad115) l0_3.length c0_3] 96 (0, 0)) (by (with_reducible repeat (first | refine qg0 ?_ _ | refine qi0 ?_ | refine qh0 ?_ _)); exact BK105.out) hb); have n2_ := Aside0.mk (qk0 (by repeat (first | (with_reducible first | exact HB.out | apply qb0 | apply qa0 | apply qc0 | refine qf0 ?_ GE105.out) | exact HB.out)) hb); have n3_ := Aside0.mk (hbox); have n4_ := Aside0.mk ((by rw [hg]; exact (qj0 (by repeat (first | (with_reducible first | exact HB.out | apply qb0 | apply qa0 | apply qc0 | refine qf0 ?_ GE105.out) | exact HB.out))) : w.heap.size ≤ gb116)); have n5_ := Aside0.mk ((by rw [hg]; exact (qj0 (by repeat (first | (with_reducible first | exact HB.out | apply qb0 | apply qa0 | apply qc0 | refine qf0 ?_ GE105.out) | exact HB.out))) : w.heap.size ≤ gb116)); have n6_ := Aside0.mk ((by rw [hg]; exact Nat.ne_of_lt (qy0 (g := gb105) (o := .cells #[.int .i64 a0_0, .int .i64 a0_1, .string a0_2, .slice (some ad115) l0_3.length c0_3] 96 (0, 0)) (by (with_reducible repeat (first | refine qg0 ?_ _ | refine qi0 ?_ | refine qh0 ?_ _)); exact BK105.out)) : gb105 ≠ gb116)); have n7_ := Aside0.mk ((by rw [hg]; exact Nat.ne_of_gt (qy0 (g := gb105) (o := .cells #[.int .i64 a0_0, .int .i64 a0_1, .string a0_2, .slice (some ad115) l0_3.length c0_3] 96 (0, 0)) (by (with_reducible repeat (first | refine qg0 ?_ _ | refine qi0 ?_ | refine qh0 ?_ _)); exact BK105.out)) : gb116 ≠ gb105)); clear HO_3; clear BK105; clear HB; have HO_3 := n0_; have BK105 := n1_; have HB := n2_; have BK116 := n3_; have GW116 := n4_; have GE116 := n5_; have NB105_116 := n6_; have NB116_105 := n7_; clear n0_ n1_ n2_ n3_ n4_ n5_ n6_ n7_; clear hb hbox hg; have hnb20 := NB116_105.out; have hnc20 := NB105_116.out; have hcz21_0 : w19.cell? ⟨gb116, 0, none⟩ = some (.int .i64 0) := (qe0 BK116.out 0).trans rfl; have hcz21_1 : w19.cell? ⟨gb116, 1, none⟩ = some (.int .i64 0) := (qe0 BK116.out 1).trans rfl; have hcz21_2 : w19.cell? ⟨gb116, 2, none⟩ = some (.int .i64 0) := (qe0 BK116.out 2).trans rfl; have hcz21_3 : w19.cell? ⟨gb116, 3, none⟩ = some (.int .i64 0) := (qe0 BK116.out 3).trans rfl; have hcz21_4 : w19.cell? ⟨gb116, 4, none⟩ = some (.int .i64 0) := (qe0 BK116.out 4).trans rfl; have hfz21_0 := qd0 BK116.out 0; have hfz21_1 := qd0 BK116.out 1; have hfz21_2 := qd0 BK116.out 2; have hfz21_3 := qd0 BK116.out 3; have hfz21_4 := qd0 BK116.out 4) | ((with_reducible refine qo0 (N := 59) rfl ?_); refine Kd.R_lit (Kd.int .i64) _ 3 ?hg (N := 59) ?hd (xs := ([(rd_T98 l0_3 x5_2).f0, (rd_T98 l0_3 x5_2).f1, (rd_T98 l0_3 x5_2).f2, (rd_T98 l0_3 x5_2).f3, (rd_T98 l0_3 x5_2).f4] : List Int)) (inner := [.int .i64 ((rd_T98 l0_3 x5_2).f0), .int .i64 ((rd_T98 l0_3 x5_2).f1), .int .i64 ((rd_T98 l0_3 x5_2).f2), .int .i64 ((rd_T98 l0_3 x5_2).f3), .int .i64 ((rd_T98 l0_3 x5_2).f4)]) (ok := fun _ => True) (okp := fun _ => True) ?hr ?hp (fun _ hk => hk) trivial (Below.refl _ _) (Nat.le_refl _) (by simp) ?_; (case hd => rfl); (case hg => rfl); (case hr => first | (go_simp; done) | (go_simp; rfl)); (case hp => exact (Reps.one (show Kd.M (Kd.int .i64) _ _ _ ((rd_T98 l0_3 x5_2).f0) [.int .i64 ((rd_T98 l0_3 x5_2).f0)] from rfl) (Reps.one (show Kd.M (Kd.int .i64) _ _ _ ((rd_T98 l0_3 x5_2).f1) [.int .i64 ((rd_T98 l0_3 x5_2).f1)] from rfl) (Reps.one (show Kd.M (Kd.int .i64) _ _ _ ((rd_T98 l0_3 x5_2).f2) [.int .i64 ((rd_T98 l0_3 x5_2).f2)] from rfl) (Reps.one (show Kd.M (Kd.int .i64) _ _ _ ((rd_T98 l0_3 x5_2).f3) [.int .i64 ((rd_T98 l0_3 x5_2).f3)] from rfl) (Reps.one (show Kd.M (Kd.int .i64) _ _ _ ((rd_T98 l0_3 x5_2).f4) [.int .i64 ((rd_T98 l0_3 x5_2).f4)] from rfl) (Reps.none _ _))))))); intro v118 w22 ho23 hb hg_ hnew_; clear hg_ hnew_; (first | rw [← Ny117.out] at ho23 | (simp only [Int.reduceToNat] at ho23; rw [← Ny117.out] at ho23)); have n0_ := Aside0.mk (Kd.R_elder' (by (with_reducible repeat (first | apply Kd.qk1 | apply Kd.qj1 | apply Kd.qn1)); exact (Kd.R_mono (Kd.R_far (p := ⟨gb116, 4, none⟩) (Kd.R_far (p := ⟨gb116, 3, none⟩) (Kd.R_far (p := ⟨gb116, 2, none⟩) (Kd.R_far (p := ⟨gb116, 1, none⟩) (Kd.R_far (p := ⟨gb116, 0, none⟩) (Kd.R_types HO_3.out BK116.out (by decide)) (fun _ hk => hk.2) (.int .i64 ((rd_T98 l0_3 x5_2).f0))) (fun _ hk => hk.2) (.int .i64 ((rd_T98 l0_3 x5_2).f1))) (fun _ hk => hk.2) (.int .i64 ((rd_T98 l0_3 x5_2).f2))) (fun _ hk => hk.2) (.int .i64 ((rd_T98 l0_3 x5_2).f3))) (fun _ hk => hk.2) (.int .i64 ((rd_T98 l0_3 x5_2).f4))) (fun _ h_ => h_.1))) (Kd.R_base ho23) hb); have n1_ := Aside0.mk (Kd.R_lower (Kd.R_new' ho23 (Kd.R_lt (by (with_reducible repeat (first | apply Kd.qk1 | apply Kd.qj1 | apply Kd.qn1)); exact (Kd.R_mono (Kd.R_far (p := ⟨gb116, 4, none⟩) (Kd.R_far (p := ⟨gb116, 3, none⟩) (Kd.R_far (p := ⟨gb116, 2, none⟩) (Kd.R_far (p := ⟨gb116, 1, none⟩) (Kd.R_far (p := ⟨gb116, 0, none⟩) (Kd.R_types HO_3.out BK116.out (by decide)) (fun _ hk => hk.2) (.int .i64 ((rd_T98 l0_3 x5_2).f0))) (fun _ hk => hk.2) (.int .i64 ((rd_T98 l0_3 x5_2).f1))) (fun _ hk => hk.2) (.int .i64 ((rd_T98 l0_3 x5_2).f2))) (fun _ hk => hk.2) (.int .i64 ((rd_T98 l0_3 x5_2).f3))) (fun _ hk => hk.2) (.int .i64 ((rd_T98 l0_3 x5_2).f4))) (fun _ h_ => h_.1))))) (qj0 (by repeat (first | (with_reducible first | exact HB.out | apply qb0 | apply qa0 | apply qc0 | refine qf0 ?_ GE105.out | refine qf0 ?_ GE116.out) | exact HB.out)))); have n2_ := Aside0.mk (qp0 (g := gb105) (o := .cells #[.int .i64 a0_0, .int .i64 a0_1, .string a0_2, .slice (some ad115) l0_3.length c0_3] 96 (0, 0)) (by (with_reducible repeat (first | refine qg0 ?_ _ | refine qi0 ?_ | refine qh0 ?_ _)); refine qi1 ?_ NB105_116.out _; (with_reducible repeat (first | refine qg0 ?_ _ | refine qi0 ?_ | refine qh0 ?_ _)); refine qi1 ?_ NB105_116.out _; (with_reducible repeat (first | refine qg0 ?_ _ | refine qi0 ?_ | refine qh0 ?_ _)); refine qi1 ?_ NB105_116.out _; (with_reducible repeat (first | refine qg0 ?_ _ | refine qi0 ?_ | refine qh0 ?_ _)); refine qi1 ?_ NB105_116.out _; (with_reducible repeat (first | refine qg0 ?_ _ | refine qi0 ?_ | refine qh0 ?_ _)); refine qi1 ?_ NB105_116.out _; (with_reducible repeat (first | refine qg0 ?_ _ | refine qi0 ?_ | refine qh0 ?_ _)); exact BK105.out) hb); have n3_ := Aside0.mk (qp0 (g := gb116) (o := .cells #[.int .i64 ((rd_T98 l0_3 x5_2).f0), .int .i64 ((rd_T98 l0_3 x5_2).f1), .int .i64 ((rd_T98 l0_3 x5_2).f2), .int .i64 ((rd_T98 l0_3 x5_2).f3), .int .i64 ((rd_T98 l0_3 x5_2).f4)] 98 (0, 0)) (by (with_reducible repeat (first | refine qg0 ?_ _ | refine qi0 ?_ | refine qh0 ?_ _)); refine qf1 (cs := #[.int .i64 ((rd_T98 l0_3 x5_2).f0), .int .i64 ((rd_T98 l0_3 x5_2).f1), .int .i64 ((rd_T98 l0_3 x5_2).f2), .int .i64 ((rd_T98 l0_3 x5_2).f3), .int .i64 0]) ?_ 4 _ rfl; (with_reducible repeat (first | refine qg0 ?_ _ | refine qi0 ?_ | refine qh0 ?_ _)); refine qf1 (cs := #[.int .i64 ((rd_T98 l0_3 x5_2).f0), .int .i64 ((rd_T98 l0_3 x5_2).f1), .int .i64 ((rd_T98 l0_3 x5_2).f2), .int .i64 0, .int .i64 0]) ?_ 3 _ rfl; (with_reducible repeat (first | refine qg0 ?_ _ | refine qi0 ?_ | refine qh0 ?_ _)); refine qf1 (cs := #[.int .i64 ((rd_T98 l0_3 x5_2).f0), .int .i64 ((rd_T98 l0_3 x5_2).f1), .int .i64 0, .int .i64 0, .int .i64 0]) ?_ 2 _ rfl; (with_reducible repeat (first | refine qg0 ?_ _ | refine qi0 ?_ | refine qh0 ?_ _)); refine qf1 (cs := #[.int .i64 ((rd_T98 l0_3 x5_2).f0), .int .i64 0, .int .i64 0, .int .i64 0, .int .i64 0]) ?_ 1 _ rfl; (with_reducible repeat (first | refine qg0 ?_ _ | refine qi0 ?_ | refine qh0 ?_ _)); refine qf1 (cs := #[.int .i64 0, .int .i64 0, .int .i64 0, .int .i64 0, .int .i64 0]) ?_ 0 _ rfl; (with_reducible repeat (first | refine qg0 ?_ _ | refine qi0 ?_ | refine qh0 ?_ _)); exact BK116.out) hb); have n4_ := Aside0.mk (qk0 (by repeat (first | (with_reducible first | exact HB.out | apply qb0 | apply qa0 | apply qc0 | refine qf0 ?_ GE105.out | refine qf0 ?_ GE116.out) | exact HB.out)) hb); clear HO_3; clear BK105; clear BK116; clear HB; have HO_3 := n0_; have HO119 := n1_; have BK105 := n2_; have BK116 := n3_; have HB := n4_; clear n0_ n1_ n2_ n3_ n4_; clear hb ho23; obtain ⟨Ao25, co25, eo25⟩ := Kd.R_slice HO119.out; subst eo25) | ((with_reducible refine gate_builtin (b := .append) (xs := #[.tmp 48, .tmp 59]) rfl ?_); at_builtin; refine Kd.R_append_rows (Kd.int .i64) (w0 := w) w.heap.size rfl (.tmp 48) (.tmp 59) 25 3 (.int .i64 0) 8 rfl Try.underlying25 info3 rfl (by decide) (by omega) u3 x3_2 y117 _ _ _ (fun k_ => some k_ ≠ (.slice Ao25 y117.length co25 : Value).ownBlock) (fun _ => False) rfl rfl ?aO ?aR (fun _ _ h => h) (fun _ h => h.elim) ?aF ?aB ?aS ?aL ?_; (case aR => repeat (first | exact (Kd.R_reads' HO119.out).2.2 | (with_reducible refine Kd.qu0 ?_ _) | (with_reducible refine Kd.qt0 ?_ _) | (with_reducible refine Kd.C_drew ?_))); (case aB => exact (by repeat (first | (with_reducible first | exact HB.out | apply qb0 | apply qa0 | apply qc0 | refine qf0 ?_ GE105.out | refine qf0 ?_ GE116.out) | exact HB.out))); (case aF => exact (fun k_ hk => Kd.fresh' (Kd.R_lt (by (with_reducible repeat (first | apply Kd.qk1 | apply Kd.qj1 | apply Kd.qn1)); exact HO119.out)) k_ hk)); (case aO => exact (by (with_reducible repeat (first | apply Kd.qk1 | apply Kd.qj1 | apply Kd.qn1)); exact Kd.R_mono HO_3.out (fun _ hk => hk.2))); (case aS => exact (qj0 (by repeat (first | (with_reducible first | exact HB.out | apply qb0 | apply qa0 | apply qc0 | refine qf0 ?_ GE105.out | refine qf0 ?_ GE116.out) | exact HB.out)))); (case aL => have := LMc17.out; omega); intro v121 w24 ho hb hg hat; rw [← Ny120.out] at ho; have n0_ := Aside0.mk (blk_grown (g := gb105) (o := .cells #[.int .i64 a0_0, .int .i64 a0_1, .string a0_2, .slice (some ad115) l0_3.length c0_3] 96 (0, 0)) (by (with_reducible repeat (first | refine qg0 ?_ _ | refine qi0 ?_ | refine qh0 ?_ _)); exact BK105.out) hg (Kd.R_ne HO_3.out BK105.out (by decide))); have n1_ := Aside0.mk (blk_grown (g := gb116) (o := .cells #[.int .i64 ((rd_T98 l0_3 x5_2).f0), .int .i64 ((rd_T98 l0_3 x5_2).f1), .int .i64 ((rd_T98 l0_3 x5_2).f2), .int .i64 ((rd_T98 l0_3 x5_2).f3), .int .i64 ((rd_T98 l0_3 x5_2).f4)] 98 (0, 0)) (by (with_reducible repeat (first | refine qg0 ?_ _ | refine qi0 ?_ | refine qh0 ?_ _)); exact BK116.out) hg (Kd.R_ne HO_3.out BK116.out (by decide))); have n2_ := Aside0.mk (Kd.R_after (ok := (fun _ => True)) (by (with_reducible repeat (first | apply Kd.qk1 | apply Kd.qj1 | apply Kd.qn1)); exact HO119.out) hg hat); have n3_ := Aside0.mk (hb); have n4_ := Aside0.mk (ho); clear BK105; clear BK116; clear HO119; clear HB; clear HO_3; have BK105 := n0_; have BK116 := n1_; have HO119 := n2_; have HB := n3_; have HO122 := n4_; clear n0_ n1_ n2_ n3_ n4_; clear ho hb hg hat))
      go_roundg k2
      case measure => have := HK1.out; have := HK2.out; omega
      case rel => exact ⟨(y120), (wrap64 (x5_2 + 1)), (by first | rfl | (simp; done) | (simp [*]; done)), H', ⟨by have := HK1.out; have := HK2.out; omega⟩, ⟨by (with_reducible repeat (first | apply Kd.qk1 | apply Kd.qj1 | apply Kd.qn1)); exact Kd.R_mono HO122.out (fun _ hk => trivial)⟩, ⟨by (with_reducible repeat (first | refine qg0 ?_ _ | refine qi0 ?_ | refine qh0 ?_ _)); exact BK105.out⟩, ⟨by repeat (first | (with_reducible first | exact HB.out | apply qb0 | apply qa0 | apply qc0 | refine qf0 ?_ GE105.out | refine qf0 ?_ GE116.out) | exact HB.out)⟩⟩
     rw [if_neg c15] at H
     have c15b0 : decide (x5_2 < (l0_3.length : Int)) = false := decide_eq_false c15
     clear c15
     obtain rfl := Option.some.inj H
     have hcz26_0 : wr.cell? ⟨gb105, 0, none⟩ = some (.int .i64 a0_0) := (qe0 BK105.out 0).trans rfl
     have hcz26_1 : wr.cell? ⟨gb105, 1, none⟩ = some (.int .i64 a0_1) := (qe0 BK105.out 1).trans rfl
     have hcz26_2 : wr.cell? ⟨gb105, 2, none⟩ = some (.string a0_2) := (qe0 BK105.out 2).trans rfl
     have hcz26_3 : wr.cell? ⟨gb105, 3, none⟩ = some (.slice A0_3 l0_3.length c0_3) := (qe0 BK105.out 3).trans rfl
     have hfz26_0 := qd0 BK105.out 0
     have hfz26_1 := qd0 BK105.out 1
     have hfz26_2 := qd0 BK105.out 2
     have hfz26_3 := qd0 BK105.out 3
     go_wp2
     go_ret
     exact ⟨_, by first | rfl | (simp [errW_none, errW_some] <;> rfl) | (simp [*, errW_none, errW_some] <;> rfl), by (with_reducible repeat (first | apply Kd.qk1 | apply Kd.qj1 | apply Kd.qn1)); exact HO_3.out, by repeat (first | (with_reducible first | exact HB.out | apply qb0 | apply qa0 | apply qc0 | refine qf0 ?_ GE105.out) | exact HB.out)⟩

end Go.Proofs.Ytdnhpicgjkddbaa.PFnExactHeadOf
