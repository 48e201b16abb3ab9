/- Lines by a program (a changed copy of the kit's print: this repo's wip/tools): Go functions as Lean functions, and proofs that the calls answer so. -/
import Derived.Test.YtdnenglafphkbaaZPFnExactMayx0
import Derived.Test.YtdnenglafphkbaaZPFnExactMayx1
import Derived.Test.YtdnenglafphkbaaZPFnExactMayx2
namespace Go.Proofs.Ytdnenglafphkbaa.PFnExactMay
open Go.RowKit Go.Proofs.YtdnenglafphkbaaW.PrintWords Go.Proofs.YtdnenglafphkbaaW.PrintLast Go.Proofs.YtdnenglafphkbaaW.PrintMore
attribute [local go_sem] max2_int min2_int max_two min_two max_three min_three max_four min_four   -- for this text's walks alone
set_option linter.unusedVariables false
set_option linter.unusedSimpArgs false

/-! ### spec_PeopleOk: function 81 -/
mutual
def spec_PeopleOk.l0 : Nat → List (S123) → Int → Option (Bool)
 | 0, _, _ => none
 | k + 1, x0, x3 => if x3 < (x0.length : Int) then (if 0 ≤ x3 then ((spec_NameOk.f k ((rd_T123 x0 x3).f0)).bind fun t110 => (if t110 = true then ((spec_l11Person.f k x0 ((rd_T123 x0 x3).f0)).bind fun t111 => (if t111 = x3 then (if (((rd_T123 x0 x3).f1).length : Int) > 8 then (spec_PeopleOk.j1 k x0 x3 true ((rd_T123 x0 x3).f0) ((rd_T123 x0 x3).f1) ((rd_T123 x0 x3).f2) ((rd_T123 x0 x3).f3) ((rd_T123 x0 x3).f4)) else ((spec_l1In.f ((rd_T123 x0 x3).f2) 0 100000000000).bind fun t112 => (spec_PeopleOk.j1 k x0 x3 (!t112) ((rd_T123 x0 x3).f0) ((rd_T123 x0 x3).f1) ((rd_T123 x0 x3).f2) ((rd_T123 x0 x3).f3) ((rd_T123 x0 x3).f4)))) else (spec_PeopleOk.j1 k x0 x3 true ((rd_T123 x0 x3).f0) ((rd_T123 x0 x3).f1) ((rd_T123 x0 x3).f2) ((rd_T123 x0 x3).f3) ((rd_T123 x0 x3).f4)))) else (spec_PeopleOk.j1 k x0 x3 true ((rd_T123 x0 x3).f0) ((rd_T123 x0 x3).f1) ((rd_T123 x0 x3).f2) ((rd_T123 x0 x3).f3) ((rd_T123 x0 x3).f4)))) else (none)) else (some true)
def spec_PeopleOk.j1 : Nat → List (S123) → Int → Bool → ByteArray → List ByteArray → Int → ByteArray → Bool → Option (Bool)
 | 0, _, _, _, _, _, _, _, _ => none
 | k + 1, x0, x3, x42, x110000, x110001, x110002, x110003, x110004 => if x42 = true then (some false) else (spec_PeopleOk.l1 k x0 x3 0 x110000 x110001 x110002 x110003 x110004)
def spec_PeopleOk.l1 : Nat → List (S123) → Int → Int → ByteArray → List ByteArray → Int → ByteArray → Bool → Option (Bool)
 | 0, _, _, _, _, _, _, _, _ => none
 | k + 1, x0, x3, x5, x110000, x110001, x110002, x110003, x110004 => if x5 < (x110001.length : Int) then (if 0 ≤ x5 then ((spec_NameOk.f k (rdOf ByteArray.empty x110001 x5)).bind fun t114 => (if t114 = true then (spec_PeopleOk.l1 k x0 x3 (wrap64 (x5 + 1)) x110000 x110001 x110002 x110003 x110004) else (some false))) else (none)) else (if x110003.toList = ([] : List UInt8) then (spec_PeopleOk.l0 k x0 (wrap64 (x3 + 1))) else (if x110003.toList = x110000.toList then (some false) else ((spec_l11Person.f k x0 x110003).bind fun t115 => (if t115 < 0 then (some false) else (spec_PeopleOk.l0 k x0 (wrap64 (x3 + 1)))))))
end
def spec_PeopleOk.f (k : Nat) (l0 : List (S123)) : Option (Bool) := if (l0.length : Int) > 40 then (some false) else (spec_PeopleOk.l0 k l0 0)
theorem spec_PeopleOk.mono_l : ∀ k, (∀ y0 y1, LeO (spec_PeopleOk.l0 k y0 y1) (spec_PeopleOk.l0 (k + 1) y0 y1)) ∧ (∀ y0 y1 y2 y3 y4 y5 y6 y7, LeO (spec_PeopleOk.j1 k y0 y1 y2 y3 y4 y5 y6 y7) (spec_PeopleOk.j1 (k + 1) y0 y1 y2 y3 y4 y5 y6 y7)) ∧ (∀ y0 y1 y2 y3 y4 y5 y6 y7, LeO (spec_PeopleOk.l1 k y0 y1 y2 y3 y4 y5 y6 y7) (spec_PeopleOk.l1 (k + 1) y0 y1 y2 y3 y4 y5 y6 y7))
 | 0 => ⟨fun _ _ r h => by simp [spec_PeopleOk.l0] at h, fun _ _ _ _ _ _ _ _ r h => by simp [spec_PeopleOk.j1] at h, fun _ _ _ _ _ _ _ _ r h => by simp [spec_PeopleOk.l1] at h⟩
 | k + 1 => by
  obtain ⟨ih0, ih1, ih2⟩ := spec_PeopleOk.mono_l k
  refine ⟨?_, ?_, ?_⟩
  ·intro y0 y1
   unfold spec_PeopleOk.l0
   repeat' first
   | (with_reducible exact ih0 _ _)
   | (with_reducible exact ih1 _ _ _ _ _ _ _ _)
   | (with_reducible exact ih2 _ _ _ _ _ _ _ _)
   | (with_reducible exact spec_NameOk.mono _ _)
   | (with_reducible exact spec_l11Person.mono _ _ _)
   | (with_reducible exact LeO.refl _)
   | (with_reducible exact LeO.none _)
   | (with_reducible refine LeO.ite ?_ ?_)
   | (with_reducible refine LeO.bind ?_ (fun _ => ?_))
   | exact ih0 _ _
   | exact ih1 _ _ _ _ _ _ _ _
   | exact ih2 _ _ _ _ _ _ _ _
   | exact spec_NameOk.mono _ _
   | exact spec_l11Person.mono _ _ _
   | exact LeO.none _
   | refine LeO.ite ?_ ?_
   | refine LeO.bind ?_ (fun _ => ?_)
  ·intro y0 y1 y2 y3 y4 y5 y6 y7
   unfold spec_PeopleOk.j1
   repeat' first
   | (with_reducible exact ih0 _ _)
   | (with_reducible exact ih1 _ _ _ _ _ _ _ _)
   | (with_reducible exact ih2 _ _ _ _ _ _ _ _)
   | (with_reducible exact spec_NameOk.mono _ _)
   | (with_reducible exact spec_l11Person.mono _ _ _)
   | (with_reducible exact LeO.refl _)
   | (with_reducible exact LeO.none _)
   | (with_reducible refine LeO.ite ?_ ?_)
   | (with_reducible refine LeO.bind ?_ (fun _ => ?_))
   | exact ih0 _ _
   | exact ih1 _ _ _ _ _ _ _ _
   | exact ih2 _ _ _ _ _ _ _ _
   | exact spec_NameOk.mono _ _
   | exact spec_l11Person.mono _ _ _
   | exact LeO.none _
   | refine LeO.ite ?_ ?_
   | refine LeO.bind ?_ (fun _ => ?_)
  ·intro y0 y1 y2 y3 y4 y5 y6 y7
   unfold spec_PeopleOk.l1
   repeat' first
   | (with_reducible exact ih0 _ _)
   | (with_reducible exact ih1 _ _ _ _ _ _ _ _)
   | (with_reducible exact ih2 _ _ _ _ _ _ _ _)
   | (with_reducible exact spec_NameOk.mono _ _)
   | (with_reducible exact spec_l11Person.mono _ _ _)
   | (with_reducible exact LeO.refl _)
   | (with_reducible exact LeO.none _)
   | (with_reducible refine LeO.ite ?_ ?_)
   | (with_reducible refine LeO.bind ?_ (fun _ => ?_))
   | exact ih0 _ _
   | exact ih1 _ _ _ _ _ _ _ _
   | exact ih2 _ _ _ _ _ _ _ _
   | exact spec_NameOk.mono _ _
   | exact spec_l11Person.mono _ _ _
   | exact LeO.none _
   | refine LeO.ite ?_ ?_
   | refine LeO.bind ?_ (fun _ => ?_)
theorem spec_PeopleOk.mono : ∀ a0 k, LeO (spec_PeopleOk.f k a0) (spec_PeopleOk.f (k + 1) a0) := by
 intro a0 k
 obtain ⟨ih0, ih1, ih2⟩ := spec_PeopleOk.mono_l k
 unfold spec_PeopleOk.f
 repeat' first
   | (with_reducible exact ih0 _ _)
   | (with_reducible exact ih1 _ _ _ _ _ _ _ _)
   | (with_reducible exact ih2 _ _ _ _ _ _ _ _)
   | (with_reducible exact spec_NameOk.mono _ _)
   | (with_reducible exact spec_l11Person.mono _ _ _)
   | (with_reducible exact LeO.refl _)
   | (with_reducible exact LeO.none _)
   | (with_reducible refine LeO.ite ?_ ?_)
   | (with_reducible refine LeO.bind ?_ (fun _ => ?_))
   | exact ih0 _ _
   | exact ih1 _ _ _ _ _ _ _ _
   | exact ih2 _ _ _ _ _ _ _ _
   | exact spec_NameOk.mono _ _
   | exact spec_l11Person.mono _ _ _
   | exact LeO.none _
   | refine LeO.ite ?_ ?_
   | refine LeO.bind ?_ (fun _ => ?_)
set_option maxHeartbeats 8000000 in
set_option maxRecDepth 100000 in
theorem spec_PeopleOk.calls (k : Nat) (A0 : Option Addr) (c0 : Nat) (l0 : List (S123)) (r : Bool) (w : World) (hr0 : Kd.C k123 w A0 l0.length l0) (hc0 : l0.length ≤ c0) (h : spec_PeopleOk.f k l0 = some r) :
  Calls Try.prog 81 #[.slice A0 l0.length c0] w fun e w' => e = .returned (.bool r) ∧ Below w.heap.size w w' := by
 have hu123 := Try.underlying123
 have HR0 := Aside0.mk hr0
 have HC0 := Aside0.mk hc0
 clear hr0 hc0
 have HB := Aside0.mk (Below.refl w.heap.size w)
 have H : (if (l0.length : Int) > 40 then (some false) else (spec_PeopleOk.l0 k l0 0)) = some r := h
 clear h
 by_cases c2 : (l0.length : Int) > 40
 ·rw [if_pos c2] at H
  have c2b0 : decide (40 < (l0.length : Int)) = true := decide_eq_true c2
  have c2b1 : decide (40 < l0.length) = true := decide_eq_true (by omega)
  clear c2
  obtain rfl := Option.some.inj H
  go_enter Try.func81, Try.ntmps81
  go_wp2
  go_ret
  exact ⟨by first | rfl | (simp [errW_none, errW_some] <;> rfl) | (simp [*, errW_none, errW_some] <;> rfl), by repeat (first | (with_reducible first | exact HB.out | apply qb0 | apply qa0 | apply qc0) | exact HB.out)⟩
 rw [if_neg c2] at H
 have c2b0 : decide (40 < (l0.length : Int)) = false := decide_eq_false c2
 have c2b1 : decide (40 < l0.length) = false := decide_eq_false (by omega)
 clear c2
 have H' := Aside0.mk H
 clear H
 go_enter Try.func81, Try.ntmps81
 go_wp2
 go_loopg [3] k (fun kq v3 w' => ∃ (x3_1 : Int), v3 = .int .i64 x3_1 ∧ Aside0 (spec_PeopleOk.l0 kq l0 x3_1 = some r) ∧ Aside0 (kq ≤ k) ∧ Aside0 (Below w.heap.size w w'))
 case atStart => exact ⟨(0), (by first | rfl | (simp; done) | (simp [*]; done)), H', ⟨Nat.le_refl _⟩, ⟨by repeat (first | (with_reducible first | exact HB.out | apply qb0 | apply qa0 | apply qc0) | exact HB.out)⟩⟩
 case round =>
  clear H'
  try clear c2
  try clear c2b0
  try clear c2b1
  try clear p2
  obtain ⟨x3_1, rfl, HA, HK1, HB⟩ := hrel
  cases gk with
  | zero => exact absurd HA.out (by simp [spec_PeopleOk.l0])
  | succ k1 =>
   have H := HA.out
   clear HA
   simp only [spec_PeopleOk.l0] at H
   by_cases c3 : x3_1 < (l0.length : Int)
   ·rw [if_pos c3] at H
    have c3b0 : decide (x3_1 < (l0.length : Int)) = true := decide_eq_true c3
    clear c3
    by_cases c4 : 0 ≤ x3_1
    case neg => rw [if_neg c4] at H; exact absurd H (by simp)
    rw [if_pos c4] at H
    have c4b0 : decide (0 ≤ x3_1) = true := decide_eq_true c4
    clear c4
    have HC5 := Aside0.mk H
    clear H
    have p108 : 0 ≤ (x3_1 : Int) := of_decide_eq_true (by first | (with_reducible assumption) | assumption)
    have q108 : x3_1 < (l0.length : Int) := of_decide_eq_true (by first | (with_reducible assumption) | assumption)
    obtain ⟨ad108, A108_1, c108_1, e108, hx108_0, hx108_1, hx108_2, hx108_3, hx108_4, hl108_1, hi108_1⟩ := at_T123 HR0.out x3_1 p108 q108
    cases e108
    replace hx108_0 := (HB.out.cell (World.block_lt_of_cell? w _ hx108_0)).trans hx108_0
    replace hx108_1 := (HB.out.cell (World.block_lt_of_cell? w _ hx108_1)).trans hx108_1
    replace hx108_2 := (HB.out.cell (World.block_lt_of_cell? w _ hx108_2)).trans hx108_2
    replace hx108_3 := (HB.out.cell (World.block_lt_of_cell? w _ hx108_3)).trans hx108_3
    replace hx108_4 := (HB.out.cell (World.block_lt_of_cell? w _ hx108_4)).trans hx108_4
    have HR108_1 := Aside0.mk hi108_1
    have HC108_1 := Aside0.mk hl108_1
    clear hi108_1 hl108_1
    replace p108 := eq_true p108
    replace q108 := eq_true q108
    go_upto_region 7 with (first | ((with_reducible refine qr0 (N := 4) rfl ?_); (try (refine gate_guard (by rfl) ?_; dsimp only)); refine qv0 ?hg (N := 4) ?hd (cs := #[.string (⟨#[]⟩ : ByteArray), .slice none 0 0, .int .i64 0, .string (⟨#[]⟩ : ByteArray), .bool false]) (t := 123) ?hr ?_; (case hd => rfl); (case hg => rfl); (case hr => first | (go_simp; done) | (go_simp; rfl)); intro gb109 hg w6 hbox hb; have n0_ := Aside0.mk (ql0 (by repeat (first | (with_reducible first | exact HB.out | apply qb0 | apply qa0 | apply qc0) | exact HB.out)) hb); have n1_ := Aside0.mk (hbox); have n2_ := Aside0.mk ((by rw [hg]; exact (qk0 (by repeat (first | (with_reducible first | exact HB.out | apply qb0 | apply qa0 | apply qc0) | exact HB.out))) : w.heap.size ≤ gb109)); have n3_ := Aside0.mk ((by rw [hg]; exact (qk0 (by repeat (first | (with_reducible first | exact HB.out | apply qb0 | apply qa0 | apply qc0) | exact HB.out))) : w.heap.size ≤ gb109)); clear HB; have HB := n0_; have BK109 := n1_; have GW109 := n2_; have GE109 := n3_; clear n0_ n1_ n2_ n3_; clear hb hbox hg; have hcz7_0 : w6.cell? ⟨gb109, 0, none⟩ = some (.string (⟨#[]⟩ : ByteArray)) := (qe0 BK109.out 0).trans rfl; have hcz7_1 : w6.cell? ⟨gb109, 1, none⟩ = some (.slice none 0 0) := (qe0 BK109.out 1).trans rfl; have hcz7_2 : w6.cell? ⟨gb109, 2, none⟩ = some (.int .i64 0) := (qe0 BK109.out 2).trans rfl; have hcz7_3 : w6.cell? ⟨gb109, 3, none⟩ = some (.string (⟨#[]⟩ : ByteArray)) := (qe0 BK109.out 3).trans rfl; have hcz7_4 : w6.cell? ⟨gb109, 4, none⟩ = some (.bool false) := (qe0 BK109.out 4).trans rfl; have hfz7_0 := qd0 BK109.out 0; have hfz7_1 := qd0 BK109.out 1; have hfz7_2 := qd0 BK109.out 2; have hfz7_3 := qd0 BK109.out 3; have hfz7_4 := qd0 BK109.out 4))
    (try simp only [Act.put, List.setIfInBounds_toArray, List.set_cons_zero, List.set_cons_succ])
    go_cut [42] (fun v42 wc => ∃ (kq : Nat) (x42_4 : Bool), v42 = .bool x42_4 ∧ Aside0 (spec_PeopleOk.j1 kq l0 x3_1 x42_4 ((rd_T123 l0 x3_1).f0) ((rd_T123 l0 x3_1).f1) ((rd_T123 l0 x3_1).f2) ((rd_T123 l0 x3_1).f3) ((rd_T123 l0 x3_1).f4) = some r) ∧ Aside0 (kq ≤ k1) ∧ Aside0 (wc.heap[gb109]? = some (.cells #[.string ((rd_T123 l0 x3_1).f0), (.slice A108_1 ((rd_T123 l0 x3_1).f1).length c108_1), .int .i64 ((rd_T123 l0 x3_1).f2), .string ((rd_T123 l0 x3_1).f3), .bool ((rd_T123 l0 x3_1).f4)] 123 (0, 0))) ∧ Aside0 (Below w.heap.size w wc))
    case first =>
     have H := HC5.out
     clear HC5
     replace H := Option.bind_eq_some_iff.mp H
     obtain ⟨t110, A80, H⟩ := H
     replace H : (if t110 = true then ((spec_l11Person.f k1 l0 ((rd_T123 l0 x3_1).f0)).bind fun t111 => (if t111 = x3_1 then (if (((rd_T123 l0 x3_1).f1).length : Int) > 8 then (spec_PeopleOk.j1 k1 l0 x3_1 true ((rd_T123 l0 x3_1).f0) ((rd_T123 l0 x3_1).f1) ((rd_T123 l0 x3_1).f2) ((rd_T123 l0 x3_1).f3) ((rd_T123 l0 x3_1).f4)) else ((spec_l1In.f ((rd_T123 l0 x3_1).f2) 0 100000000000).bind fun t112 => (spec_PeopleOk.j1 k1 l0 x3_1 (!t112) ((rd_T123 l0 x3_1).f0) ((rd_T123 l0 x3_1).f1) ((rd_T123 l0 x3_1).f2) ((rd_T123 l0 x3_1).f3) ((rd_T123 l0 x3_1).f4)))) else (spec_PeopleOk.j1 k1 l0 x3_1 true ((rd_T123 l0 x3_1).f0) ((rd_T123 l0 x3_1).f1) ((rd_T123 l0 x3_1).f2) ((rd_T123 l0 x3_1).f3) ((rd_T123 l0 x3_1).f4)))) else (spec_PeopleOk.j1 k1 l0 x3_1 true ((rd_T123 l0 x3_1).f0) ((rd_T123 l0 x3_1).f1) ((rd_T123 l0 x3_1).f2) ((rd_T123 l0 x3_1).f3) ((rd_T123 l0 x3_1).f4))) = some r := H
     have A8 := Aside0.mk A80
     clear A80
     by_cases c9 : t110 = true
     ·subst c9
      have H1 : ((spec_l11Person.f k1 l0 ((rd_T123 l0 x3_1).f0)).bind fun t111 => (if t111 = x3_1 then (if (((rd_T123 l0 x3_1).f1).length : Int) > 8 then (spec_PeopleOk.j1 k1 l0 x3_1 true ((rd_T123 l0 x3_1).f0) ((rd_T123 l0 x3_1).f1) ((rd_T123 l0 x3_1).f2) ((rd_T123 l0 x3_1).f3) ((rd_T123 l0 x3_1).f4)) else ((spec_l1In.f ((rd_T123 l0 x3_1).f2) 0 100000000000).bind fun t112 => (spec_PeopleOk.j1 k1 l0 x3_1 (!t112) ((rd_T123 l0 x3_1).f0) ((rd_T123 l0 x3_1).f1) ((rd_T123 l0 x3_1).f2) ((rd_T123 l0 x3_1).f3) ((rd_T123 l0 x3_1).f4)))) else (spec_PeopleOk.j1 k1 l0 x3_1 true ((rd_T123 l0 x3_1).f0) ((rd_T123 l0 x3_1).f1) ((rd_T123 l0 x3_1).f2) ((rd_T123 l0 x3_1).f3) ((rd_T123 l0 x3_1).f4)))) = some r := by rw [if_pos rfl] at H; exact H
      clear H
      have H := H1
      clear H1
      replace H := Option.bind_eq_some_iff.mp H
      obtain ⟨t111, A100, H⟩ := H
      replace H : (if t111 = x3_1 then (if (((rd_T123 l0 x3_1).f1).length : Int) > 8 then (spec_PeopleOk.j1 k1 l0 x3_1 true ((rd_T123 l0 x3_1).f0) ((rd_T123 l0 x3_1).f1) ((rd_T123 l0 x3_1).f2) ((rd_T123 l0 x3_1).f3) ((rd_T123 l0 x3_1).f4)) else ((spec_l1In.f ((rd_T123 l0 x3_1).f2) 0 100000000000).bind fun t112 => (spec_PeopleOk.j1 k1 l0 x3_1 (!t112) ((rd_T123 l0 x3_1).f0) ((rd_T123 l0 x3_1).f1) ((rd_T123 l0 x3_1).f2) ((rd_T123 l0 x3_1).f3) ((rd_T123 l0 x3_1).f4)))) else (spec_PeopleOk.j1 k1 l0 x3_1 true ((rd_T123 l0 x3_1).f0) ((rd_T123 l0 x3_1).f1) ((rd_T123 l0 x3_1).f2) ((rd_T123 l0 x3_1).f3) ((rd_T123 l0 x3_1).f4))) = some r := H
      have A10 := Aside0.mk A100
      clear A100
      by_cases c11 : t111 = x3_1
      ·rw [if_pos c11] at H
       have c11b0 : (t111 == x3_1) = true := beq_iff_eq.mpr c11
       have c11b1 : (t111 != x3_1) = false := bne_eq_false_iff_eq.mpr c11
       clear c11
       (first | rw [c11b0] | (simp only [i64_w, i32_w]; rw [c11b0]) | skip)
       by_cases c12 : (((rd_T123 l0 x3_1).f1).length : Int) > 8
       ·rw [if_pos c12] at H
        have c12b0 : decide (8 < (((rd_T123 l0 x3_1).f1).length : Int)) = true := decide_eq_true c12
        have c12b1 : decide (8 < ((rd_T123 l0 x3_1).f1).length) = true := decide_eq_true (by omega)
        clear c12
        have H' := Aside0.mk H
        clear H
        have hcz13_0 : w6.cell? ⟨gb109, 0, none⟩ = some (.string (⟨#[]⟩ : ByteArray)) := (qe0 BK109.out 0).trans rfl
        have hcz13_1 : w6.cell? ⟨gb109, 1, none⟩ = some (.slice none 0 0) := (qe0 BK109.out 1).trans rfl
        have hcz13_2 : w6.cell? ⟨gb109, 2, none⟩ = some (.int .i64 0) := (qe0 BK109.out 2).trans rfl
        have hcz13_3 : w6.cell? ⟨gb109, 3, none⟩ = some (.string (⟨#[]⟩ : ByteArray)) := (qe0 BK109.out 3).trans rfl
        have hcz13_4 : w6.cell? ⟨gb109, 4, none⟩ = some (.bool false) := (qe0 BK109.out 4).trans rfl
        have hfz13_0 := qd0 BK109.out 0
        have hfz13_1 := qd0 BK109.out 1
        have hfz13_2 := qd0 BK109.out 2
        have hfz13_3 := qd0 BK109.out 3
        have hfz13_4 := qd0 BK109.out 4
        go_wp2_with (first | ((with_reducible refine qm0 (f := 62) rfl ?_); refine qw0 (some 21) rfl rfl Try.func62 (by kernel_rfl) rfl #[.string ((rd_T123 l0 x3_1).f0)] rfl (by (try simp only [List.map_toArray, List.map_cons, List.map_nil]); first | done | rfl | (simp only [List.length_drop, List.length_take]; rfl)) ?_; (with_reducible refine (spec_NameOk.calls k1 ((rd_T123 l0 x3_1).f0) true _ A8.out).mono ?_); rintro e w' ⟨rfl, ⟨nd, rfl⟩⟩; refine ⟨_, rfl, ?_⟩) | (go_at_call 110; (with_reducible refine (spec_l11Person.calls k1 _ _ l0 ((rd_T123 l0 x3_1).f0) t111 _ ?side1 ?side2 A10.out).mono ?_); (case side1 => exact Kd.qq0 HR0.out (by repeat (first | (with_reducible first | exact HB.out | apply qb0 | apply qa0 | apply qc0 | refine qi0 ?_ GE109.out) | exact HB.out))); (case side2 => exact HC0.out); rintro e w' ⟨rfl, ⟨nd, rfl⟩⟩))
        go_meet
        case rel => exact ⟨_, (true), (by first | rfl | (simp; done) | (simp [*]; done)), H', ⟨by have := HK1.out; first | omega | exact Nat.le_refl _⟩, ⟨by (with_reducible repeat (first | refine qg0 ?_ _ | refine qj0 ?_ | refine qh0 ?_ _)); refine qp0 (cs := #[.string ((rd_T123 l0 x3_1).f0), .slice A108_1 ((rd_T123 l0 x3_1).f1).length c108_1, .int .i64 ((rd_T123 l0 x3_1).f2), .string ((rd_T123 l0 x3_1).f3), .bool false]) ?_ 4 _ rfl; (with_reducible repeat (first | refine qg0 ?_ _ | refine qj0 ?_ | refine qh0 ?_ _)); refine qp0 (cs := #[.string ((rd_T123 l0 x3_1).f0), .slice A108_1 ((rd_T123 l0 x3_1).f1).length c108_1, .int .i64 ((rd_T123 l0 x3_1).f2), .string (⟨#[]⟩ : ByteArray), .bool false]) ?_ 3 _ rfl; (with_reducible repeat (first | refine qg0 ?_ _ | refine qj0 ?_ | refine qh0 ?_ _)); refine qp0 (cs := #[.string ((rd_T123 l0 x3_1).f0), .slice A108_1 ((rd_T123 l0 x3_1).f1).length c108_1, .int .i64 0, .string (⟨#[]⟩ : ByteArray), .bool false]) ?_ 2 _ rfl; (with_reducible repeat (first | refine qg0 ?_ _ | refine qj0 ?_ | refine qh0 ?_ _)); refine qp0 (cs := #[.string ((rd_T123 l0 x3_1).f0), .slice none 0 0, .int .i64 0, .string (⟨#[]⟩ : ByteArray), .bool false]) ?_ 1 _ rfl; (with_reducible repeat (first | refine qg0 ?_ _ | refine qj0 ?_ | refine qh0 ?_ _)); refine qp0 (cs := #[.string (⟨#[]⟩ : ByteArray), .slice none 0 0, .int .i64 0, .string (⟨#[]⟩ : ByteArray), .bool false]) ?_ 0 _ rfl; (with_reducible repeat (first | refine qg0 ?_ _ | refine qj0 ?_ | refine qh0 ?_ _)); exact BK109.out⟩, ⟨by repeat (first | (with_reducible first | exact HB.out | apply qb0 | apply qa0 | apply qc0 | refine qi0 ?_ GE109.out) | exact HB.out)⟩⟩
       rw [if_neg c12] at H
       have c12b0 : decide (8 < (((rd_T123 l0 x3_1).f1).length : Int)) = false := decide_eq_false c12
       have c12b1 : decide (8 < ((rd_T123 l0 x3_1).f1).length) = false := decide_eq_false (by omega)
       clear c12
       replace H := Option.bind_eq_some_iff.mp H
       obtain ⟨t112, A140, H⟩ := H
       replace H : (spec_PeopleOk.j1 k1 l0 x3_1 (!t112) ((rd_T123 l0 x3_1).f0) ((rd_T123 l0 x3_1).f1) ((rd_T123 l0 x3_1).f2) ((rd_T123 l0 x3_1).f3) ((rd_T123 l0 x3_1).f4)) = some r := H
       have A14 := Aside0.mk A140
       clear A140
       have H' := Aside0.mk H
       clear H
       have hcz15_0 : w6.cell? ⟨gb109, 0, none⟩ = some (.string (⟨#[]⟩ : ByteArray)) := (qe0 BK109.out 0).trans rfl
       have hcz15_1 : w6.cell? ⟨gb109, 1, none⟩ = some (.slice none 0 0) := (qe0 BK109.out 1).trans rfl
       have hcz15_2 : w6.cell? ⟨gb109, 2, none⟩ = some (.int .i64 0) := (qe0 BK109.out 2).trans rfl
       have hcz15_3 : w6.cell? ⟨gb109, 3, none⟩ = some (.string (⟨#[]⟩ : ByteArray)) := (qe0 BK109.out 3).trans rfl
       have hcz15_4 : w6.cell? ⟨gb109, 4, none⟩ = some (.bool false) := (qe0 BK109.out 4).trans rfl
       have hfz15_0 := qd0 BK109.out 0
       have hfz15_1 := qd0 BK109.out 1
       have hfz15_2 := qd0 BK109.out 2
       have hfz15_3 := qd0 BK109.out 3
       have hfz15_4 := qd0 BK109.out 4
       go_wp2_with (first | ((with_reducible refine qm0 (f := 62) rfl ?_); refine qw0 (some 21) rfl rfl Try.func62 (by kernel_rfl) rfl #[.string ((rd_T123 l0 x3_1).f0)] rfl (by (try simp only [List.map_toArray, List.map_cons, List.map_nil]); first | done | rfl | (simp only [List.length_drop, List.length_take]; rfl)) ?_; (with_reducible refine (spec_NameOk.calls k1 ((rd_T123 l0 x3_1).f0) true _ A8.out).mono ?_); rintro e w' ⟨rfl, ⟨nd, rfl⟩⟩; refine ⟨_, rfl, ?_⟩) | (go_at_call 110; (with_reducible refine (spec_l11Person.calls k1 _ _ l0 ((rd_T123 l0 x3_1).f0) t111 _ ?side1 ?side2 A10.out).mono ?_); (case side1 => exact Kd.qq0 HR0.out (by repeat (first | (with_reducible first | exact HB.out | apply qb0 | apply qa0 | apply qc0 | refine qi0 ?_ GE109.out) | exact HB.out))); (case side2 => exact HC0.out); rintro e w' ⟨rfl, ⟨nd, rfl⟩⟩) | (go_at_call 58; (with_reducible refine (spec_l1In.calls ((rd_T123 l0 x3_1).f2) 0 100000000000 t112 _ A14.out).mono ?_); rintro e w' ⟨rfl, ⟨nd, rfl⟩⟩))
       go_meet
       case rel => exact ⟨_, (!t112), (by first | rfl | (simp; done) | (simp [*]; done)), H', ⟨by have := HK1.out; first | omega | exact Nat.le_refl _⟩, ⟨by (with_reducible repeat (first | refine qg0 ?_ _ | refine qj0 ?_ | refine qh0 ?_ _)); refine qp0 (cs := #[.string ((rd_T123 l0 x3_1).f0), .slice A108_1 ((rd_T123 l0 x3_1).f1).length c108_1, .int .i64 ((rd_T123 l0 x3_1).f2), .string ((rd_T123 l0 x3_1).f3), .bool false]) ?_ 4 _ rfl; (with_reducible repeat (first | refine qg0 ?_ _ | refine qj0 ?_ | refine qh0 ?_ _)); refine qp0 (cs := #[.string ((rd_T123 l0 x3_1).f0), .slice A108_1 ((rd_T123 l0 x3_1).f1).length c108_1, .int .i64 ((rd_T123 l0 x3_1).f2), .string (⟨#[]⟩ : ByteArray), .bool false]) ?_ 3 _ rfl; (with_reducible repeat (first | refine qg0 ?_ _ | refine qj0 ?_ | refine qh0 ?_ _)); refine qp0 (cs := #[.string ((rd_T123 l0 x3_1).f0), .slice A108_1 ((rd_T123 l0 x3_1).f1).length c108_1, .int .i64 0, .string (⟨#[]⟩ : ByteArray), .bool false]) ?_ 2 _ rfl; (with_reducible repeat (first | refine qg0 ?_ _ | refine qj0 ?_ | refine qh0 ?_ _)); refine qp0 (cs := #[.string ((rd_T123 l0 x3_1).f0), .slice none 0 0, .int .i64 0, .string (⟨#[]⟩ : ByteArray), .bool false]) ?_ 1 _ rfl; (with_reducible repeat (first | refine qg0 ?_ _ | refine qj0 ?_ | refine qh0 ?_ _)); refine qp0 (cs := #[.string (⟨#[]⟩ : ByteArray), .slice none 0 0, .int .i64 0, .string (⟨#[]⟩ : ByteArray), .bool false]) ?_ 0 _ rfl; (with_reducible repeat (first | refine qg0 ?_ _ | refine qj0 ?_ | refine qh0 ?_ _)); exact BK109.out⟩, ⟨by repeat (first | (with_reducible first | exact HB.out | apply qb0 | apply qa0 | apply qc0 | refine qi0 ?_ GE109.out) | exact HB.out)⟩⟩
      rw [if_neg c11] at H
      have c11b0 : (t111 == x3_1) = false := beq_eq_false_iff_ne.mpr c11
      have c11b1 : (t111 != x3_1) = true := bne_iff_ne.mpr c11
      (first | rw [c11b0] | (simp only [i64_w, i32_w]; rw [c11b0]) | skip)
      have H' := Aside0.mk H
      clear H
      have hcz16_0 : w6.cell? ⟨gb109, 0, none⟩ = some (.string (⟨#[]⟩ : ByteArray)) := (qe0 BK109.out 0).trans rfl
      have hcz16_1 : w6.cell? ⟨gb109, 1, none⟩ = some (.slice none 0 0) := (qe0 BK109.out 1).trans rfl
      have hcz16_2 : w6.cell? ⟨gb109, 2, none⟩ = some (.int .i64 0) := (qe0 BK109.out 2).trans rfl
      have hcz16_3 : w6.cell? ⟨gb109, 3, none⟩ = some (.string (⟨#[]⟩ : ByteArray)) := (qe0 BK109.out 3).trans rfl
      have hcz16_4 : w6.cell? ⟨gb109, 4, none⟩ = some (.bool false) := (qe0 BK109.out 4).trans rfl
      have hfz16_0 := qd0 BK109.out 0
      have hfz16_1 := qd0 BK109.out 1
      have hfz16_2 := qd0 BK109.out 2
      have hfz16_3 := qd0 BK109.out 3
      have hfz16_4 := qd0 BK109.out 4
      go_wp2_with (first | ((with_reducible refine qm0 (f := 62) rfl ?_); refine qw0 (some 21) rfl rfl Try.func62 (by kernel_rfl) rfl #[.string ((rd_T123 l0 x3_1).f0)] rfl (by (try simp only [List.map_toArray, List.map_cons, List.map_nil]); first | done | rfl | (simp only [List.length_drop, List.length_take]; rfl)) ?_; (with_reducible refine (spec_NameOk.calls k1 ((rd_T123 l0 x3_1).f0) true _ A8.out).mono ?_); rintro e w' ⟨rfl, ⟨nd, rfl⟩⟩; refine ⟨_, rfl, ?_⟩) | (go_at_call 110; (with_reducible refine (spec_l11Person.calls k1 _ _ l0 ((rd_T123 l0 x3_1).f0) t111 _ ?side1 ?side2 A10.out).mono ?_); (case side1 => exact Kd.qq0 HR0.out (by repeat (first | (with_reducible first | exact HB.out | apply qb0 | apply qa0 | apply qc0 | refine qi0 ?_ GE109.out) | exact HB.out))); (case side2 => exact HC0.out); rintro e w' ⟨rfl, ⟨nd, rfl⟩⟩))
      go_meet
      case rel => exact ⟨_, (true), (by first | rfl | (simp; done) | (simp [*]; done)), H', ⟨by have := HK1.out; first | omega | exact Nat.le_refl _⟩, ⟨by (with_reducible repeat (first | refine qg0 ?_ _ | refine qj0 ?_ | refine qh0 ?_ _)); refine qp0 (cs := #[.string ((rd_T123 l0 x3_1).f0), .slice A108_1 ((rd_T123 l0 x3_1).f1).length c108_1, .int .i64 ((rd_T123 l0 x3_1).f2), .string ((rd_T123 l0 x3_1).f3), .bool false]) ?_ 4 _ rfl; (with_reducible repeat (first | refine qg0 ?_ _ | refine qj0 ?_ | refine qh0 ?_ _)); refine qp0 (cs := #[.string ((rd_T123 l0 x3_1).f0), .slice A108_1 ((rd_T123 l0 x3_1).f1).length c108_1, .int .i64 ((rd_T123 l0 x3_1).f2), .string (⟨#[]⟩ : ByteArray), .bool false]) ?_ 3 _ rfl; (with_reducible repeat (first | refine qg0 ?_ _ | refine qj0 ?_ | refine qh0 ?_ _)); refine qp0 (cs := #[.string ((rd_T123 l0 x3_1).f0), .slice A108_1 ((rd_T123 l0 x3_1).f1).length c108_1, .int .i64 0, .string (⟨#[]⟩ : ByteArray), .bool false]) ?_ 2 _ rfl; (with_reducible repeat (first | refine qg0 ?_ _ | refine qj0 ?_ | refine qh0 ?_ _)); refine qp0 (cs := #[.string ((rd_T123 l0 x3_1).f0), .slice none 0 0, .int .i64 0, .string (⟨#[]⟩ : ByteArray), .bool false]) ?_ 1 _ rfl; (with_reducible repeat (first | refine qg0 ?_ _ | refine qj0 ?_ | refine qh0 ?_ _)); refine qp0 (cs := #[.string (⟨#[]⟩ : ByteArray), .slice none 0 0, .int .i64 0, .string (⟨#[]⟩ : ByteArray), .bool false]) ?_ 0 _ rfl; (with_reducible repeat (first | refine qg0 ?_ _ | refine qj0 ?_ | refine qh0 ?_ _)); exact BK109.out⟩, ⟨by repeat (first | (with_reducible first | exact HB.out | apply qb0 | apply qa0 | apply qc0 | refine qi0 ?_ GE109.out) | exact HB.out)⟩⟩
     replace c9 := Bool.eq_false_iff.mpr c9
     subst c9
     have H1 : (spec_PeopleOk.j1 k1 l0 x3_1 true ((rd_T123 l0 x3_1).f0) ((rd_T123 l0 x3_1).f1) ((rd_T123 l0 x3_1).f2) ((rd_T123 l0 x3_1).f3) ((rd_T123 l0 x3_1).f4)) = some r := by rw [if_neg (show ¬ (false = true) by decide)] at H; exact H
     clear H
     have H := H1
     clear H1
     have H' := Aside0.mk H
     clear H
     have hcz17_0 : w6.cell? ⟨gb109, 0, none⟩ = some (.string (⟨#[]⟩ : ByteArray)) := (qe0 BK109.out 0).trans rfl
     have hcz17_1 : w6.cell? ⟨gb109, 1, none⟩ = some (.slice none 0 0) := (qe0 BK109.out 1).trans rfl
     have hcz17_2 : w6.cell? ⟨gb109, 2, none⟩ = some (.int .i64 0) := (qe0 BK109.out 2).trans rfl
     have hcz17_3 : w6.cell? ⟨gb109, 3, none⟩ = some (.string (⟨#[]⟩ : ByteArray)) := (qe0 BK109.out 3).trans rfl
     have hcz17_4 : w6.cell? ⟨gb109, 4, none⟩ = some (.bool false) := (qe0 BK109.out 4).trans rfl
     have hfz17_0 := qd0 BK109.out 0
     have hfz17_1 := qd0 BK109.out 1
     have hfz17_2 := qd0 BK109.out 2
     have hfz17_3 := qd0 BK109.out 3
     have hfz17_4 := qd0 BK109.out 4
     go_wp2_with (first | ((with_reducible refine qm0 (f := 62) rfl ?_); refine qw0 (some 21) rfl rfl Try.func62 (by kernel_rfl) rfl #[.string ((rd_T123 l0 x3_1).f0)] rfl (by (try simp only [List.map_toArray, List.map_cons, List.map_nil]); first | done | rfl | (simp only [List.length_drop, List.length_take]; rfl)) ?_; (with_reducible refine (spec_NameOk.calls k1 ((rd_T123 l0 x3_1).f0) false _ A8.out).mono ?_); rintro e w' ⟨rfl, ⟨nd, rfl⟩⟩; refine ⟨_, rfl, ?_⟩))
     go_meet
     case rel => exact ⟨_, (true), (by first | rfl | (simp; done) | (simp [*]; done)), H', ⟨by have := HK1.out; first | omega | exact Nat.le_refl _⟩, ⟨by (with_reducible repeat (first | refine qg0 ?_ _ | refine qj0 ?_ | refine qh0 ?_ _)); refine qp0 (cs := #[.string ((rd_T123 l0 x3_1).f0), .slice A108_1 ((rd_T123 l0 x3_1).f1).length c108_1, .int .i64 ((rd_T123 l0 x3_1).f2), .string ((rd_T123 l0 x3_1).f3), .bool false]) ?_ 4 _ rfl; (with_reducible repeat (first | refine qg0 ?_ _ | refine qj0 ?_ | refine qh0 ?_ _)); refine qp0 (cs := #[.string ((rd_T123 l0 x3_1).f0), .slice A108_1 ((rd_T123 l0 x3_1).f1).length c108_1, .int .i64 ((rd_T123 l0 x3_1).f2), .string (⟨#[]⟩ : ByteArray), .bool false]) ?_ 3 _ rfl; (with_reducible repeat (first | refine qg0 ?_ _ | refine qj0 ?_ | refine qh0 ?_ _)); refine qp0 (cs := #[.string ((rd_T123 l0 x3_1).f0), .slice A108_1 ((rd_T123 l0 x3_1).f1).length c108_1, .int .i64 0, .string (⟨#[]⟩ : ByteArray), .bool false]) ?_ 2 _ rfl; (with_reducible repeat (first | refine qg0 ?_ _ | refine qj0 ?_ | refine qh0 ?_ _)); refine qp0 (cs := #[.string ((rd_T123 l0 x3_1).f0), .slice none 0 0, .int .i64 0, .string (⟨#[]⟩ : ByteArray), .bool false]) ?_ 1 _ rfl; (with_reducible repeat (first | refine qg0 ?_ _ | refine qj0 ?_ | refine qh0 ?_ _)); refine qp0 (cs := #[.string (⟨#[]⟩ : ByteArray), .slice none 0 0, .int .i64 0, .string (⟨#[]⟩ : ByteArray), .bool false]) ?_ 0 _ rfl; (with_reducible repeat (first | refine qg0 ?_ _ | refine qj0 ?_ | refine qh0 ?_ _)); exact BK109.out⟩, ⟨by repeat (first | (with_reducible first | exact HB.out | apply qb0 | apply qa0 | apply qc0 | refine qi0 ?_ GE109.out) | exact HB.out)⟩⟩
    case rest =>
     clear HC5
     try clear c1
     try clear p1
     try clear q1
     try clear hx1
     try clear c2
     try clear c2b0
     try clear c2b1
     try clear p2
     try clear c3
     try clear c3b0
     try clear c4
     try clear c4b0
     try clear c6
     try clear c8
     try clear c9
     try clear c10
     try clear p10
     try clear q10
     try clear hx10
     try clear c11
     try clear c11b0
     try clear c11b1
     try clear c12
     try clear c12b0
     try clear c12b1
     try clear hcz13_0
     try clear hcz13_1
     try clear hcz13_2
     try clear hcz13_3
     try clear hcz13_4
     try clear hcz15_0
     try clear hcz15_1
     try clear hcz15_2
     try clear hcz15_3
     try clear hcz15_4
     try clear hcz16_0
     try clear hcz16_1
     try clear hcz16_2
     try clear hcz16_3
     try clear hcz16_4
     try clear hcz17_0
     try clear hcz17_1
     try clear hcz17_2
     try clear hcz17_3
     try clear hcz17_4
     try clear hcz7_0
     try clear hcz7_1
     try clear hcz7_2
     try clear hcz7_3
     try clear hcz7_4
     try clear hfz13_0
     try clear hfz13_1
     try clear hfz13_2
     try clear hfz13_3
     try clear hfz13_4
     try clear hfz15_0
     try clear hfz15_1
     try clear hfz15_2
     try clear hfz15_3
     try clear hfz15_4
     try clear hfz16_0
     try clear hfz16_1
     try clear hfz16_2
     try clear hfz16_3
     try clear hfz16_4
     try clear hfz17_0
     try clear hfz17_1
     try clear hfz17_2
     try clear hfz17_3
     try clear hfz17_4
     try clear hfz7_0
     try clear hfz7_1
     try clear hfz7_2
     try clear hfz7_3
     try clear hfz7_4
     try clear hx108_0
     try clear hx108_1
     try clear hx108_2
     try clear hx108_3
     try clear hx108_4
     try clear p108
     try clear p2
     try clear q108
     obtain ⟨kq, x42_4, rfl, HA, HJ4, BK109, HB⟩ := hcut
     cases kq with
     | zero => exact absurd HA.out (by simp [spec_PeopleOk.j1])
     | succ kj4 =>
      have H := HA.out
      clear HA
      simp only [spec_PeopleOk.j1] at H
      by_cases c18 : x42_4 = true
      ·subst c18
       have H1 : (some false) = some r := by rw [if_pos rfl] at H; exact H
       clear H
       have H := H1
       clear H1
       obtain rfl := Option.some.inj H
       go_wp2
       go_ret
       exact ⟨by first | rfl | (simp [errW_none, errW_some] <;> rfl) | (simp [*, errW_none, errW_some] <;> rfl), by repeat (first | (with_reducible first | exact HB.out | apply qb0 | apply qa0 | apply qc0 | refine qi0 ?_ GE109.out) | exact HB.out)⟩
      replace c18 := Bool.eq_false_iff.mpr c18
      subst c18
      have H1 : (spec_PeopleOk.l1 kj4 l0 x3_1 0 ((rd_T123 l0 x3_1).f0) ((rd_T123 l0 x3_1).f1) ((rd_T123 l0 x3_1).f2) ((rd_T123 l0 x3_1).f3) ((rd_T123 l0 x3_1).f4)) = some r := by rw [if_neg (show ¬ (false = true) by decide)] at H; exact H
      clear H
      have H := H1
      clear H1
      have H' := Aside0.mk H
      clear H
      go_wp2
      go_loopg [5] kj4 (fun kq v5 w' => ∃ (x5_3 : Int), v5 = .int .i64 x5_3 ∧ Aside0 (spec_PeopleOk.l1 kq l0 x3_1 x5_3 ((rd_T123 l0 x3_1).f0) ((rd_T123 l0 x3_1).f1) ((rd_T123 l0 x3_1).f2) ((rd_T123 l0 x3_1).f3) ((rd_T123 l0 x3_1).f4) = some r) ∧ Aside0 (kq ≤ kj4) ∧ Aside0 (w'.heap[gb109]? = some (.cells #[.string ((rd_T123 l0 x3_1).f0), (.slice A108_1 ((rd_T123 l0 x3_1).f1).length c108_1), .int .i64 ((rd_T123 l0 x3_1).f2), .string ((rd_T123 l0 x3_1).f3), .bool ((rd_T123 l0 x3_1).f4)] 123 (0, 0))) ∧ Aside0 (Below w.heap.size w w'))
      case atStart => exact ⟨(0), (by first | rfl | (simp; done) | (simp [*]; done)), H', ⟨Nat.le_refl _⟩, ⟨by (with_reducible repeat (first | refine qg0 ?_ _ | refine qj0 ?_ | refine qh0 ?_ _)); exact BK109.out⟩, ⟨by repeat (first | (with_reducible first | exact HB.out | apply qb0 | apply qa0 | apply qc0 | refine qi0 ?_ GE109.out) | exact HB.out)⟩⟩
      case round =>
       clear H'
       try clear c1
       try clear p1
       try clear q1
       try clear hx1
       try clear c2
       try clear c2b0
       try clear c2b1
       try clear p2
       try clear c3
       try clear c3b0
       try clear c4
       try clear c4b0
       try clear c6
       try clear c8
       try clear c9
       try clear c10
       try clear p10
       try clear q10
       try clear hx10
       try clear c11
       try clear c11b0
       try clear c11b1
       try clear c12
       try clear c12b0
       try clear c12b1
       try clear c18
       try clear hcz13_0
       try clear hcz13_1
       try clear hcz13_2
       try clear hcz13_3
       try clear hcz13_4
       try clear hcz15_0
       try clear hcz15_1
       try clear hcz15_2
       try clear hcz15_3
       try clear hcz15_4
       try clear hcz16_0
       try clear hcz16_1
       try clear hcz16_2
       try clear hcz16_3
       try clear hcz16_4
       try clear hcz17_0
       try clear hcz17_1
       try clear hcz17_2
       try clear hcz17_3
       try clear hcz17_4
       try clear hcz7_0
       try clear hcz7_1
       try clear hcz7_2
       try clear hcz7_3
       try clear hcz7_4
       try clear hfz13_0
       try clear hfz13_1
       try clear hfz13_2
       try clear hfz13_3
       try clear hfz13_4
       try clear hfz15_0
       try clear hfz15_1
       try clear hfz15_2
       try clear hfz15_3
       try clear hfz15_4
       try clear hfz16_0
       try clear hfz16_1
       try clear hfz16_2
       try clear hfz16_3
       try clear hfz16_4
       try clear hfz17_0
       try clear hfz17_1
       try clear hfz17_2
       try clear hfz17_3
       try clear hfz17_4
       try clear hfz7_0
       try clear hfz7_1
       try clear hfz7_2
       try clear hfz7_3
       try clear hfz7_4
       try clear hx108_0
       try clear hx108_1
       try clear hx108_2
       try clear hx108_3
       try clear hx108_4
       try clear p1
       try clear p10
       try clear p108
       try clear p2
       try clear q1
       try clear q10
       try clear q108
       obtain ⟨x5_3, rfl, HA, HK3, BK109, HB⟩ := hrel
       cases gk with
       | zero => exact absurd HA.out (by simp [spec_PeopleOk.l1])
       | succ k3 =>
        have H := HA.out
        clear HA
        simp only [spec_PeopleOk.l1] at H
        by_cases c19 : x5_3 < (((rd_T123 l0 x3_1).f1).length : Int)
        ·rw [if_pos c19] at H
         have c19b0 : decide (x5_3 < (((rd_T123 l0 x3_1).f1).length : Int)) = true := decide_eq_true c19
         clear c19
         by_cases c20 : 0 ≤ x5_3
         case neg => rw [if_neg c20] at H; exact absurd H (by simp)
         rw [if_pos c20] at H
         have c20b0 : decide (0 ≤ x5_3) = true := decide_eq_true c20
         clear c20
         replace H := Option.bind_eq_some_iff.mp H
         obtain ⟨t114, A210, H⟩ := H
         replace H : (if t114 = true then (spec_PeopleOk.l1 k3 l0 x3_1 (wrap64 (x5_3 + 1)) ((rd_T123 l0 x3_1).f0) ((rd_T123 l0 x3_1).f1) ((rd_T123 l0 x3_1).f2) ((rd_T123 l0 x3_1).f3) ((rd_T123 l0 x3_1).f4)) else (some false)) = some r := H
         have A21 := Aside0.mk A210
         clear A210
         by_cases c22 : t114 = true
         ·subst c22
          have H1 : (spec_PeopleOk.l1 k3 l0 x3_1 (wrap64 (x5_3 + 1)) ((rd_T123 l0 x3_1).f0) ((rd_T123 l0 x3_1).f1) ((rd_T123 l0 x3_1).f2) ((rd_T123 l0 x3_1).f3) ((rd_T123 l0 x3_1).f4)) = some r := by rw [if_pos rfl] at H; exact H
          clear H
          have H := H1
          clear H1
          have H' := Aside0.mk H
          clear H
          have hcz23_0 : wr.cell? ⟨gb109, 0, none⟩ = some (.string ((rd_T123 l0 x3_1).f0)) := (qe0 BK109.out 0).trans rfl
          have hcz23_1 : wr.cell? ⟨gb109, 1, none⟩ = some (.slice A108_1 ((rd_T123 l0 x3_1).f1).length c108_1) := (qe0 BK109.out 1).trans rfl
          have hcz23_2 : wr.cell? ⟨gb109, 2, none⟩ = some (.int .i64 ((rd_T123 l0 x3_1).f2)) := (qe0 BK109.out 2).trans rfl
          have hcz23_3 : wr.cell? ⟨gb109, 3, none⟩ = some (.string ((rd_T123 l0 x3_1).f3)) := (qe0 BK109.out 3).trans rfl
          have hcz23_4 : wr.cell? ⟨gb109, 4, none⟩ = some (.bool ((rd_T123 l0 x3_1).f4)) := (qe0 BK109.out 4).trans rfl
          have hfz23_0 := qd0 BK109.out 0
          have hfz23_1 := qd0 BK109.out 1
          have hfz23_2 := qd0 BK109.out 2
          have hfz23_3 := qd0 BK109.out 3
          have hfz23_4 := qd0 BK109.out 4
          have p113 : 0 ≤ (x5_3 : Int) := of_decide_eq_true (by first | (with_reducible assumption) | assumption)
          have q113 : x5_3 < (((rd_T123 l0 x3_1).f1).length : Int) := of_decide_eq_true (by first | (with_reducible assumption) | assumption)
          obtain ⟨ad113, e113, hx113_0⟩ := Kd.at_string HR108_1.out x5_3 p113 q113
          cases e113
          replace hx113_0 := (HB.out.cell (World.block_lt_of_cell? w _ hx113_0)).trans hx113_0
          replace p113 := eq_true p113
          replace q113 := eq_true q113
          go_wp2_with (first | ((with_reducible refine qm0 (f := 62) rfl ?_); refine qw0 (some 55) rfl rfl Try.func62 (by kernel_rfl) rfl #[.string (rdOf ByteArray.empty ((rd_T123 l0 x3_1).f1) x5_3)] rfl (by (try simp only [List.map_toArray, List.map_cons, List.map_nil]); first | done | rfl | (simp only [List.length_drop, List.length_take]; rfl)) ?_; (with_reducible refine (spec_NameOk.calls k3 (rdOf ByteArray.empty ((rd_T123 l0 x3_1).f1) x5_3) true _ A21.out).mono ?_); rintro e w' ⟨rfl, ⟨nd, rfl⟩⟩; refine ⟨_, rfl, ?_⟩))
          go_roundg k3
          case measure => have := HK1.out; have := HJ4.out; have := HK3.out; omega
          case rel => exact ⟨(wrap64 (x5_3 + 1)), (by first | rfl | (simp; done) | (simp [*]; done)), H', ⟨by have := HK1.out; have := HJ4.out; have := HK3.out; omega⟩, ⟨by (with_reducible repeat (first | refine qg0 ?_ _ | refine qj0 ?_ | refine qh0 ?_ _)); exact BK109.out⟩, ⟨by repeat (first | (with_reducible first | exact HB.out | apply qb0 | apply qa0 | apply qc0 | refine qi0 ?_ GE109.out) | exact HB.out)⟩⟩
         replace c22 := Bool.eq_false_iff.mpr c22
         subst c22
         have H1 : (some false) = some r := by rw [if_neg (show ¬ (false = true) by decide)] at H; exact H
         clear H
         have H := H1
         clear H1
         obtain rfl := Option.some.inj H
         have hcz24_0 : wr.cell? ⟨gb109, 0, none⟩ = some (.string ((rd_T123 l0 x3_1).f0)) := (qe0 BK109.out 0).trans rfl
         have hcz24_1 : wr.cell? ⟨gb109, 1, none⟩ = some (.slice A108_1 ((rd_T123 l0 x3_1).f1).length c108_1) := (qe0 BK109.out 1).trans rfl
         have hcz24_2 : wr.cell? ⟨gb109, 2, none⟩ = some (.int .i64 ((rd_T123 l0 x3_1).f2)) := (qe0 BK109.out 2).trans rfl
         have hcz24_3 : wr.cell? ⟨gb109, 3, none⟩ = some (.string ((rd_T123 l0 x3_1).f3)) := (qe0 BK109.out 3).trans rfl
         have hcz24_4 : wr.cell? ⟨gb109, 4, none⟩ = some (.bool ((rd_T123 l0 x3_1).f4)) := (qe0 BK109.out 4).trans rfl
         have hfz24_0 := qd0 BK109.out 0
         have hfz24_1 := qd0 BK109.out 1
         have hfz24_2 := qd0 BK109.out 2
         have hfz24_3 := qd0 BK109.out 3
         have hfz24_4 := qd0 BK109.out 4
         have p113 : 0 ≤ (x5_3 : Int) := of_decide_eq_true (by first | (with_reducible assumption) | assumption)
         have q113 : x5_3 < (((rd_T123 l0 x3_1).f1).length : Int) := of_decide_eq_true (by first | (with_reducible assumption) | assumption)
         obtain ⟨ad113, e113, hx113_0⟩ := Kd.at_string HR108_1.out x5_3 p113 q113
         cases e113
         replace hx113_0 := (HB.out.cell (World.block_lt_of_cell? w _ hx113_0)).trans hx113_0
         replace p113 := eq_true p113
         replace q113 := eq_true q113
         go_wp2_with (first | ((with_reducible refine qm0 (f := 62) rfl ?_); refine qw0 (some 55) rfl rfl Try.func62 (by kernel_rfl) rfl #[.string (rdOf ByteArray.empty ((rd_T123 l0 x3_1).f1) x5_3)] rfl (by (try simp only [List.map_toArray, List.map_cons, List.map_nil]); first | done | rfl | (simp only [List.length_drop, List.length_take]; rfl)) ?_; (with_reducible refine (spec_NameOk.calls k3 (rdOf ByteArray.empty ((rd_T123 l0 x3_1).f1) x5_3) false _ A21.out).mono ?_); rintro e w' ⟨rfl, ⟨nd, rfl⟩⟩; refine ⟨_, rfl, ?_⟩))
         go_ret
         exact ⟨by first | rfl | (simp [errW_none, errW_some] <;> rfl) | (simp [*, errW_none, errW_some] <;> rfl), by repeat (first | (with_reducible first | exact HB.out | apply qb0 | apply qa0 | apply qc0 | refine qi0 ?_ GE109.out) | exact HB.out)⟩
        rw [if_neg c19] at H
        have c19b0 : decide (x5_3 < (((rd_T123 l0 x3_1).f1).length : Int)) = false := decide_eq_false c19
        clear c19
        by_cases c25 : ((rd_T123 l0 x3_1).f3).toList = ([] : List UInt8)
        ·rw [if_pos c25] at H
         have c25b0 : (((rd_T123 l0 x3_1).f3).toList == ([] : List UInt8)) = true := beq_iff_eq.mpr c25
         have c25b1 : (((rd_T123 l0 x3_1).f3).toList != ([] : List UInt8)) = false := bne_eq_false_iff_eq.mpr c25
         clear c25
         have H' := Aside0.mk H
         clear H
         have hcz26_0 : wr.cell? ⟨gb109, 0, none⟩ = some (.string ((rd_T123 l0 x3_1).f0)) := (qe0 BK109.out 0).trans rfl
         have hcz26_1 : wr.cell? ⟨gb109, 1, none⟩ = some (.slice A108_1 ((rd_T123 l0 x3_1).f1).length c108_1) := (qe0 BK109.out 1).trans rfl
         have hcz26_2 : wr.cell? ⟨gb109, 2, none⟩ = some (.int .i64 ((rd_T123 l0 x3_1).f2)) := (qe0 BK109.out 2).trans rfl
         have hcz26_3 : wr.cell? ⟨gb109, 3, none⟩ = some (.string ((rd_T123 l0 x3_1).f3)) := (qe0 BK109.out 3).trans rfl
         have hcz26_4 : wr.cell? ⟨gb109, 4, none⟩ = some (.bool ((rd_T123 l0 x3_1).f4)) := (qe0 BK109.out 4).trans rfl
         have hfz26_0 := qd0 BK109.out 0
         have hfz26_1 := qd0 BK109.out 1
         have hfz26_2 := qd0 BK109.out 2
         have hfz26_3 := qd0 BK109.out 3
         have hfz26_4 := qd0 BK109.out 4
         go_wp2
         go_roundg k3
         case measure => have := HK1.out; have := HJ4.out; have := HK3.out; omega
         case rel => exact ⟨(wrap64 (x3_1 + 1)), (by first | rfl | (simp; done) | (simp [*]; done)), H', ⟨by have := HK1.out; have := HJ4.out; have := HK3.out; omega⟩, ⟨by repeat (first | (with_reducible first | exact HB.out | apply qb0 | apply qa0 | apply qc0 | refine qi0 ?_ GE109.out) | exact HB.out)⟩⟩
        rw [if_neg c25] at H
        have c25b0 : (((rd_T123 l0 x3_1).f3).toList == ([] : List UInt8)) = false := beq_eq_false_iff_ne.mpr c25
        have c25b1 : (((rd_T123 l0 x3_1).f3).toList != ([] : List UInt8)) = true := bne_iff_ne.mpr c25
        by_cases c27 : ((rd_T123 l0 x3_1).f3).toList = ((rd_T123 l0 x3_1).f0).toList
        ·rw [if_pos c27] at H
         have c27b0 : (((rd_T123 l0 x3_1).f3).toList == ((rd_T123 l0 x3_1).f0).toList) = true := beq_iff_eq.mpr c27
         have c27b1 : (((rd_T123 l0 x3_1).f3).toList != ((rd_T123 l0 x3_1).f0).toList) = false := bne_eq_false_iff_eq.mpr c27
         clear c27
         obtain rfl := Option.some.inj H
         have hcz28_0 : wr.cell? ⟨gb109, 0, none⟩ = some (.string ((rd_T123 l0 x3_1).f0)) := (qe0 BK109.out 0).trans rfl
         have hcz28_1 : wr.cell? ⟨gb109, 1, none⟩ = some (.slice A108_1 ((rd_T123 l0 x3_1).f1).length c108_1) := (qe0 BK109.out 1).trans rfl
         have hcz28_2 : wr.cell? ⟨gb109, 2, none⟩ = some (.int .i64 ((rd_T123 l0 x3_1).f2)) := (qe0 BK109.out 2).trans rfl
         have hcz28_3 : wr.cell? ⟨gb109, 3, none⟩ = some (.string ((rd_T123 l0 x3_1).f3)) := (qe0 BK109.out 3).trans rfl
         have hcz28_4 : wr.cell? ⟨gb109, 4, none⟩ = some (.bool ((rd_T123 l0 x3_1).f4)) := (qe0 BK109.out 4).trans rfl
         have hfz28_0 := qd0 BK109.out 0
         have hfz28_1 := qd0 BK109.out 1
         have hfz28_2 := qd0 BK109.out 2
         have hfz28_3 := qd0 BK109.out 3
         have hfz28_4 := qd0 BK109.out 4
         go_wp2
         go_ret
         exact ⟨by first | rfl | (simp [errW_none, errW_some] <;> rfl) | (simp [*, errW_none, errW_some] <;> rfl), by repeat (first | (with_reducible first | exact HB.out | apply qb0 | apply qa0 | apply qc0 | refine qi0 ?_ GE109.out) | exact HB.out)⟩
        rw [if_neg c27] at H
        have c27b0 : (((rd_T123 l0 x3_1).f3).toList == ((rd_T123 l0 x3_1).f0).toList) = false := beq_eq_false_iff_ne.mpr c27
        have c27b1 : (((rd_T123 l0 x3_1).f3).toList != ((rd_T123 l0 x3_1).f0).toList) = true := bne_iff_ne.mpr c27
        replace H := Option.bind_eq_some_iff.mp H
        obtain ⟨t115, A290, H⟩ := H
        replace H : (if t115 < 0 then (some false) else (spec_PeopleOk.l0 k3 l0 (wrap64 (x3_1 + 1)))) = some r := H
        have A29 := Aside0.mk A290
        clear A290
        by_cases c30 : t115 < 0
        ·rw [if_pos c30] at H
         have c30b0 : decide (t115 < 0) = true := decide_eq_true c30
         clear c30
         obtain rfl := Option.some.inj H
         have hcz31_0 : wr.cell? ⟨gb109, 0, none⟩ = some (.string ((rd_T123 l0 x3_1).f0)) := (qe0 BK109.out 0).trans rfl
         have hcz31_1 : wr.cell? ⟨gb109, 1, none⟩ = some (.slice A108_1 ((rd_T123 l0 x3_1).f1).length c108_1) := (qe0 BK109.out 1).trans rfl
         have hcz31_2 : wr.cell? ⟨gb109, 2, none⟩ = some (.int .i64 ((rd_T123 l0 x3_1).f2)) := (qe0 BK109.out 2).trans rfl
         have hcz31_3 : wr.cell? ⟨gb109, 3, none⟩ = some (.string ((rd_T123 l0 x3_1).f3)) := (qe0 BK109.out 3).trans rfl
         have hcz31_4 : wr.cell? ⟨gb109, 4, none⟩ = some (.bool ((rd_T123 l0 x3_1).f4)) := (qe0 BK109.out 4).trans rfl
         have hfz31_0 := qd0 BK109.out 0
         have hfz31_1 := qd0 BK109.out 1
         have hfz31_2 := qd0 BK109.out 2
         have hfz31_3 := qd0 BK109.out 3
         have hfz31_4 := qd0 BK109.out 4
         go_wp2_with (first | (go_at_call 110; (with_reducible refine (spec_l11Person.calls k3 _ _ l0 ((rd_T123 l0 x3_1).f3) t115 _ ?side1 ?side2 A29.out).mono ?_); (case side1 => repeat (first | exact (Kd.qq0 HR0.out HB.out) | (with_reducible refine Kd.qo0 ?_ _) | (with_reducible refine Kd.qn0 ?_ _) | (with_reducible refine Kd.qt0 ?_))); (case side2 => exact HC0.out); rintro e w' ⟨rfl, ⟨nd, rfl⟩⟩))
         go_ret
         exact ⟨by first | rfl | (simp [errW_none, errW_some] <;> rfl) | (simp [*, errW_none, errW_some] <;> rfl), by repeat (first | (with_reducible first | exact HB.out | apply qb0 | apply qa0 | apply qc0 | refine qi0 ?_ GE109.out) | exact HB.out)⟩
        rw [if_neg c30] at H
        have c30b0 : decide (t115 < 0) = false := decide_eq_false c30
        clear c30
        have H' := Aside0.mk H
        clear H
        have hcz32_0 : wr.cell? ⟨gb109, 0, none⟩ = some (.string ((rd_T123 l0 x3_1).f0)) := (qe0 BK109.out 0).trans rfl
        have hcz32_1 : wr.cell? ⟨gb109, 1, none⟩ = some (.slice A108_1 ((rd_T123 l0 x3_1).f1).length c108_1) := (qe0 BK109.out 1).trans rfl
        have hcz32_2 : wr.cell? ⟨gb109, 2, none⟩ = some (.int .i64 ((rd_T123 l0 x3_1).f2)) := (qe0 BK109.out 2).trans rfl
        have hcz32_3 : wr.cell? ⟨gb109, 3, none⟩ = some (.string ((rd_T123 l0 x3_1).f3)) := (qe0 BK109.out 3).trans rfl
        have hcz32_4 : wr.cell? ⟨gb109, 4, none⟩ = some (.bool ((rd_T123 l0 x3_1).f4)) := (qe0 BK109.out 4).trans rfl
        have hfz32_0 := qd0 BK109.out 0
        have hfz32_1 := qd0 BK109.out 1
        have hfz32_2 := qd0 BK109.out 2
        have hfz32_3 := qd0 BK109.out 3
        have hfz32_4 := qd0 BK109.out 4
        go_wp2_with (first | (go_at_call 110; (with_reducible refine (spec_l11Person.calls k3 _ _ l0 ((rd_T123 l0 x3_1).f3) t115 _ ?side1 ?side2 A29.out).mono ?_); (case side1 => repeat (first | exact (Kd.qq0 HR0.out HB.out) | (with_reducible refine Kd.qo0 ?_ _) | (with_reducible refine Kd.qn0 ?_ _) | (with_reducible refine Kd.qt0 ?_))); (case side2 => exact HC0.out); rintro e w' ⟨rfl, ⟨nd, rfl⟩⟩))
        go_roundg k3
        case measure => have := HK1.out; have := HJ4.out; have := HK3.out; omega
        case rel => exact ⟨(wrap64 (x3_1 + 1)), (by first | rfl | (simp; done) | (simp [*]; done)), H', ⟨by have := HK1.out; have := HJ4.out; have := HK3.out; omega⟩, ⟨by repeat (first | (with_reducible first | exact HB.out | apply qb0 | apply qa0 | apply qc0 | refine qi0 ?_ GE109.out) | exact HB.out)⟩⟩
   rw [if_neg c3] at H
   have c3b0 : decide (x3_1 < (l0.length : Int)) = false := decide_eq_false c3
   clear c3
   obtain rfl := Option.some.inj H
   go_wp2
   go_ret
   exact ⟨by first | rfl | (simp [errW_none, errW_some] <;> rfl) | (simp [*, errW_none, errW_some] <;> rfl), by repeat (first | (with_reducible first | exact HB.out | apply qb0 | apply qa0 | apply qc0) | exact HB.out)⟩

/-! ### spec_l10Has: function 82 -/
def spec_l10Has.l0 : Nat → List ByteArray → ByteArray → Int → Option (Bool)
 | 0, _, _, _ => none
 | k + 1, x0, x1, x5 => if x5 < (x0.length : Int) then (if 0 ≤ x5 then (if (rdOf ByteArray.empty x0 x5).toList = x1.toList then (some true) else (spec_l10Has.l0 k x0 x1 (wrap64 (x5 + 1)))) else (none)) else (some false)
def spec_l10Has.f (k : Nat) (l0 : List ByteArray) (a1 : ByteArray) : Option (Bool) := spec_l10Has.l0 k l0 a1 0
theorem spec_l10Has.mono_l : ∀ k, (∀ y0 y1 y2, LeO (spec_l10Has.l0 k y0 y1 y2) (spec_l10Has.l0 (k + 1) y0 y1 y2))
 | 0 => fun _ _ _ r h => by simp [spec_l10Has.l0] at h
 | k + 1 => by
  have ih0 := spec_l10Has.mono_l k
  ·intro y0 y1 y2
   unfold spec_l10Has.l0
   repeat' first
   | (with_reducible exact ih0 _ _ _)
   | (with_reducible exact LeO.refl _)
   | (with_reducible exact LeO.none _)
   | (with_reducible refine LeO.ite ?_ ?_)
   | (with_reducible refine LeO.bind ?_ (fun _ => ?_))
   | exact ih0 _ _ _
   | exact LeO.none _
   | refine LeO.ite ?_ ?_
   | refine LeO.bind ?_ (fun _ => ?_)
theorem spec_l10Has.mono : ∀ a0 a1 k, LeO (spec_l10Has.f k a0 a1) (spec_l10Has.f (k + 1) a0 a1) := by
 intro a0 a1 k
 have ih0 := spec_l10Has.mono_l k
 unfold spec_l10Has.f
 repeat' first
   | (with_reducible exact ih0 _ _ _)
   | (with_reducible exact LeO.refl _)
   | (with_reducible exact LeO.none _)
   | (with_reducible refine LeO.ite ?_ ?_)
   | (with_reducible refine LeO.bind ?_ (fun _ => ?_))
   | exact ih0 _ _ _
   | exact LeO.none _
   | refine LeO.ite ?_ ?_
   | refine LeO.bind ?_ (fun _ => ?_)
set_option maxHeartbeats 8000000 in
set_option maxRecDepth 100000 in
theorem spec_l10Has.calls (k : Nat) (A0 : Option Addr) (c0 : Nat) (l0 : List ByteArray) (a1 : ByteArray) (r : Bool) (w : World) (hr0 : Kd.C Kd.string w A0 l0.length l0) (hc0 : l0.length ≤ c0) (h : spec_l10Has.f k l0 a1 = some r) :
  Calls Try.prog 82 #[.slice A0 l0.length c0, .string a1] w fun e w' => e = .returned (.bool r) ∧ Drawn0 w w' := by
 have HR0 := Aside0.mk hr0
 have HC0 := Aside0.mk hc0
 clear hr0 hc0
 have H : (spec_l10Has.l0 k l0 a1 0) = some r := h
 clear h
 have H' := Aside0.mk H
 clear H
 go_enter Try.func82, Try.ntmps82
 go_wp2
 go_loopg [5] k (fun kq v5 w' => ∃ (x5_1 : Int), v5 = .int .i64 x5_1 ∧ Aside0 (spec_l10Has.l0 kq l0 a1 x5_1 = some r) ∧ Aside0 (kq ≤ k) ∧ Drawn0 w w')
 case atStart => exact ⟨(0), (by first | rfl | (simp; done) | (simp [*]; done)), H', ⟨Nat.le_refl _⟩, by repeat (first | exact Drawn0.refl _ | apply Drawn0.step)⟩
 case round =>
  clear H'
  try clear p2
  obtain ⟨x5_1, rfl, HA, HK1, ⟨m1, rfl⟩⟩ := hrel
  cases gk with
  | zero => exact absurd HA.out (by simp [spec_l10Has.l0])
  | succ k1 =>
   have H := HA.out
   clear HA
   simp only [spec_l10Has.l0] at H
   by_cases c3 : x5_1 < (l0.length : Int)
   ·rw [if_pos c3] at H
    have c3b0 : decide (x5_1 < (l0.length : Int)) = true := decide_eq_true c3
    clear c3
    by_cases c4 : 0 ≤ x5_1
    case neg => rw [if_neg c4] at H; exact absurd H (by simp)
    rw [if_pos c4] at H
    have c4b0 : decide (0 ≤ x5_1) = true := decide_eq_true c4
    clear c4
    by_cases c5 : (rdOf ByteArray.empty l0 x5_1).toList = a1.toList
    ·rw [if_pos c5] at H
     have c5b0 : ((rdOf ByteArray.empty l0 x5_1).toList == a1.toList) = true := beq_iff_eq.mpr c5
     have c5b1 : ((rdOf ByteArray.empty l0 x5_1).toList != a1.toList) = false := bne_eq_false_iff_eq.mpr c5
     clear c5
     obtain rfl := Option.some.inj H
     have p116 : 0 ≤ (x5_1 : Int) := of_decide_eq_true (by first | (with_reducible assumption) | assumption)
     have q116 : x5_1 < (l0.length : Int) := of_decide_eq_true (by first | (with_reducible assumption) | assumption)
     obtain ⟨ad116, e116, hx116_0⟩ := Kd.at_string HR0.out x5_1 p116 q116
     cases e116
     replace p116 := eq_true p116
     replace q116 := eq_true q116
     go_wp2
     go_ret
     exact ⟨by first | rfl | (simp; done) | (simp [*]; done), by repeat (first | exact Drawn0.refl _ | apply Drawn0.step)⟩
    rw [if_neg c5] at H
    have c5b0 : ((rdOf ByteArray.empty l0 x5_1).toList == a1.toList) = false := beq_eq_false_iff_ne.mpr c5
    have c5b1 : ((rdOf ByteArray.empty l0 x5_1).toList != a1.toList) = true := bne_iff_ne.mpr c5
    have H' := Aside0.mk H
    clear H
    have p116 : 0 ≤ (x5_1 : Int) := of_decide_eq_true (by first | (with_reducible assumption) | assumption)
    have q116 : x5_1 < (l0.length : Int) := of_decide_eq_true (by first | (with_reducible assumption) | assumption)
    obtain ⟨ad116, e116, hx116_0⟩ := Kd.at_string HR0.out x5_1 p116 q116
    cases e116
    replace p116 := eq_true p116
    replace q116 := eq_true q116
    go_wp2
    go_roundg k1
    case measure => have := HK1.out; omega
    case rel => exact ⟨(wrap64 (x5_1 + 1)), (by first | rfl | (simp; done) | (simp [*]; done)), H', ⟨by have := HK1.out; omega⟩, by repeat (first | exact Drawn0.refl _ | apply Drawn0.step)⟩
   rw [if_neg c3] at H
   have c3b0 : decide (x5_1 < (l0.length : Int)) = false := decide_eq_false c3
   clear c3
   obtain rfl := Option.some.inj H
   go_wp2
   go_ret
   exact ⟨by first | rfl | (simp; done) | (simp [*]; done), by repeat (first | exact Drawn0.refl _ | apply Drawn0.step)⟩

end Go.Proofs.Ytdnenglafphkbaa.PFnExactMay
