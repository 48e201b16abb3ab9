/- Lines by a program (a changed copy of the kit's print: this repo's wip/tools): Go functions as Lean functions, and proofs that the calls answer so. -/
import Derived.Test.YtdnenglafphkbaaZPFnExactMayx0
import Derived.Test.YtdnenglafphkbaaZPFnExactMayx5
import Derived.Test.YtdnenglafphkbaaZPFnExactMayx6
namespace Go.Proofs.Ytdnenglafphkbaa.PFnExactMay
open Go.RowKit Go.Proofs.YtdnenglafphkbaaW.PrintWords Go.Proofs.YtdnenglafphkbaaW.PrintLast Go.Proofs.YtdnenglafphkbaaW.PrintMore
attribute [local go_sem] max2_int min2_int max_two min_two max_three min_three max_four min_four   -- for this text's walks alone
set_option linter.unusedVariables false
set_option linter.unusedSimpArgs false

/-! ### impl_PeopleOk: function 84 -/
mutual
def impl_PeopleOk.l0 : Nat → List (S123) → List (ByteArray × Bool) → List (S123) → Int → Int → Option (Bool)
 | 0, _, _, _, _, _ => none
 | k + 1, x0, x3, x14, x15, x16 => if x16 < x15 then (if 0 ≤ x16 then (if x16 < (x14.length : Int) then ((impl_NameOk.f k ((rd_T123 x14 x16).f0)).bind fun t148 => (if t148 = true then (if ((rd_T123 x14 x16).f0).size ≤ 9223372036854775807 then (if (mget x3 ((rd_T123 x14 x16).f0)).getD false = true then (impl_PeopleOk.j1 k x0 x3 x14 x15 x16 true ((rd_T123 x14 x16).f0) ((rd_T123 x14 x16).f1) ((rd_T123 x14 x16).f2) ((rd_T123 x14 x16).f3) ((rd_T123 x14 x16).f4)) else (if (((rd_T123 x14 x16).f1).length : Int) > 8 then (impl_PeopleOk.j1 k x0 x3 x14 x15 x16 true ((rd_T123 x14 x16).f0) ((rd_T123 x14 x16).f1) ((rd_T123 x14 x16).f2) ((rd_T123 x14 x16).f3) ((rd_T123 x14 x16).f4)) else ((impl_money.f ((rd_T123 x14 x16).f2)).bind fun t149 => (impl_PeopleOk.j1 k x0 x3 x14 x15 x16 (!t149) ((rd_T123 x14 x16).f0) ((rd_T123 x14 x16).f1) ((rd_T123 x14 x16).f2) ((rd_T123 x14 x16).f3) ((rd_T123 x14 x16).f4))))) else (none)) else (impl_PeopleOk.j1 k x0 x3 x14 x15 x16 true ((rd_T123 x14 x16).f0) ((rd_T123 x14 x16).f1) ((rd_T123 x14 x16).f2) ((rd_T123 x14 x16).f3) ((rd_T123 x14 x16).f4)))) else (none)) else (none)) else (impl_PeopleOk.l2 k x3 x0 (x0.length : Int) 0)
def impl_PeopleOk.j1 : Nat → List (S123) → List (ByteArray × Bool) → List (S123) → Int → Int → Bool → ByteArray → List ByteArray → Int → ByteArray → Bool → Option (Bool)
 | 0, _, _, _, _, _, _, _, _, _, _, _ => none
 | k + 1, x0, x3, x14, x15, x16, x41, x148000, x148001, x148002, x148003, x148004 => if x41 = true then (some false) else (impl_PeopleOk.l1 k x0 x3 x14 x15 x16 x148001 (x148001.length : Int) 0 x148000 x148001 x148002 x148003 x148004)
def impl_PeopleOk.l1 : Nat → List (S123) → List (ByteArray × Bool) → List (S123) → Int → Int → List ByteArray → Int → Int → ByteArray → List ByteArray → Int → ByteArray → Bool → Option (Bool)
 | 0, _, _, _, _, _, _, _, _, _, _, _, _, _ => none
 | k + 1, x0, x3, x14, x15, x16, x43, x44, x45, x148000, x148001, x148002, x148003, x148004 => if x45 < x44 then (if 0 ≤ x45 then (if x45 < (x43.length : Int) then ((impl_NameOk.f k (rdOf ByteArray.empty x43 x45)).bind fun t151 => (if t151 = true then (impl_PeopleOk.l1 k x0 x3 x14 x15 x16 x43 x44 (wrap64 (x45 + 1)) x148000 x148001 x148002 x148003 x148004) else (some false))) else (none)) else (none)) else (if x148000.size ≤ 9223372036854775807 then (impl_PeopleOk.l0 k x0 (mset x3 x148000 true) x14 x15 (wrap64 (x16 + 1))) else (none))
def impl_PeopleOk.l2 : Nat → List (ByteArray × Bool) → List (S123) → Int → Int → Option (Bool)
 | 0, _, _, _, _ => none
 | k + 1, x3, x57, x58, x59 => if x59 < x58 then (if 0 ≤ x59 then (if x59 < (x57.length : Int) then (if ((rd_T123 x57 x59).f3).toList = ([] : List UInt8) then (impl_PeopleOk.l2 k x3 x57 x58 (wrap64 (x59 + 1))) else (if ((rd_T123 x57 x59).f3).toList = ((rd_T123 x57 x59).f0).toList then (some false) else (if ((rd_T123 x57 x59).f3).size ≤ 9223372036854775807 then (if ((mget x3 ((rd_T123 x57 x59).f3)).getD false = true) then (impl_PeopleOk.l2 k x3 x57 x58 (wrap64 (x59 + 1))) else (some false)) else (none)))) else (none)) else (none)) else (some true)
end
def impl_PeopleOk.f (k : Nat) (l0 : List (S123)) : Option (Bool) := if (l0.length : Int) > 40 then (some false) else (impl_PeopleOk.l0 k l0 (([] : List (ByteArray × Bool))) l0 (l0.length : Int) 0)
theorem impl_PeopleOk.mono_l : ∀ k, (∀ y0 y1 y2 y3 y4, LeO (impl_PeopleOk.l0 k y0 y1 y2 y3 y4) (impl_PeopleOk.l0 (k + 1) y0 y1 y2 y3 y4)) ∧ (∀ y0 y1 y2 y3 y4 y5 y6 y7 y8 y9 y10, LeO (impl_PeopleOk.j1 k y0 y1 y2 y3 y4 y5 y6 y7 y8 y9 y10) (impl_PeopleOk.j1 (k + 1) y0 y1 y2 y3 y4 y5 y6 y7 y8 y9 y10)) ∧ (∀ y0 y1 y2 y3 y4 y5 y6 y7 y8 y9 y10 y11 y12, LeO (impl_PeopleOk.l1 k y0 y1 y2 y3 y4 y5 y6 y7 y8 y9 y10 y11 y12) (impl_PeopleOk.l1 (k + 1) y0 y1 y2 y3 y4 y5 y6 y7 y8 y9 y10 y11 y12)) ∧ (∀ y0 y1 y2 y3, LeO (impl_PeopleOk.l2 k y0 y1 y2 y3) (impl_PeopleOk.l2 (k + 1) y0 y1 y2 y3))
 | 0 => ⟨fun _ _ _ _ _ r h => by simp [impl_PeopleOk.l0] at h, fun _ _ _ _ _ _ _ _ _ _ _ r h => by simp [impl_PeopleOk.j1] at h, fun _ _ _ _ _ _ _ _ _ _ _ _ _ r h => by simp [impl_PeopleOk.l1] at h, fun _ _ _ _ r h => by simp [impl_PeopleOk.l2] at h⟩
 | k + 1 => by
  obtain ⟨ih0, ih1, ih2, ih3⟩ := impl_PeopleOk.mono_l k
  refine ⟨?_, ?_, ?_, ?_⟩
  ·intro y0 y1 y2 y3 y4
   unfold impl_PeopleOk.l0
   repeat' first
   | (with_reducible exact ih0 _ _ _ _ _)
   | (with_reducible exact ih1 _ _ _ _ _ _ _ _ _ _ _)
   | (with_reducible exact ih2 _ _ _ _ _ _ _ _ _ _ _ _ _)
   | (with_reducible exact ih3 _ _ _ _)
   | (with_reducible exact impl_NameOk.mono _ _)
   | (with_reducible exact LeO.refl _)
   | (with_reducible exact LeO.none _)
   | (with_reducible refine LeO.ite ?_ ?_)
   | (with_reducible refine LeO.bind ?_ (fun _ => ?_))
   | exact ih0 _ _ _ _ _
   | exact ih1 _ _ _ _ _ _ _ _ _ _ _
   | exact ih2 _ _ _ _ _ _ _ _ _ _ _ _ _
   | exact ih3 _ _ _ _
   | exact impl_NameOk.mono _ _
   | exact LeO.none _
   | refine LeO.ite ?_ ?_
   | refine LeO.bind ?_ (fun _ => ?_)
  ·intro y0 y1 y2 y3 y4 y5 y6 y7 y8 y9 y10
   unfold impl_PeopleOk.j1
   repeat' first
   | (with_reducible exact ih0 _ _ _ _ _)
   | (with_reducible exact ih1 _ _ _ _ _ _ _ _ _ _ _)
   | (with_reducible exact ih2 _ _ _ _ _ _ _ _ _ _ _ _ _)
   | (with_reducible exact ih3 _ _ _ _)
   | (with_reducible exact impl_NameOk.mono _ _)
   | (with_reducible exact LeO.refl _)
   | (with_reducible exact LeO.none _)
   | (with_reducible refine LeO.ite ?_ ?_)
   | (with_reducible refine LeO.bind ?_ (fun _ => ?_))
   | exact ih0 _ _ _ _ _
   | exact ih1 _ _ _ _ _ _ _ _ _ _ _
   | exact ih2 _ _ _ _ _ _ _ _ _ _ _ _ _
   | exact ih3 _ _ _ _
   | exact impl_NameOk.mono _ _
   | exact LeO.none _
   | refine LeO.ite ?_ ?_
   | refine LeO.bind ?_ (fun _ => ?_)
  ·intro y0 y1 y2 y3 y4 y5 y6 y7 y8 y9 y10 y11 y12
   unfold impl_PeopleOk.l1
   repeat' first
   | (with_reducible exact ih0 _ _ _ _ _)
   | (with_reducible exact ih1 _ _ _ _ _ _ _ _ _ _ _)
   | (with_reducible exact ih2 _ _ _ _ _ _ _ _ _ _ _ _ _)
   | (with_reducible exact ih3 _ _ _ _)
   | (with_reducible exact impl_NameOk.mono _ _)
   | (with_reducible exact LeO.refl _)
   | (with_reducible exact LeO.none _)
   | (with_reducible refine LeO.ite ?_ ?_)
   | (with_reducible refine LeO.bind ?_ (fun _ => ?_))
   | exact ih0 _ _ _ _ _
   | exact ih1 _ _ _ _ _ _ _ _ _ _ _
   | exact ih2 _ _ _ _ _ _ _ _ _ _ _ _ _
   | exact ih3 _ _ _ _
   | exact impl_NameOk.mono _ _
   | exact LeO.none _
   | refine LeO.ite ?_ ?_
   | refine LeO.bind ?_ (fun _ => ?_)
  ·intro y0 y1 y2 y3
   unfold impl_PeopleOk.l2
   repeat' first
   | (with_reducible exact ih0 _ _ _ _ _)
   | (with_reducible exact ih1 _ _ _ _ _ _ _ _ _ _ _)
   | (with_reducible exact ih2 _ _ _ _ _ _ _ _ _ _ _ _ _)
   | (with_reducible exact ih3 _ _ _ _)
   | (with_reducible exact impl_NameOk.mono _ _)
   | (with_reducible exact LeO.refl _)
   | (with_reducible exact LeO.none _)
   | (with_reducible refine LeO.ite ?_ ?_)
   | (with_reducible refine LeO.bind ?_ (fun _ => ?_))
   | exact ih0 _ _ _ _ _
   | exact ih1 _ _ _ _ _ _ _ _ _ _ _
   | exact ih2 _ _ _ _ _ _ _ _ _ _ _ _ _
   | exact ih3 _ _ _ _
   | exact impl_NameOk.mono _ _
   | exact LeO.none _
   | refine LeO.ite ?_ ?_
   | refine LeO.bind ?_ (fun _ => ?_)
theorem impl_PeopleOk.mono : ∀ a0 k, LeO (impl_PeopleOk.f k a0) (impl_PeopleOk.f (k + 1) a0) := by
 intro a0 k
 obtain ⟨ih0, ih1, ih2, ih3⟩ := impl_PeopleOk.mono_l k
 unfold impl_PeopleOk.f
 repeat' first
   | (with_reducible exact ih0 _ _ _ _ _)
   | (with_reducible exact ih1 _ _ _ _ _ _ _ _ _ _ _)
   | (with_reducible exact ih2 _ _ _ _ _ _ _ _ _ _ _ _ _)
   | (with_reducible exact ih3 _ _ _ _)
   | (with_reducible exact impl_NameOk.mono _ _)
   | (with_reducible exact LeO.refl _)
   | (with_reducible exact LeO.none _)
   | (with_reducible refine LeO.ite ?_ ?_)
   | (with_reducible refine LeO.bind ?_ (fun _ => ?_))
   | exact ih0 _ _ _ _ _
   | exact ih1 _ _ _ _ _ _ _ _ _ _ _
   | exact ih2 _ _ _ _ _ _ _ _ _ _ _ _ _
   | exact ih3 _ _ _ _
   | exact impl_NameOk.mono _ _
   | exact LeO.none _
   | refine LeO.ite ?_ ?_
   | refine LeO.bind ?_ (fun _ => ?_)
set_option maxHeartbeats 8000000 in
set_option maxRecDepth 100000 in
theorem impl_PeopleOk.calls (k : Nat) (A0 : Option Addr) (c0 : Nat) (l0 : List (S123)) (r : Bool) (w : World) (hr0 : Kd.C k123 w A0 l0.length l0) (hc0 : l0.length ≤ c0) (h : impl_PeopleOk.f k l0 = some r) :
  Calls Try.prog 84 #[.slice A0 l0.length c0] w fun e w' => e = .returned (.bool r) ∧ Below w.heap.size w w' := by
 have hu123 := Try.underlying123
 have HR0 := Aside0.mk hr0
 have HC0 := Aside0.mk hc0
 clear hr0 hc0
 have HB := Aside0.mk (Below.refl w.heap.size w)
 have H : (if (l0.length : Int) > 40 then (some false) else (impl_PeopleOk.l0 k l0 (([] : List (ByteArray × Bool))) l0 (l0.length : Int) 0)) = some r := h
 clear h
 by_cases c2 : (l0.length : Int) > 40
 ·rw [if_pos c2] at H
  have c2b0 : decide (40 < (l0.length : Int)) = true := decide_eq_true c2
  have c2b1 : decide (40 < l0.length) = true := decide_eq_true (by omega)
  clear c2
  obtain rfl := Option.some.inj H
  go_enter Try.func84, Try.ntmps84
  go_wp2
  go_ret
  exact ⟨by first | rfl | (simp [errW_none, errW_some] <;> rfl) | (simp [*, errW_none, errW_some] <;> rfl), by repeat (first | (with_reducible first | exact HB.out | apply qb0 | apply qa0 | apply qc0) | exact HB.out)⟩
 rw [if_neg c2] at H
 have c2b0 : decide (40 < (l0.length : Int)) = false := decide_eq_false c2
 have c2b1 : decide (40 < l0.length) = false := decide_eq_false (by omega)
 clear c2
 obtain ⟨y142, hy142⟩ : ∃ y_ : List (ByteArray × Bool), y_ = (([] : List (ByteArray × Bool))) := ⟨_, rfl⟩
 replace H : (impl_PeopleOk.l0 k l0 y142 l0 (l0.length : Int) 0) = some r := by first | (rw [hy142]; with_reducible exact H) | (have H2_ := (Option.bind_some _ _).symm.trans H; rw [hy142]; with_reducible exact H2_) | (have H2_ := (Option.bind_some _ _).symm.trans H; with_reducible exact H2_) | with_reducible exact H | (rw [hy142]; exact H) | exact H
 have Ny142 := Aside0.mk hy142
 clear hy142
 have H' := Aside0.mk H
 clear H
 go_enter Try.func84, Try.ntmps84
 go_wp2_with (first | ((with_reducible refine qr0 (N := 13) rfl ?_); (try (refine gate_guard (by rfl) ?_; dsimp only)); refine Kd.Z_make_op kz95 95 (ok := fun _ => True) rfl (N := 13) rfl rfl trivial ?_; intro mb145 hq_ w3 ho4 hb; rw [← Ny142.out] at ho4; have n0_ := Aside0.mk (ql0 (by repeat (first | (with_reducible first | exact HB.out | apply qb0 | apply qa0 | apply qc0) | exact HB.out)) hb); have n1_ := Aside0.mk (Kd.Z_lower ho4 (qk0 (by repeat (first | (with_reducible first | exact HB.out | apply qb0 | apply qa0 | apply qc0) | exact HB.out)))); clear HB; have HB := n0_; have HO144 := n1_; clear n0_ n1_; clear hb ho4 hq_))
 go_loopg [16] k (fun kq v16 w' => ∃ (x3_1 : List (ByteArray × Bool)) (x16_1 : Int), v16 = .int .i64 x16_1 ∧ Aside0 (impl_PeopleOk.l0 kq l0 x3_1 l0 (l0.length : Int) x16_1 = some r) ∧ Aside0 (kq ≤ k) ∧ Aside0 (Kd.Z kz95 95 w' w.heap.size (fun _ => True) (.map (some mb145)) x3_1) ∧ Aside0 (Below w.heap.size w w'))
 case atStart => exact ⟨(y142), (0), (by first | rfl | (simp; done) | (simp [*]; done)), H', ⟨Nat.le_refl _⟩, ⟨by (with_reducible repeat (first | apply Kd.Z_alloc | apply Kd.Z_drewN | apply Kd.Z_drew)); exact HO144.out⟩, ⟨by repeat (first | (with_reducible first | exact HB.out | apply qb0 | apply qa0 | apply qc0) | exact HB.out)⟩⟩
 case round =>
  clear H'
  try clear c2
  try clear c2b0
  try clear c2b1
  try clear p2
  obtain ⟨x3_1, x16_1, rfl, HA, HK1, HO_3, HB⟩ := hrel
  cases gk with
  | zero => exact absurd HA.out (by simp [impl_PeopleOk.l0])
  | succ k1 =>
   have H := HA.out
   clear HA
   simp only [impl_PeopleOk.l0] at H
   by_cases c5 : x16_1 < (l0.length : Int)
   ·rw [if_pos c5] at H
    have c5b0 : decide (x16_1 < (l0.length : Int)) = true := decide_eq_true c5
    clear c5
    by_cases c6 : 0 ≤ x16_1
    case neg => rw [if_neg c6] at H; exact absurd H (by simp)
    rw [if_pos c6] at H
    have c6b0 : decide (0 ≤ x16_1) = true := decide_eq_true c6
    clear c6
    by_cases c7 : x16_1 < (l0.length : Int)
    case neg => rw [if_neg c7] at H; exact absurd H (by simp)
    rw [if_pos c7] at H
    have c7b0 : decide (x16_1 < (l0.length : Int)) = true := decide_eq_true c7
    clear c7
    have HC8 := Aside0.mk H
    clear H
    have p146 : 0 ≤ (x16_1 : Int) := of_decide_eq_true (by first | (with_reducible assumption) | assumption)
    have q146 : x16_1 < (l0.length : Int) := of_decide_eq_true (by first | (with_reducible assumption) | assumption)
    obtain ⟨ad146, A146_1, c146_1, e146, hx146_0, hx146_1, hx146_2, hx146_3, hx146_4, hl146_1, hi146_1⟩ := at_T123 HR0.out x16_1 p146 q146
    cases e146
    replace hx146_0 := (HB.out.cell (World.block_lt_of_cell? w _ hx146_0)).trans hx146_0
    replace hx146_1 := (HB.out.cell (World.block_lt_of_cell? w _ hx146_1)).trans hx146_1
    replace hx146_2 := (HB.out.cell (World.block_lt_of_cell? w _ hx146_2)).trans hx146_2
    replace hx146_3 := (HB.out.cell (World.block_lt_of_cell? w _ hx146_3)).trans hx146_3
    replace hx146_4 := (HB.out.cell (World.block_lt_of_cell? w _ hx146_4)).trans hx146_4
    have HR146_1 := Aside0.mk hi146_1
    have HC146_1 := Aside0.mk hl146_1
    clear hi146_1 hl146_1
    replace p146 := eq_true p146
    replace q146 := eq_true q146
    go_upto_region 7 with (first | ((with_reducible refine qr0 (N := 5) rfl ?_); (try (refine gate_guard (by rfl) ?_; dsimp only)); refine qv0 ?hg (N := 5) ?hd (cs := #[.string (⟨#[]⟩ : ByteArray), .slice none 0 0, .int .i64 0, .string (⟨#[]⟩ : ByteArray), .bool false]) (t := 123) ?hr ?_; (case hd => rfl); (case hg => rfl); (case hr => first | (go_simp; done) | (go_simp; rfl)); intro gb147 hg w9 hbox hb; have n0_ := Aside0.mk (Kd.Z_below (by (with_reducible repeat (first | apply Kd.Z_alloc | apply Kd.Z_drewN | apply Kd.Z_drew)); exact HO_3.out) hb); have n1_ := Aside0.mk (ql0 (by repeat (first | (with_reducible first | exact HB.out | apply qb0 | apply qa0 | apply qc0) | exact HB.out)) hb); have n2_ := Aside0.mk (hbox); have n3_ := Aside0.mk ((by rw [hg]; exact (qk0 (by repeat (first | (with_reducible first | exact HB.out | apply qb0 | apply qa0 | apply qc0) | exact HB.out))) : w.heap.size ≤ gb147)); have n4_ := Aside0.mk ((by rw [hg]; exact (qk0 (by repeat (first | (with_reducible first | exact HB.out | apply qb0 | apply qa0 | apply qc0) | exact HB.out))) : w.heap.size ≤ gb147)); clear HO_3; clear HB; have HO_3 := n0_; have HB := n1_; have BK147 := n2_; have GW147 := n3_; have GE147 := n4_; clear n0_ n1_ n2_ n3_ n4_; clear hb hbox hg; have hcz10_0 : w9.cell? ⟨gb147, 0, none⟩ = some (.string (⟨#[]⟩ : ByteArray)) := (qe0 BK147.out 0).trans rfl; have hcz10_1 : w9.cell? ⟨gb147, 1, none⟩ = some (.slice none 0 0) := (qe0 BK147.out 1).trans rfl; have hcz10_2 : w9.cell? ⟨gb147, 2, none⟩ = some (.int .i64 0) := (qe0 BK147.out 2).trans rfl; have hcz10_3 : w9.cell? ⟨gb147, 3, none⟩ = some (.string (⟨#[]⟩ : ByteArray)) := (qe0 BK147.out 3).trans rfl; have hcz10_4 : w9.cell? ⟨gb147, 4, none⟩ = some (.bool false) := (qe0 BK147.out 4).trans rfl; have hfz10_0 := qd0 BK147.out 0; have hfz10_1 := qd0 BK147.out 1; have hfz10_2 := qd0 BK147.out 2; have hfz10_3 := qd0 BK147.out 3; have hfz10_4 := qd0 BK147.out 4))
    (try simp only [Act.put, List.setIfInBounds_toArray, List.set_cons_zero, List.set_cons_succ])
    go_cut [41] (fun v41 wc => ∃ (kq : Nat) (x41_7 : Bool), v41 = .bool x41_7 ∧ Aside0 (impl_PeopleOk.j1 kq l0 x3_1 l0 (l0.length : Int) x16_1 x41_7 ((rd_T123 l0 x16_1).f0) ((rd_T123 l0 x16_1).f1) ((rd_T123 l0 x16_1).f2) ((rd_T123 l0 x16_1).f3) ((rd_T123 l0 x16_1).f4) = some r) ∧ Aside0 (kq ≤ k1) ∧ Aside0 (Kd.Z kz95 95 wc w.heap.size (fun _ => True) (.map (some mb145)) x3_1) ∧ Aside0 (wc.heap[gb147]? = some (.cells #[.string ((rd_T123 l0 x16_1).f0), (.slice A146_1 ((rd_T123 l0 x16_1).f1).length c146_1), .int .i64 ((rd_T123 l0 x16_1).f2), .string ((rd_T123 l0 x16_1).f3), .bool ((rd_T123 l0 x16_1).f4)] 123 (0, 0))) ∧ Aside0 (Below w.heap.size w wc))
    case first =>
     have H := HC8.out
     clear HC8
     replace H := Option.bind_eq_some_iff.mp H
     obtain ⟨t148, A110, H⟩ := H
     replace H : (if t148 = true then (if ((rd_T123 l0 x16_1).f0).size ≤ 9223372036854775807 then (if (mget x3_1 ((rd_T123 l0 x16_1).f0)).getD false = true then (impl_PeopleOk.j1 k1 l0 x3_1 l0 (l0.length : Int) x16_1 true ((rd_T123 l0 x16_1).f0) ((rd_T123 l0 x16_1).f1) ((rd_T123 l0 x16_1).f2) ((rd_T123 l0 x16_1).f3) ((rd_T123 l0 x16_1).f4)) else (if (((rd_T123 l0 x16_1).f1).length : Int) > 8 then (impl_PeopleOk.j1 k1 l0 x3_1 l0 (l0.length : Int) x16_1 true ((rd_T123 l0 x16_1).f0) ((rd_T123 l0 x16_1).f1) ((rd_T123 l0 x16_1).f2) ((rd_T123 l0 x16_1).f3) ((rd_T123 l0 x16_1).f4)) else ((impl_money.f ((rd_T123 l0 x16_1).f2)).bind fun t149 => (impl_PeopleOk.j1 k1 l0 x3_1 l0 (l0.length : Int) x16_1 (!t149) ((rd_T123 l0 x16_1).f0) ((rd_T123 l0 x16_1).f1) ((rd_T123 l0 x16_1).f2) ((rd_T123 l0 x16_1).f3) ((rd_T123 l0 x16_1).f4))))) else (none)) else (impl_PeopleOk.j1 k1 l0 x3_1 l0 (l0.length : Int) x16_1 true ((rd_T123 l0 x16_1).f0) ((rd_T123 l0 x16_1).f1) ((rd_T123 l0 x16_1).f2) ((rd_T123 l0 x16_1).f3) ((rd_T123 l0 x16_1).f4))) = some r := H
     have A11 := Aside0.mk A110
     clear A110
     by_cases c12 : t148 = true
     ·subst c12
      have H1 : (if ((rd_T123 l0 x16_1).f0).size ≤ 9223372036854775807 then (if (mget x3_1 ((rd_T123 l0 x16_1).f0)).getD false = true then (impl_PeopleOk.j1 k1 l0 x3_1 l0 (l0.length : Int) x16_1 true ((rd_T123 l0 x16_1).f0) ((rd_T123 l0 x16_1).f1) ((rd_T123 l0 x16_1).f2) ((rd_T123 l0 x16_1).f3) ((rd_T123 l0 x16_1).f4)) else (if (((rd_T123 l0 x16_1).f1).length : Int) > 8 then (impl_PeopleOk.j1 k1 l0 x3_1 l0 (l0.length : Int) x16_1 true ((rd_T123 l0 x16_1).f0) ((rd_T123 l0 x16_1).f1) ((rd_T123 l0 x16_1).f2) ((rd_T123 l0 x16_1).f3) ((rd_T123 l0 x16_1).f4)) else ((impl_money.f ((rd_T123 l0 x16_1).f2)).bind fun t149 => (impl_PeopleOk.j1 k1 l0 x3_1 l0 (l0.length : Int) x16_1 (!t149) ((rd_T123 l0 x16_1).f0) ((rd_T123 l0 x16_1).f1) ((rd_T123 l0 x16_1).f2) ((rd_T123 l0 x16_1).f3) ((rd_T123 l0 x16_1).f4))))) else (none)) = some r := by rw [if_pos rfl] at H; exact H
      clear H
      have H := H1
      clear H1
      by_cases c13 : ((rd_T123 l0 x16_1).f0).size ≤ 9223372036854775807
      case neg => rw [if_neg c13] at H; exact absurd H (by simp)
      rw [if_pos c13] at H
      have LMc13 := Aside0.mk c13
      clear c13
      by_cases c14 : (mget x3_1 ((rd_T123 l0 x16_1).f0)).getD false = true
      ·rw [if_pos c14] at H
       have c14b0 : (mget x3_1 ((rd_T123 l0 x16_1).f0)).getD false = true := c14
       clear c14
       (first | rw [c14b0] | (simp only [i64_w, i32_w]; rw [c14b0]) | skip)
       have H' := Aside0.mk H
       clear H
       have hcz15_0 : w9.cell? ⟨gb147, 0, none⟩ = some (.string (⟨#[]⟩ : ByteArray)) := (qe0 BK147.out 0).trans rfl
       have hcz15_1 : w9.cell? ⟨gb147, 1, none⟩ = some (.slice none 0 0) := (qe0 BK147.out 1).trans rfl
       have hcz15_2 : w9.cell? ⟨gb147, 2, none⟩ = some (.int .i64 0) := (qe0 BK147.out 2).trans rfl
       have hcz15_3 : w9.cell? ⟨gb147, 3, none⟩ = some (.string (⟨#[]⟩ : ByteArray)) := (qe0 BK147.out 3).trans rfl
       have hcz15_4 : w9.cell? ⟨gb147, 4, none⟩ = some (.bool false) := (qe0 BK147.out 4).trans rfl
       have hfz15_0 := qd0 BK147.out 0
       have hfz15_1 := qd0 BK147.out 1
       have hfz15_2 := qd0 BK147.out 2
       have hfz15_3 := qd0 BK147.out 3
       have hfz15_4 := qd0 BK147.out 4
       go_wp2_with (first | ((with_reducible refine qm0 (f := 66) rfl ?_); refine qw0 (some 22) rfl rfl Try.func66 (by kernel_rfl) rfl #[.string ((rd_T123 l0 x16_1).f0)] rfl (by (try simp only [List.map_toArray, List.map_cons, List.map_nil]); first | done | rfl | (simp only [List.length_drop, List.length_take]; rfl)) ?_; (with_reducible refine (impl_NameOk.calls k1 ((rd_T123 l0 x16_1).f0) true _ A11.out).mono ?_); rintro e w' ⟨rfl, ⟨nd, rfl⟩⟩; refine ⟨_, rfl, ?_⟩) | ((with_reducible refine qr0 (N := 28) rfl ?_); (try (refine gate_guard (by rfl) ?_; dsimp only)); refine Kd.Z_look_op (base := w.heap.size) (ok := fun _ => True) kz95 95 rfl rfl _ _ 95 rfl kz95_K kz95_inj kz95_t false kz95_z mb145 x3_1 ((rd_T123 l0 x16_1).f0) rfl rfl (kz95_key ((rd_T123 l0 x16_1).f0) LMc13.out) ?aO (.bool ((mget x3_1 ((rd_T123 l0 x16_1).f0)).getD false)) rfl ?_; (case aO => exact (by (with_reducible repeat (first | apply Kd.Z_alloc | apply Kd.Z_drewN | apply Kd.Z_drew)); exact (Kd.Z_mono (Kd.Z_far (p := ⟨gb147, 4, none⟩) (Kd.Z_far (p := ⟨gb147, 3, none⟩) (Kd.Z_far (p := ⟨gb147, 2, none⟩) (Kd.Z_far (p := ⟨gb147, 1, none⟩) (Kd.Z_far (p := ⟨gb147, 0, none⟩) (Kd.Z_types HO_3.out BK147.out (by decide)) (fun _ hk => hk.2) (.string ((rd_T123 l0 x16_1).f0))) (fun _ hk => hk.2) (.slice A146_1 ((rd_T123 l0 x16_1).f1).length c146_1)) (fun _ hk => hk.2) (.int .i64 ((rd_T123 l0 x16_1).f2))) (fun _ hk => hk.2) (.string ((rd_T123 l0 x16_1).f3))) (fun _ hk => hk.2) (.bool ((rd_T123 l0 x16_1).f4))) (fun _ h_ => h_.1))))))
       go_meet
       case rel => exact ⟨_, (true), (by first | rfl | (simp; done) | (simp [*]; done)), H', ⟨by have := HK1.out; first | omega | exact Nat.le_refl _⟩, ⟨by (with_reducible repeat (first | apply Kd.Z_alloc | apply Kd.Z_drewN | apply Kd.Z_drew)); exact Kd.Z_mono (Kd.Z_far (p := ⟨gb147, 4, none⟩) (Kd.Z_far (p := ⟨gb147, 3, none⟩) (Kd.Z_far (p := ⟨gb147, 2, none⟩) (Kd.Z_far (p := ⟨gb147, 1, none⟩) (Kd.Z_far (p := ⟨gb147, 0, none⟩) (Kd.Z_types HO_3.out BK147.out (by decide)) (fun _ hk => hk.2) (.string ((rd_T123 l0 x16_1).f0))) (fun _ hk => hk.2) (.slice A146_1 ((rd_T123 l0 x16_1).f1).length c146_1)) (fun _ hk => hk.2) (.int .i64 ((rd_T123 l0 x16_1).f2))) (fun _ hk => hk.2) (.string ((rd_T123 l0 x16_1).f3))) (fun _ hk => hk.2) (.bool ((rd_T123 l0 x16_1).f4))) (fun _ hk => trivial)⟩, ⟨by (with_reducible repeat (first | refine qg0 ?_ _ | refine qj0 ?_ | refine qh0 ?_ _)); refine qp0 (cs := #[.string ((rd_T123 l0 x16_1).f0), .slice A146_1 ((rd_T123 l0 x16_1).f1).length c146_1, .int .i64 ((rd_T123 l0 x16_1).f2), .string ((rd_T123 l0 x16_1).f3), .bool false]) ?_ 4 _ rfl; (with_reducible repeat (first | refine qg0 ?_ _ | refine qj0 ?_ | refine qh0 ?_ _)); refine qp0 (cs := #[.string ((rd_T123 l0 x16_1).f0), .slice A146_1 ((rd_T123 l0 x16_1).f1).length c146_1, .int .i64 ((rd_T123 l0 x16_1).f2), .string (⟨#[]⟩ : ByteArray), .bool false]) ?_ 3 _ rfl; (with_reducible repeat (first | refine qg0 ?_ _ | refine qj0 ?_ | refine qh0 ?_ _)); refine qp0 (cs := #[.string ((rd_T123 l0 x16_1).f0), .slice A146_1 ((rd_T123 l0 x16_1).f1).length c146_1, .int .i64 0, .string (⟨#[]⟩ : ByteArray), .bool false]) ?_ 2 _ rfl; (with_reducible repeat (first | refine qg0 ?_ _ | refine qj0 ?_ | refine qh0 ?_ _)); refine qp0 (cs := #[.string ((rd_T123 l0 x16_1).f0), .slice none 0 0, .int .i64 0, .string (⟨#[]⟩ : ByteArray), .bool false]) ?_ 1 _ rfl; (with_reducible repeat (first | refine qg0 ?_ _ | refine qj0 ?_ | refine qh0 ?_ _)); refine qp0 (cs := #[.string (⟨#[]⟩ : ByteArray), .slice none 0 0, .int .i64 0, .string (⟨#[]⟩ : ByteArray), .bool false]) ?_ 0 _ rfl; (with_reducible repeat (first | refine qg0 ?_ _ | refine qj0 ?_ | refine qh0 ?_ _)); exact BK147.out⟩, ⟨by repeat (first | (with_reducible first | exact HB.out | apply qb0 | apply qa0 | apply qc0 | refine qi0 ?_ GE147.out) | exact HB.out)⟩⟩
      rw [if_neg c14] at H
      have c14b0 : (mget x3_1 ((rd_T123 l0 x16_1).f0)).getD false = false := by simpa using c14
      clear c14
      (first | rw [c14b0] | (simp only [i64_w, i32_w]; rw [c14b0]) | skip)
      by_cases c16 : (((rd_T123 l0 x16_1).f1).length : Int) > 8
      ·rw [if_pos c16] at H
       have c16b0 : decide (8 < (((rd_T123 l0 x16_1).f1).length : Int)) = true := decide_eq_true c16
       have c16b1 : decide (8 < ((rd_T123 l0 x16_1).f1).length) = true := decide_eq_true (by omega)
       clear c16
       have H' := Aside0.mk H
       clear H
       have hcz17_0 : w9.cell? ⟨gb147, 0, none⟩ = some (.string (⟨#[]⟩ : ByteArray)) := (qe0 BK147.out 0).trans rfl
       have hcz17_1 : w9.cell? ⟨gb147, 1, none⟩ = some (.slice none 0 0) := (qe0 BK147.out 1).trans rfl
       have hcz17_2 : w9.cell? ⟨gb147, 2, none⟩ = some (.int .i64 0) := (qe0 BK147.out 2).trans rfl
       have hcz17_3 : w9.cell? ⟨gb147, 3, none⟩ = some (.string (⟨#[]⟩ : ByteArray)) := (qe0 BK147.out 3).trans rfl
       have hcz17_4 : w9.cell? ⟨gb147, 4, none⟩ = some (.bool false) := (qe0 BK147.out 4).trans rfl
       have hfz17_0 := qd0 BK147.out 0
       have hfz17_1 := qd0 BK147.out 1
       have hfz17_2 := qd0 BK147.out 2
       have hfz17_3 := qd0 BK147.out 3
       have hfz17_4 := qd0 BK147.out 4
       go_wp2_with (first | ((with_reducible refine qm0 (f := 66) rfl ?_); refine qw0 (some 22) rfl rfl Try.func66 (by kernel_rfl) rfl #[.string ((rd_T123 l0 x16_1).f0)] rfl (by (try simp only [List.map_toArray, List.map_cons, List.map_nil]); first | done | rfl | (simp only [List.length_drop, List.length_take]; rfl)) ?_; (with_reducible refine (impl_NameOk.calls k1 ((rd_T123 l0 x16_1).f0) true _ A11.out).mono ?_); rintro e w' ⟨rfl, ⟨nd, rfl⟩⟩; refine ⟨_, rfl, ?_⟩) | ((with_reducible refine qr0 (N := 28) rfl ?_); (try (refine gate_guard (by rfl) ?_; dsimp only)); refine Kd.Z_look_op (base := w.heap.size) (ok := fun _ => True) kz95 95 rfl rfl _ _ 95 rfl kz95_K kz95_inj kz95_t false kz95_z mb145 x3_1 ((rd_T123 l0 x16_1).f0) rfl rfl (kz95_key ((rd_T123 l0 x16_1).f0) LMc13.out) ?aO (.bool ((mget x3_1 ((rd_T123 l0 x16_1).f0)).getD false)) rfl ?_; (case aO => exact (by (with_reducible repeat (first | apply Kd.Z_alloc | apply Kd.Z_drewN | apply Kd.Z_drew)); exact (Kd.Z_mono (Kd.Z_far (p := ⟨gb147, 4, none⟩) (Kd.Z_far (p := ⟨gb147, 3, none⟩) (Kd.Z_far (p := ⟨gb147, 2, none⟩) (Kd.Z_far (p := ⟨gb147, 1, none⟩) (Kd.Z_far (p := ⟨gb147, 0, none⟩) (Kd.Z_types HO_3.out BK147.out (by decide)) (fun _ hk => hk.2) (.string ((rd_T123 l0 x16_1).f0))) (fun _ hk => hk.2) (.slice A146_1 ((rd_T123 l0 x16_1).f1).length c146_1)) (fun _ hk => hk.2) (.int .i64 ((rd_T123 l0 x16_1).f2))) (fun _ hk => hk.2) (.string ((rd_T123 l0 x16_1).f3))) (fun _ hk => hk.2) (.bool ((rd_T123 l0 x16_1).f4))) (fun _ h_ => h_.1))))))
       go_meet
       case rel => exact ⟨_, (true), (by first | rfl | (simp; done) | (simp [*]; done)), H', ⟨by have := HK1.out; first | omega | exact Nat.le_refl _⟩, ⟨by (with_reducible repeat (first | apply Kd.Z_alloc | apply Kd.Z_drewN | apply Kd.Z_drew)); exact Kd.Z_mono (Kd.Z_far (p := ⟨gb147, 4, none⟩) (Kd.Z_far (p := ⟨gb147, 3, none⟩) (Kd.Z_far (p := ⟨gb147, 2, none⟩) (Kd.Z_far (p := ⟨gb147, 1, none⟩) (Kd.Z_far (p := ⟨gb147, 0, none⟩) (Kd.Z_types HO_3.out BK147.out (by decide)) (fun _ hk => hk.2) (.string ((rd_T123 l0 x16_1).f0))) (fun _ hk => hk.2) (.slice A146_1 ((rd_T123 l0 x16_1).f1).length c146_1)) (fun _ hk => hk.2) (.int .i64 ((rd_T123 l0 x16_1).f2))) (fun _ hk => hk.2) (.string ((rd_T123 l0 x16_1).f3))) (fun _ hk => hk.2) (.bool ((rd_T123 l0 x16_1).f4))) (fun _ hk => trivial)⟩, ⟨by (with_reducible repeat (first | refine qg0 ?_ _ | refine qj0 ?_ | refine qh0 ?_ _)); refine qp0 (cs := #[.string ((rd_T123 l0 x16_1).f0), .slice A146_1 ((rd_T123 l0 x16_1).f1).length c146_1, .int .i64 ((rd_T123 l0 x16_1).f2), .string ((rd_T123 l0 x16_1).f3), .bool false]) ?_ 4 _ rfl; (with_reducible repeat (first | refine qg0 ?_ _ | refine qj0 ?_ | refine qh0 ?_ _)); refine qp0 (cs := #[.string ((rd_T123 l0 x16_1).f0), .slice A146_1 ((rd_T123 l0 x16_1).f1).length c146_1, .int .i64 ((rd_T123 l0 x16_1).f2), .string (⟨#[]⟩ : ByteArray), .bool false]) ?_ 3 _ rfl; (with_reducible repeat (first | refine qg0 ?_ _ | refine qj0 ?_ | refine qh0 ?_ _)); refine qp0 (cs := #[.string ((rd_T123 l0 x16_1).f0), .slice A146_1 ((rd_T123 l0 x16_1).f1).length c146_1, .int .i64 0, .string (⟨#[]⟩ : ByteArray), .bool false]) ?_ 2 _ rfl; (with_reducible repeat (first | refine qg0 ?_ _ | refine qj0 ?_ | refine qh0 ?_ _)); refine qp0 (cs := #[.string ((rd_T123 l0 x16_1).f0), .slice none 0 0, .int .i64 0, .string (⟨#[]⟩ : ByteArray), .bool false]) ?_ 1 _ rfl; (with_reducible repeat (first | refine qg0 ?_ _ | refine qj0 ?_ | refine qh0 ?_ _)); refine qp0 (cs := #[.string (⟨#[]⟩ : ByteArray), .slice none 0 0, .int .i64 0, .string (⟨#[]⟩ : ByteArray), .bool false]) ?_ 0 _ rfl; (with_reducible repeat (first | refine qg0 ?_ _ | refine qj0 ?_ | refine qh0 ?_ _)); exact BK147.out⟩, ⟨by repeat (first | (with_reducible first | exact HB.out | apply qb0 | apply qa0 | apply qc0 | refine qi0 ?_ GE147.out) | exact HB.out)⟩⟩
      rw [if_neg c16] at H
      have c16b0 : decide (8 < (((rd_T123 l0 x16_1).f1).length : Int)) = false := decide_eq_false c16
      have c16b1 : decide (8 < ((rd_T123 l0 x16_1).f1).length) = false := decide_eq_false (by omega)
      clear c16
      replace H := Option.bind_eq_some_iff.mp H
      obtain ⟨t149, A180, H⟩ := H
      replace H : (impl_PeopleOk.j1 k1 l0 x3_1 l0 (l0.length : Int) x16_1 (!t149) ((rd_T123 l0 x16_1).f0) ((rd_T123 l0 x16_1).f1) ((rd_T123 l0 x16_1).f2) ((rd_T123 l0 x16_1).f3) ((rd_T123 l0 x16_1).f4)) = some r := H
      have A18 := Aside0.mk A180
      clear A180
      have H' := Aside0.mk H
      clear H
      have hcz19_0 : w9.cell? ⟨gb147, 0, none⟩ = some (.string (⟨#[]⟩ : ByteArray)) := (qe0 BK147.out 0).trans rfl
      have hcz19_1 : w9.cell? ⟨gb147, 1, none⟩ = some (.slice none 0 0) := (qe0 BK147.out 1).trans rfl
      have hcz19_2 : w9.cell? ⟨gb147, 2, none⟩ = some (.int .i64 0) := (qe0 BK147.out 2).trans rfl
      have hcz19_3 : w9.cell? ⟨gb147, 3, none⟩ = some (.string (⟨#[]⟩ : ByteArray)) := (qe0 BK147.out 3).trans rfl
      have hcz19_4 : w9.cell? ⟨gb147, 4, none⟩ = some (.bool false) := (qe0 BK147.out 4).trans rfl
      have hfz19_0 := qd0 BK147.out 0
      have hfz19_1 := qd0 BK147.out 1
      have hfz19_2 := qd0 BK147.out 2
      have hfz19_3 := qd0 BK147.out 3
      have hfz19_4 := qd0 BK147.out 4
      go_wp2_with (first | ((with_reducible refine qm0 (f := 66) rfl ?_); refine qw0 (some 22) rfl rfl Try.func66 (by kernel_rfl) rfl #[.string ((rd_T123 l0 x16_1).f0)] rfl (by (try simp only [List.map_toArray, List.map_cons, List.map_nil]); first | done | rfl | (simp only [List.length_drop, List.length_take]; rfl)) ?_; (with_reducible refine (impl_NameOk.calls k1 ((rd_T123 l0 x16_1).f0) true _ A11.out).mono ?_); rintro e w' ⟨rfl, ⟨nd, rfl⟩⟩; refine ⟨_, rfl, ?_⟩) | ((with_reducible refine qr0 (N := 28) rfl ?_); (try (refine gate_guard (by rfl) ?_; dsimp only)); refine Kd.Z_look_op (base := w.heap.size) (ok := fun _ => True) kz95 95 rfl rfl _ _ 95 rfl kz95_K kz95_inj kz95_t false kz95_z mb145 x3_1 ((rd_T123 l0 x16_1).f0) rfl rfl (kz95_key ((rd_T123 l0 x16_1).f0) LMc13.out) ?aO (.bool ((mget x3_1 ((rd_T123 l0 x16_1).f0)).getD false)) rfl ?_; (case aO => exact (by (with_reducible repeat (first | apply Kd.Z_alloc | apply Kd.Z_drewN | apply Kd.Z_drew)); exact (Kd.Z_mono (Kd.Z_far (p := ⟨gb147, 4, none⟩) (Kd.Z_far (p := ⟨gb147, 3, none⟩) (Kd.Z_far (p := ⟨gb147, 2, none⟩) (Kd.Z_far (p := ⟨gb147, 1, none⟩) (Kd.Z_far (p := ⟨gb147, 0, none⟩) (Kd.Z_types HO_3.out BK147.out (by decide)) (fun _ hk => hk.2) (.string ((rd_T123 l0 x16_1).f0))) (fun _ hk => hk.2) (.slice A146_1 ((rd_T123 l0 x16_1).f1).length c146_1)) (fun _ hk => hk.2) (.int .i64 ((rd_T123 l0 x16_1).f2))) (fun _ hk => hk.2) (.string ((rd_T123 l0 x16_1).f3))) (fun _ hk => hk.2) (.bool ((rd_T123 l0 x16_1).f4))) (fun _ h_ => h_.1))))) | (go_at_call 112; (with_reducible refine (impl_money.calls ((rd_T123 l0 x16_1).f2) t149 _ A18.out).mono ?_); rintro e w' ⟨rfl, ⟨nd, rfl⟩⟩))
      go_meet
      case rel => exact ⟨_, (!t149), (by first | rfl | (simp; done) | (simp [*]; done)), H', ⟨by have := HK1.out; first | omega | exact Nat.le_refl _⟩, ⟨by (with_reducible repeat (first | apply Kd.Z_alloc | apply Kd.Z_drewN | apply Kd.Z_drew)); exact Kd.Z_mono (Kd.Z_far (p := ⟨gb147, 4, none⟩) (Kd.Z_far (p := ⟨gb147, 3, none⟩) (Kd.Z_far (p := ⟨gb147, 2, none⟩) (Kd.Z_far (p := ⟨gb147, 1, none⟩) (Kd.Z_far (p := ⟨gb147, 0, none⟩) (Kd.Z_types HO_3.out BK147.out (by decide)) (fun _ hk => hk.2) (.string ((rd_T123 l0 x16_1).f0))) (fun _ hk => hk.2) (.slice A146_1 ((rd_T123 l0 x16_1).f1).length c146_1)) (fun _ hk => hk.2) (.int .i64 ((rd_T123 l0 x16_1).f2))) (fun _ hk => hk.2) (.string ((rd_T123 l0 x16_1).f3))) (fun _ hk => hk.2) (.bool ((rd_T123 l0 x16_1).f4))) (fun _ hk => trivial)⟩, ⟨by (with_reducible repeat (first | refine qg0 ?_ _ | refine qj0 ?_ | refine qh0 ?_ _)); refine qp0 (cs := #[.string ((rd_T123 l0 x16_1).f0), .slice A146_1 ((rd_T123 l0 x16_1).f1).length c146_1, .int .i64 ((rd_T123 l0 x16_1).f2), .string ((rd_T123 l0 x16_1).f3), .bool false]) ?_ 4 _ rfl; (with_reducible repeat (first | refine qg0 ?_ _ | refine qj0 ?_ | refine qh0 ?_ _)); refine qp0 (cs := #[.string ((rd_T123 l0 x16_1).f0), .slice A146_1 ((rd_T123 l0 x16_1).f1).length c146_1, .int .i64 ((rd_T123 l0 x16_1).f2), .string (⟨#[]⟩ : ByteArray), .bool false]) ?_ 3 _ rfl; (with_reducible repeat (first | refine qg0 ?_ _ | refine qj0 ?_ | refine qh0 ?_ _)); refine qp0 (cs := #[.string ((rd_T123 l0 x16_1).f0), .slice A146_1 ((rd_T123 l0 x16_1).f1).length c146_1, .int .i64 0, .string (⟨#[]⟩ : ByteArray), .bool false]) ?_ 2 _ rfl; (with_reducible repeat (first | refine qg0 ?_ _ | refine qj0 ?_ | refine qh0 ?_ _)); refine qp0 (cs := #[.string ((rd_T123 l0 x16_1).f0), .slice none 0 0, .int .i64 0, .string (⟨#[]⟩ : ByteArray), .bool false]) ?_ 1 _ rfl; (with_reducible repeat (first | refine qg0 ?_ _ | refine qj0 ?_ | refine qh0 ?_ _)); refine qp0 (cs := #[.string (⟨#[]⟩ : ByteArray), .slice none 0 0, .int .i64 0, .string (⟨#[]⟩ : ByteArray), .bool false]) ?_ 0 _ rfl; (with_reducible repeat (first | refine qg0 ?_ _ | refine qj0 ?_ | refine qh0 ?_ _)); exact BK147.out⟩, ⟨by repeat (first | (with_reducible first | exact HB.out | apply qb0 | apply qa0 | apply qc0 | refine qi0 ?_ GE147.out) | exact HB.out)⟩⟩
     replace c12 := Bool.eq_false_iff.mpr c12
     subst c12
     have H1 : (impl_PeopleOk.j1 k1 l0 x3_1 l0 (l0.length : Int) x16_1 true ((rd_T123 l0 x16_1).f0) ((rd_T123 l0 x16_1).f1) ((rd_T123 l0 x16_1).f2) ((rd_T123 l0 x16_1).f3) ((rd_T123 l0 x16_1).f4)) = some r := by rw [if_neg (show ¬ (false = true) by decide)] at H; exact H
     clear H
     have H := H1
     clear H1
     have H' := Aside0.mk H
     clear H
     have hcz20_0 : w9.cell? ⟨gb147, 0, none⟩ = some (.string (⟨#[]⟩ : ByteArray)) := (qe0 BK147.out 0).trans rfl
     have hcz20_1 : w9.cell? ⟨gb147, 1, none⟩ = some (.slice none 0 0) := (qe0 BK147.out 1).trans rfl
     have hcz20_2 : w9.cell? ⟨gb147, 2, none⟩ = some (.int .i64 0) := (qe0 BK147.out 2).trans rfl
     have hcz20_3 : w9.cell? ⟨gb147, 3, none⟩ = some (.string (⟨#[]⟩ : ByteArray)) := (qe0 BK147.out 3).trans rfl
     have hcz20_4 : w9.cell? ⟨gb147, 4, none⟩ = some (.bool false) := (qe0 BK147.out 4).trans rfl
     have hfz20_0 := qd0 BK147.out 0
     have hfz20_1 := qd0 BK147.out 1
     have hfz20_2 := qd0 BK147.out 2
     have hfz20_3 := qd0 BK147.out 3
     have hfz20_4 := qd0 BK147.out 4
     go_wp2_with (first | ((with_reducible refine qm0 (f := 66) rfl ?_); refine qw0 (some 22) rfl rfl Try.func66 (by kernel_rfl) rfl #[.string ((rd_T123 l0 x16_1).f0)] rfl (by (try simp only [List.map_toArray, List.map_cons, List.map_nil]); first | done | rfl | (simp only [List.length_drop, List.length_take]; rfl)) ?_; (with_reducible refine (impl_NameOk.calls k1 ((rd_T123 l0 x16_1).f0) false _ A11.out).mono ?_); rintro e w' ⟨rfl, ⟨nd, rfl⟩⟩; refine ⟨_, rfl, ?_⟩))
     go_meet
     case rel => exact ⟨_, (true), (by first | rfl | (simp; done) | (simp [*]; done)), H', ⟨by have := HK1.out; first | omega | exact Nat.le_refl _⟩, ⟨by (with_reducible repeat (first | apply Kd.Z_alloc | apply Kd.Z_drewN | apply Kd.Z_drew)); exact Kd.Z_mono (Kd.Z_far (p := ⟨gb147, 4, none⟩) (Kd.Z_far (p := ⟨gb147, 3, none⟩) (Kd.Z_far (p := ⟨gb147, 2, none⟩) (Kd.Z_far (p := ⟨gb147, 1, none⟩) (Kd.Z_far (p := ⟨gb147, 0, none⟩) (Kd.Z_types HO_3.out BK147.out (by decide)) (fun _ hk => hk.2) (.string ((rd_T123 l0 x16_1).f0))) (fun _ hk => hk.2) (.slice A146_1 ((rd_T123 l0 x16_1).f1).length c146_1)) (fun _ hk => hk.2) (.int .i64 ((rd_T123 l0 x16_1).f2))) (fun _ hk => hk.2) (.string ((rd_T123 l0 x16_1).f3))) (fun _ hk => hk.2) (.bool ((rd_T123 l0 x16_1).f4))) (fun _ hk => trivial)⟩, ⟨by (with_reducible repeat (first | refine qg0 ?_ _ | refine qj0 ?_ | refine qh0 ?_ _)); refine qp0 (cs := #[.string ((rd_T123 l0 x16_1).f0), .slice A146_1 ((rd_T123 l0 x16_1).f1).length c146_1, .int .i64 ((rd_T123 l0 x16_1).f2), .string ((rd_T123 l0 x16_1).f3), .bool false]) ?_ 4 _ rfl; (with_reducible repeat (first | refine qg0 ?_ _ | refine qj0 ?_ | refine qh0 ?_ _)); refine qp0 (cs := #[.string ((rd_T123 l0 x16_1).f0), .slice A146_1 ((rd_T123 l0 x16_1).f1).length c146_1, .int .i64 ((rd_T123 l0 x16_1).f2), .string (⟨#[]⟩ : ByteArray), .bool false]) ?_ 3 _ rfl; (with_reducible repeat (first | refine qg0 ?_ _ | refine qj0 ?_ | refine qh0 ?_ _)); refine qp0 (cs := #[.string ((rd_T123 l0 x16_1).f0), .slice A146_1 ((rd_T123 l0 x16_1).f1).length c146_1, .int .i64 0, .string (⟨#[]⟩ : ByteArray), .bool false]) ?_ 2 _ rfl; (with_reducible repeat (first | refine qg0 ?_ _ | refine qj0 ?_ | refine qh0 ?_ _)); refine qp0 (cs := #[.string ((rd_T123 l0 x16_1).f0), .slice none 0 0, .int .i64 0, .string (⟨#[]⟩ : ByteArray), .bool false]) ?_ 1 _ rfl; (with_reducible repeat (first | refine qg0 ?_ _ | refine qj0 ?_ | refine qh0 ?_ _)); refine qp0 (cs := #[.string (⟨#[]⟩ : ByteArray), .slice none 0 0, .int .i64 0, .string (⟨#[]⟩ : ByteArray), .bool false]) ?_ 0 _ rfl; (with_reducible repeat (first | refine qg0 ?_ _ | refine qj0 ?_ | refine qh0 ?_ _)); exact BK147.out⟩, ⟨by repeat (first | (with_reducible first | exact HB.out | apply qb0 | apply qa0 | apply qc0 | refine qi0 ?_ GE147.out) | exact HB.out)⟩⟩
    case rest =>
     clear HC8
     try clear c1
     try clear p1
     try clear q1
     try clear hx1
     try clear c2
     try clear c2b0
     try clear c2b1
     try clear p2
     try clear c5
     try clear c5b0
     try clear c6
     try clear c6b0
     try clear c7
     try clear c7b0
     try clear c8
     try clear c12
     try clear c13
     try clear c14
     try clear c14b0
     try clear p14
     try clear q14
     try clear hx14
     try clear c16
     try clear c16b0
     try clear c16b1
     try clear hcz10_0
     try clear hcz10_1
     try clear hcz10_2
     try clear hcz10_3
     try clear hcz10_4
     try clear hcz15_0
     try clear hcz15_1
     try clear hcz15_2
     try clear hcz15_3
     try clear hcz15_4
     try clear hcz17_0
     try clear hcz17_1
     try clear hcz17_2
     try clear hcz17_3
     try clear hcz17_4
     try clear hcz19_0
     try clear hcz19_1
     try clear hcz19_2
     try clear hcz19_3
     try clear hcz19_4
     try clear hcz20_0
     try clear hcz20_1
     try clear hcz20_2
     try clear hcz20_3
     try clear hcz20_4
     try clear hfz10_0
     try clear hfz10_1
     try clear hfz10_2
     try clear hfz10_3
     try clear hfz10_4
     try clear hfz15_0
     try clear hfz15_1
     try clear hfz15_2
     try clear hfz15_3
     try clear hfz15_4
     try clear hfz17_0
     try clear hfz17_1
     try clear hfz17_2
     try clear hfz17_3
     try clear hfz17_4
     try clear hfz19_0
     try clear hfz19_1
     try clear hfz19_2
     try clear hfz19_3
     try clear hfz19_4
     try clear hfz20_0
     try clear hfz20_1
     try clear hfz20_2
     try clear hfz20_3
     try clear hfz20_4
     try clear hx146_0
     try clear hx146_1
     try clear hx146_2
     try clear hx146_3
     try clear hx146_4
     try clear p146
     try clear p2
     try clear q146
     obtain ⟨kq, x41_7, rfl, HA, HJ7, HO_3, BK147, HB⟩ := hcut
     cases kq with
     | zero => exact absurd HA.out (by simp [impl_PeopleOk.j1])
     | succ kj7 =>
      have H := HA.out
      clear HA
      simp only [impl_PeopleOk.j1] at H
      by_cases c21 : x41_7 = true
      ·subst c21
       have H1 : (some false) = some r := by rw [if_pos rfl] at H; exact H
       clear H
       have H := H1
       clear H1
       obtain rfl := Option.some.inj H
       go_wp2
       go_ret
       exact ⟨by first | rfl | (simp [errW_none, errW_some] <;> rfl) | (simp [*, errW_none, errW_some] <;> rfl), by repeat (first | (with_reducible first | exact HB.out | apply qb0 | apply qa0 | apply qc0 | refine qi0 ?_ GE147.out) | exact HB.out)⟩
      replace c21 := Bool.eq_false_iff.mpr c21
      subst c21
      have H1 : (impl_PeopleOk.l1 kj7 l0 x3_1 l0 (l0.length : Int) x16_1 ((rd_T123 l0 x16_1).f1) (((rd_T123 l0 x16_1).f1).length : Int) 0 ((rd_T123 l0 x16_1).f0) ((rd_T123 l0 x16_1).f1) ((rd_T123 l0 x16_1).f2) ((rd_T123 l0 x16_1).f3) ((rd_T123 l0 x16_1).f4)) = some r := by rw [if_neg (show ¬ (false = true) by decide)] at H; exact H
      clear H
      have H := H1
      clear H1
      have H' := Aside0.mk H
      clear H
      have hcz22_0 : wc.cell? ⟨gb147, 0, none⟩ = some (.string ((rd_T123 l0 x16_1).f0)) := (qe0 BK147.out 0).trans rfl
      have hcz22_1 : wc.cell? ⟨gb147, 1, none⟩ = some (.slice A146_1 ((rd_T123 l0 x16_1).f1).length c146_1) := (qe0 BK147.out 1).trans rfl
      have hcz22_2 : wc.cell? ⟨gb147, 2, none⟩ = some (.int .i64 ((rd_T123 l0 x16_1).f2)) := (qe0 BK147.out 2).trans rfl
      have hcz22_3 : wc.cell? ⟨gb147, 3, none⟩ = some (.string ((rd_T123 l0 x16_1).f3)) := (qe0 BK147.out 3).trans rfl
      have hcz22_4 : wc.cell? ⟨gb147, 4, none⟩ = some (.bool ((rd_T123 l0 x16_1).f4)) := (qe0 BK147.out 4).trans rfl
      have hfz22_0 := qd0 BK147.out 0
      have hfz22_1 := qd0 BK147.out 1
      have hfz22_2 := qd0 BK147.out 2
      have hfz22_3 := qd0 BK147.out 3
      have hfz22_4 := qd0 BK147.out 4
      go_wp2
      go_loopg [45] kj7 (fun kq v45 w' => ∃ (x45_3 : Int), v45 = .int .i64 x45_3 ∧ Aside0 (impl_PeopleOk.l1 kq l0 x3_1 l0 (l0.length : Int) x16_1 ((rd_T123 l0 x16_1).f1) (((rd_T123 l0 x16_1).f1).length : Int) x45_3 ((rd_T123 l0 x16_1).f0) ((rd_T123 l0 x16_1).f1) ((rd_T123 l0 x16_1).f2) ((rd_T123 l0 x16_1).f3) ((rd_T123 l0 x16_1).f4) = some r) ∧ Aside0 (kq ≤ kj7) ∧ Aside0 (Kd.Z kz95 95 w' w.heap.size (fun _ => True) (.map (some mb145)) x3_1) ∧ Aside0 (w'.heap[gb147]? = some (.cells #[.string ((rd_T123 l0 x16_1).f0), (.slice A146_1 ((rd_T123 l0 x16_1).f1).length c146_1), .int .i64 ((rd_T123 l0 x16_1).f2), .string ((rd_T123 l0 x16_1).f3), .bool ((rd_T123 l0 x16_1).f4)] 123 (0, 0))) ∧ Aside0 (Below w.heap.size w w'))
      case atStart => exact ⟨(0), (by first | rfl | (simp; done) | (simp [*]; done)), H', ⟨Nat.le_refl _⟩, ⟨by (with_reducible repeat (first | apply Kd.Z_alloc | apply Kd.Z_drewN | apply Kd.Z_drew)); exact HO_3.out⟩, ⟨by (with_reducible repeat (first | refine qg0 ?_ _ | refine qj0 ?_ | refine qh0 ?_ _)); exact BK147.out⟩, ⟨by repeat (first | (with_reducible first | exact HB.out | apply qb0 | apply qa0 | apply qc0 | refine qi0 ?_ GE147.out) | exact HB.out)⟩⟩
      case round =>
       clear H'
       try clear c1
       try clear p1
       try clear q1
       try clear hx1
       try clear c2
       try clear c2b0
       try clear c2b1
       try clear p2
       try clear c5
       try clear c5b0
       try clear c6
       try clear c6b0
       try clear c7
       try clear c7b0
       try clear c8
       try clear c12
       try clear c13
       try clear c14
       try clear c14b0
       try clear p14
       try clear q14
       try clear hx14
       try clear c16
       try clear c16b0
       try clear c16b1
       try clear c21
       try clear hcz10_0
       try clear hcz10_1
       try clear hcz10_2
       try clear hcz10_3
       try clear hcz10_4
       try clear hcz15_0
       try clear hcz15_1
       try clear hcz15_2
       try clear hcz15_3
       try clear hcz15_4
       try clear hcz17_0
       try clear hcz17_1
       try clear hcz17_2
       try clear hcz17_3
       try clear hcz17_4
       try clear hcz19_0
       try clear hcz19_1
       try clear hcz19_2
       try clear hcz19_3
       try clear hcz19_4
       try clear hcz20_0
       try clear hcz20_1
       try clear hcz20_2
       try clear hcz20_3
       try clear hcz20_4
       try clear hcz22_0
       try clear hcz22_1
       try clear hcz22_2
       try clear hcz22_3
       try clear hcz22_4
       try clear hfz10_0
       try clear hfz10_1
       try clear hfz10_2
       try clear hfz10_3
       try clear hfz10_4
       try clear hfz15_0
       try clear hfz15_1
       try clear hfz15_2
       try clear hfz15_3
       try clear hfz15_4
       try clear hfz17_0
       try clear hfz17_1
       try clear hfz17_2
       try clear hfz17_3
       try clear hfz17_4
       try clear hfz19_0
       try clear hfz19_1
       try clear hfz19_2
       try clear hfz19_3
       try clear hfz19_4
       try clear hfz20_0
       try clear hfz20_1
       try clear hfz20_2
       try clear hfz20_3
       try clear hfz20_4
       try clear hfz22_0
       try clear hfz22_1
       try clear hfz22_2
       try clear hfz22_3
       try clear hfz22_4
       try clear hx146_0
       try clear hx146_1
       try clear hx146_2
       try clear hx146_3
       try clear hx146_4
       try clear p1
       try clear p14
       try clear p146
       try clear p2
       try clear q1
       try clear q14
       try clear q146
       obtain ⟨x45_3, rfl, HA, HK3, HO_3, BK147, HB⟩ := hrel
       cases gk with
       | zero => exact absurd HA.out (by simp [impl_PeopleOk.l1])
       | succ k3 =>
        have H := HA.out
        clear HA
        simp only [impl_PeopleOk.l1] at H
        by_cases c23 : x45_3 < (((rd_T123 l0 x16_1).f1).length : Int)
        ·rw [if_pos c23] at H
         have c23b0 : decide (x45_3 < (((rd_T123 l0 x16_1).f1).length : Int)) = true := decide_eq_true c23
         clear c23
         by_cases c24 : 0 ≤ x45_3
         case neg => rw [if_neg c24] at H; exact absurd H (by simp)
         rw [if_pos c24] at H
         have c24b0 : decide (0 ≤ x45_3) = true := decide_eq_true c24
         clear c24
         by_cases c25 : x45_3 < (((rd_T123 l0 x16_1).f1).length : Int)
         case neg => rw [if_neg c25] at H; exact absurd H (by simp)
         rw [if_pos c25] at H
         have c25b0 : decide (x45_3 < (((rd_T123 l0 x16_1).f1).length : Int)) = true := decide_eq_true c25
         clear c25
         replace H := Option.bind_eq_some_iff.mp H
         obtain ⟨t151, A260, H⟩ := H
         replace H : (if t151 = true then (impl_PeopleOk.l1 k3 l0 x3_1 l0 (l0.length : Int) x16_1 ((rd_T123 l0 x16_1).f1) (((rd_T123 l0 x16_1).f1).length : Int) (wrap64 (x45_3 + 1)) ((rd_T123 l0 x16_1).f0) ((rd_T123 l0 x16_1).f1) ((rd_T123 l0 x16_1).f2) ((rd_T123 l0 x16_1).f3) ((rd_T123 l0 x16_1).f4)) else (some false)) = some r := H
         have A26 := Aside0.mk A260
         clear A260
         by_cases c27 : t151 = true
         ·subst c27
          have H1 : (impl_PeopleOk.l1 k3 l0 x3_1 l0 (l0.length : Int) x16_1 ((rd_T123 l0 x16_1).f1) (((rd_T123 l0 x16_1).f1).length : Int) (wrap64 (x45_3 + 1)) ((rd_T123 l0 x16_1).f0) ((rd_T123 l0 x16_1).f1) ((rd_T123 l0 x16_1).f2) ((rd_T123 l0 x16_1).f3) ((rd_T123 l0 x16_1).f4)) = some r := by rw [if_pos rfl] at H; exact H
          clear H
          have H := H1
          clear H1
          have H' := Aside0.mk H
          clear H
          have p150 : 0 ≤ (x45_3 : Int) := of_decide_eq_true (by first | (with_reducible assumption) | assumption)
          have q150 : x45_3 < (((rd_T123 l0 x16_1).f1).length : Int) := of_decide_eq_true (by first | (with_reducible assumption) | assumption)
          obtain ⟨ad150, e150, hx150_0⟩ := Kd.at_string HR146_1.out x45_3 p150 q150
          cases e150
          replace hx150_0 := (HB.out.cell (World.block_lt_of_cell? w _ hx150_0)).trans hx150_0
          replace p150 := eq_true p150
          replace q150 := eq_true q150
          go_wp2_with (first | ((with_reducible refine qm0 (f := 66) rfl ?_); refine qw0 (some 50) rfl rfl Try.func66 (by kernel_rfl) rfl #[.string (rdOf ByteArray.empty ((rd_T123 l0 x16_1).f1) x45_3)] rfl (by (try simp only [List.map_toArray, List.map_cons, List.map_nil]); first | done | rfl | (simp only [List.length_drop, List.length_take]; rfl)) ?_; (with_reducible refine (impl_NameOk.calls k3 (rdOf ByteArray.empty ((rd_T123 l0 x16_1).f1) x45_3) true _ A26.out).mono ?_); rintro e w' ⟨rfl, ⟨nd, rfl⟩⟩; refine ⟨_, rfl, ?_⟩))
          go_roundg k3
          case measure => have := HK1.out; have := HJ7.out; have := HK3.out; omega
          case rel => exact ⟨(wrap64 (x45_3 + 1)), (by first | rfl | (simp; done) | (simp [*]; done)), H', ⟨by have := HK1.out; have := HJ7.out; have := HK3.out; omega⟩, ⟨by (with_reducible repeat (first | apply Kd.Z_alloc | apply Kd.Z_drewN | apply Kd.Z_drew)); exact HO_3.out⟩, ⟨by (with_reducible repeat (first | refine qg0 ?_ _ | refine qj0 ?_ | refine qh0 ?_ _)); exact BK147.out⟩, ⟨by repeat (first | (with_reducible first | exact HB.out | apply qb0 | apply qa0 | apply qc0 | refine qi0 ?_ GE147.out) | exact HB.out)⟩⟩
         replace c27 := Bool.eq_false_iff.mpr c27
         subst c27
         have H1 : (some false) = some r := by rw [if_neg (show ¬ (false = true) by decide)] at H; exact H
         clear H
         have H := H1
         clear H1
         obtain rfl := Option.some.inj H
         have p150 : 0 ≤ (x45_3 : Int) := of_decide_eq_true (by first | (with_reducible assumption) | assumption)
         have q150 : x45_3 < (((rd_T123 l0 x16_1).f1).length : Int) := of_decide_eq_true (by first | (with_reducible assumption) | assumption)
         obtain ⟨ad150, e150, hx150_0⟩ := Kd.at_string HR146_1.out x45_3 p150 q150
         cases e150
         replace hx150_0 := (HB.out.cell (World.block_lt_of_cell? w _ hx150_0)).trans hx150_0
         replace p150 := eq_true p150
         replace q150 := eq_true q150
         go_wp2_with (first | ((with_reducible refine qm0 (f := 66) rfl ?_); refine qw0 (some 50) rfl rfl Try.func66 (by kernel_rfl) rfl #[.string (rdOf ByteArray.empty ((rd_T123 l0 x16_1).f1) x45_3)] rfl (by (try simp only [List.map_toArray, List.map_cons, List.map_nil]); first | done | rfl | (simp only [List.length_drop, List.length_take]; rfl)) ?_; (with_reducible refine (impl_NameOk.calls k3 (rdOf ByteArray.empty ((rd_T123 l0 x16_1).f1) x45_3) false _ A26.out).mono ?_); rintro e w' ⟨rfl, ⟨nd, rfl⟩⟩; refine ⟨_, rfl, ?_⟩))
         go_ret
         exact ⟨by first | rfl | (simp [errW_none, errW_some] <;> rfl) | (simp [*, errW_none, errW_some] <;> rfl), by repeat (first | (with_reducible first | exact HB.out | apply qb0 | apply qa0 | apply qc0 | refine qi0 ?_ GE147.out) | exact HB.out)⟩
        rw [if_neg c23] at H
        have c23b0 : decide (x45_3 < (((rd_T123 l0 x16_1).f1).length : Int)) = false := decide_eq_false c23
        clear c23
        by_cases c28 : ((rd_T123 l0 x16_1).f0).size ≤ 9223372036854775807
        case neg => rw [if_neg c28] at H; exact absurd H (by simp)
        rw [if_pos c28] at H
        have LMc28 := Aside0.mk c28
        clear c28
        obtain ⟨y152, hy152⟩ : ∃ y_ : List (ByteArray × Bool), y_ = (mset x3_1 ((rd_T123 l0 x16_1).f0) true) := ⟨_, rfl⟩
        replace H : (impl_PeopleOk.l0 k3 l0 y152 l0 (l0.length : Int) (wrap64 (x16_1 + 1))) = some r := by first | (rw [hy152]; with_reducible exact H) | (have H2_ := (Option.bind_some _ _).symm.trans H; rw [hy152]; with_reducible exact H2_) | (have H2_ := (Option.bind_some _ _).symm.trans H; with_reducible exact H2_) | with_reducible exact H | (rw [hy152]; exact H) | exact H
        have Ny152 := Aside0.mk hy152
        clear hy152
        have H' := Aside0.mk H
        clear H
        have hcz29_0 : wr.cell? ⟨gb147, 0, none⟩ = some (.string ((rd_T123 l0 x16_1).f0)) := (qe0 BK147.out 0).trans rfl
        have hcz29_1 : wr.cell? ⟨gb147, 1, none⟩ = some (.slice A146_1 ((rd_T123 l0 x16_1).f1).length c146_1) := (qe0 BK147.out 1).trans rfl
        have hcz29_2 : wr.cell? ⟨gb147, 2, none⟩ = some (.int .i64 ((rd_T123 l0 x16_1).f2)) := (qe0 BK147.out 2).trans rfl
        have hcz29_3 : wr.cell? ⟨gb147, 3, none⟩ = some (.string ((rd_T123 l0 x16_1).f3)) := (qe0 BK147.out 3).trans rfl
        have hcz29_4 : wr.cell? ⟨gb147, 4, none⟩ = some (.bool ((rd_T123 l0 x16_1).f4)) := (qe0 BK147.out 4).trans rfl
        have hfz29_0 := qd0 BK147.out 0
        have hfz29_1 := qd0 BK147.out 1
        have hfz29_2 := qd0 BK147.out 2
        have hfz29_3 := qd0 BK147.out 3
        have hfz29_4 := qd0 BK147.out 4
        go_wp2_with (first | ((with_reducible refine gate_mapset (t := 95) rfl ?_); refine Kd.Z_set_op (base := w.heap.size) (ok := fun _ => True) kz95 95 rfl rfl _ _ _ 95 rfl rfl kz95_K kz95_inj kz95_t mb145 x3_1 ((rd_T123 l0 x16_1).f0) true rfl rfl rfl (kz95_key ((rd_T123 l0 x16_1).f0) LMc28.out) ?aO ?_; (case aO => exact (by (with_reducible repeat (first | apply Kd.Z_alloc | apply Kd.Z_drewN | apply Kd.Z_drew)); exact HO_3.out)); intro w30 ho_ hg hbb_ hz_; rw [← Ny152.out] at ho_; have n0_ := Aside0.mk (ho_); have n1_ := Aside0.mk (blk_grown (g := gb147) (o := .cells #[.string ((rd_T123 l0 x16_1).f0), .slice A146_1 ((rd_T123 l0 x16_1).f1).length c146_1, .int .i64 ((rd_T123 l0 x16_1).f2), .string ((rd_T123 l0 x16_1).f3), .bool ((rd_T123 l0 x16_1).f4)] 123 (0, 0)) (by (with_reducible repeat (first | refine qg0 ?_ _ | refine qj0 ?_ | refine qh0 ?_ _)); exact BK147.out) hg (blk_neZ (by (with_reducible repeat (first | refine qg0 ?_ _ | refine qj0 ?_ | refine qh0 ?_ _)); exact BK147.out) hz_)); have n2_ := Aside0.mk (pw_below_grown (by repeat (first | (with_reducible first | exact HB.out | apply qb0 | apply qa0 | apply qc0 | refine qi0 ?_ GE147.out) | exact HB.out)) (some mb145) (qk0 (by repeat (first | (with_reducible first | exact HB.out | apply qb0 | apply qa0 | apply qc0 | refine qi0 ?_ GE147.out) | exact HB.out))) hg (fun k_ e_ => by cases e_; exact hbb_)); clear HO_3; clear BK147; clear HB; have HO_3 := n0_; have BK147 := n1_; have HB := n2_; clear n0_ n1_ n2_; clear ho_ hg hbb_ hz_))
        go_roundg k3
        case measure => have := HK1.out; have := HJ7.out; have := HK3.out; omega
        case rel => exact ⟨(y152), (wrap64 (x16_1 + 1)), (by first | rfl | (simp; done) | (simp [*]; done)), H', ⟨by have := HK1.out; have := HJ7.out; have := HK3.out; omega⟩, ⟨by (with_reducible repeat (first | apply Kd.Z_alloc | apply Kd.Z_drewN | apply Kd.Z_drew)); exact HO_3.out⟩, ⟨by repeat (first | (with_reducible first | exact HB.out | apply qb0 | apply qa0 | apply qc0 | refine qi0 ?_ GE147.out) | exact HB.out)⟩⟩
   rw [if_neg c5] at H
   have c5b0 : decide (x16_1 < (l0.length : Int)) = false := decide_eq_false c5
   clear c5
   have H' := Aside0.mk H
   clear H
   go_wp2
   go_loopg [59] k1 (fun kq v59 w' => ∃ (x59_2 : Int), v59 = .int .i64 x59_2 ∧ Aside0 (impl_PeopleOk.l2 kq x3_1 l0 (l0.length : Int) x59_2 = some r) ∧ Aside0 (kq ≤ k1) ∧ Aside0 (Kd.Z kz95 95 w' w.heap.size (fun _ => True) (.map (some mb145)) x3_1) ∧ Aside0 (Below w.heap.size w w'))
   case atStart => exact ⟨(0), (by first | rfl | (simp; done) | (simp [*]; done)), H', ⟨Nat.le_refl _⟩, ⟨by (with_reducible repeat (first | apply Kd.Z_alloc | apply Kd.Z_drewN | apply Kd.Z_drew)); exact HO_3.out⟩, ⟨by repeat (first | (with_reducible first | exact HB.out | apply qb0 | apply qa0 | apply qc0) | exact HB.out)⟩⟩
   case round =>
    clear H'
    try clear c1
    try clear p1
    try clear q1
    try clear hx1
    try clear c2
    try clear c2b0
    try clear c2b1
    try clear p2
    try clear c5
    try clear c5b0
    try clear c6
    try clear c6b0
    try clear p6
    try clear c7
    try clear c7b0
    try clear c8
    try clear c12
    try clear c13
    try clear c14
    try clear c14b0
    try clear p14
    try clear q14
    try clear hx14
    try clear p15
    try clear q15
    try clear hx15
    try clear c16
    try clear c16b0
    try clear c16b1
    try clear c21
    try clear c23
    try clear c23b0
    try clear c24
    try clear c24b0
    try clear c25
    try clear c25b0
    try clear c27
    try clear c28
    try clear hcz10_0
    try clear hcz10_1
    try clear hcz10_2
    try clear hcz10_3
    try clear hcz10_4
    try clear hcz15_0
    try clear hcz15_1
    try clear hcz15_2
    try clear hcz15_3
    try clear hcz15_4
    try clear hcz17_0
    try clear hcz17_1
    try clear hcz17_2
    try clear hcz17_3
    try clear hcz17_4
    try clear hcz19_0
    try clear hcz19_1
    try clear hcz19_2
    try clear hcz19_3
    try clear hcz19_4
    try clear hcz20_0
    try clear hcz20_1
    try clear hcz20_2
    try clear hcz20_3
    try clear hcz20_4
    try clear hcz22_0
    try clear hcz22_1
    try clear hcz22_2
    try clear hcz22_3
    try clear hcz22_4
    try clear hcz29_0
    try clear hcz29_1
    try clear hcz29_2
    try clear hcz29_3
    try clear hcz29_4
    try clear hfz10_0
    try clear hfz10_1
    try clear hfz10_2
    try clear hfz10_3
    try clear hfz10_4
    try clear hfz15_0
    try clear hfz15_1
    try clear hfz15_2
    try clear hfz15_3
    try clear hfz15_4
    try clear hfz17_0
    try clear hfz17_1
    try clear hfz17_2
    try clear hfz17_3
    try clear hfz17_4
    try clear hfz19_0
    try clear hfz19_1
    try clear hfz19_2
    try clear hfz19_3
    try clear hfz19_4
    try clear hfz20_0
    try clear hfz20_1
    try clear hfz20_2
    try clear hfz20_3
    try clear hfz20_4
    try clear hfz22_0
    try clear hfz22_1
    try clear hfz22_2
    try clear hfz22_3
    try clear hfz22_4
    try clear hfz29_0
    try clear hfz29_1
    try clear hfz29_2
    try clear hfz29_3
    try clear hfz29_4
    try clear hx146_0
    try clear hx146_1
    try clear hx146_2
    try clear hx146_3
    try clear hx146_4
    try clear hx150_0
    try clear p1
    try clear p14
    try clear p146
    try clear p150
    try clear p2
    try clear q1
    try clear q14
    try clear q146
    try clear q150
    obtain ⟨x59_2, rfl, HA, HK2, HO_3, HB⟩ := hrel
    cases gk with
    | zero => exact absurd HA.out (by simp [impl_PeopleOk.l2])
    | succ k2 =>
     have H := HA.out
     clear HA
     simp only [impl_PeopleOk.l2] at H
     by_cases c31 : x59_2 < (l0.length : Int)
     ·rw [if_pos c31] at H
      have c31b0 : decide (x59_2 < (l0.length : Int)) = true := decide_eq_true c31
      clear c31
      by_cases c32 : 0 ≤ x59_2
      case neg => rw [if_neg c32] at H; exact absurd H (by simp)
      rw [if_pos c32] at H
      have c32b0 : decide (0 ≤ x59_2) = true := decide_eq_true c32
      clear c32
      by_cases c33 : x59_2 < (l0.length : Int)
      case neg => rw [if_neg c33] at H; exact absurd H (by simp)
      rw [if_pos c33] at H
      have c33b0 : decide (x59_2 < (l0.length : Int)) = true := decide_eq_true c33
      clear c33
      by_cases c34 : ((rd_T123 l0 x59_2).f3).toList = ([] : List UInt8)
      ·rw [if_pos c34] at H
       have c34b0 : (((rd_T123 l0 x59_2).f3).toList == ([] : List UInt8)) = true := beq_iff_eq.mpr c34
       have c34b1 : (((rd_T123 l0 x59_2).f3).toList != ([] : List UInt8)) = false := bne_eq_false_iff_eq.mpr c34
       clear c34
       have H' := Aside0.mk H
       clear H
       have p153 : 0 ≤ (x59_2 : Int) := of_decide_eq_true (by first | (with_reducible assumption) | assumption)
       have q153 : x59_2 < (l0.length : Int) := of_decide_eq_true (by first | (with_reducible assumption) | assumption)
       obtain ⟨ad153, A153_1, c153_1, e153, hx153_0, hx153_1, hx153_2, hx153_3, hx153_4, hl153_1, hi153_1⟩ := at_T123 HR0.out x59_2 p153 q153
       cases e153
       replace hx153_0 := (HB.out.cell (World.block_lt_of_cell? w _ hx153_0)).trans hx153_0
       replace hx153_1 := (HB.out.cell (World.block_lt_of_cell? w _ hx153_1)).trans hx153_1
       replace hx153_2 := (HB.out.cell (World.block_lt_of_cell? w _ hx153_2)).trans hx153_2
       replace hx153_3 := (HB.out.cell (World.block_lt_of_cell? w _ hx153_3)).trans hx153_3
       replace hx153_4 := (HB.out.cell (World.block_lt_of_cell? w _ hx153_4)).trans hx153_4
       have HR153_1 := Aside0.mk hi153_1
       have HC153_1 := Aside0.mk hl153_1
       clear hi153_1 hl153_1
       replace p153 := eq_true p153
       replace q153 := eq_true q153
       go_wp2_with (first | ((with_reducible refine qr0 (N := 9) rfl ?_); (try (refine gate_guard (by rfl) ?_; dsimp only)); refine qv0 ?hg (N := 9) ?hd (cs := #[.string (⟨#[]⟩ : ByteArray), .slice none 0 0, .int .i64 0, .string (⟨#[]⟩ : ByteArray), .bool false]) (t := 123) ?hr ?_; (case hd => rfl); (case hg => rfl); (case hr => first | (go_simp; done) | (go_simp; rfl)); intro gb154 hg w35 hbox hb; have n0_ := Aside0.mk (Kd.Z_below (by (with_reducible repeat (first | apply Kd.Z_alloc | apply Kd.Z_drewN | apply Kd.Z_drew)); exact HO_3.out) hb); have n1_ := Aside0.mk (ql0 (by repeat (first | (with_reducible first | exact HB.out | apply qb0 | apply qa0 | apply qc0) | exact HB.out)) hb); have n2_ := Aside0.mk (hbox); have n3_ := Aside0.mk ((by rw [hg]; exact (qk0 (by repeat (first | (with_reducible first | exact HB.out | apply qb0 | apply qa0 | apply qc0) | exact HB.out))) : w.heap.size ≤ gb154)); have n4_ := Aside0.mk ((by rw [hg]; exact (qk0 (by repeat (first | (with_reducible first | exact HB.out | apply qb0 | apply qa0 | apply qc0) | exact HB.out))) : w.heap.size ≤ gb154)); clear HO_3; clear HB; have HO_3 := n0_; have HB := n1_; have BK154 := n2_; have GW154 := n3_; have GE154 := n4_; clear n0_ n1_ n2_ n3_ n4_; clear hb hbox hg; have hcz36_0 : w35.cell? ⟨gb154, 0, none⟩ = some (.string (⟨#[]⟩ : ByteArray)) := (qe0 BK154.out 0).trans rfl; have hcz36_1 : w35.cell? ⟨gb154, 1, none⟩ = some (.slice none 0 0) := (qe0 BK154.out 1).trans rfl; have hcz36_2 : w35.cell? ⟨gb154, 2, none⟩ = some (.int .i64 0) := (qe0 BK154.out 2).trans rfl; have hcz36_3 : w35.cell? ⟨gb154, 3, none⟩ = some (.string (⟨#[]⟩ : ByteArray)) := (qe0 BK154.out 3).trans rfl; have hcz36_4 : w35.cell? ⟨gb154, 4, none⟩ = some (.bool false) := (qe0 BK154.out 4).trans rfl; have hfz36_0 := qd0 BK154.out 0; have hfz36_1 := qd0 BK154.out 1; have hfz36_2 := qd0 BK154.out 2; have hfz36_3 := qd0 BK154.out 3; have hfz36_4 := qd0 BK154.out 4))
       go_roundg k2
       case measure => have := HK1.out; have := HK2.out; omega
       case rel => exact ⟨(wrap64 (x59_2 + 1)), (by first | rfl | (simp; done) | (simp [*]; done)), H', ⟨by have := HK1.out; have := HK2.out; omega⟩, ⟨by (with_reducible repeat (first | apply Kd.Z_alloc | apply Kd.Z_drewN | apply Kd.Z_drew)); exact Kd.Z_mono (Kd.Z_far (p := ⟨gb154, 4, none⟩) (Kd.Z_far (p := ⟨gb154, 3, none⟩) (Kd.Z_far (p := ⟨gb154, 2, none⟩) (Kd.Z_far (p := ⟨gb154, 1, none⟩) (Kd.Z_far (p := ⟨gb154, 0, none⟩) (Kd.Z_types HO_3.out BK154.out (by decide)) (fun _ hk => hk.2) (.string ((rd_T123 l0 x59_2).f0))) (fun _ hk => hk.2) (.slice A153_1 ((rd_T123 l0 x59_2).f1).length c153_1)) (fun _ hk => hk.2) (.int .i64 ((rd_T123 l0 x59_2).f2))) (fun _ hk => hk.2) (.string ((rd_T123 l0 x59_2).f3))) (fun _ hk => hk.2) (.bool ((rd_T123 l0 x59_2).f4))) (fun _ hk => trivial)⟩, ⟨by repeat (first | (with_reducible first | exact HB.out | apply qb0 | apply qa0 | apply qc0 | refine qi0 ?_ GE154.out) | exact HB.out)⟩⟩
      rw [if_neg c34] at H
      have c34b0 : (((rd_T123 l0 x59_2).f3).toList == ([] : List UInt8)) = false := beq_eq_false_iff_ne.mpr c34
      have c34b1 : (((rd_T123 l0 x59_2).f3).toList != ([] : List UInt8)) = true := bne_iff_ne.mpr c34
      by_cases c37 : ((rd_T123 l0 x59_2).f3).toList = ((rd_T123 l0 x59_2).f0).toList
      ·rw [if_pos c37] at H
       have c37b0 : (((rd_T123 l0 x59_2).f3).toList == ((rd_T123 l0 x59_2).f0).toList) = true := beq_iff_eq.mpr c37
       have c37b1 : (((rd_T123 l0 x59_2).f3).toList != ((rd_T123 l0 x59_2).f0).toList) = false := bne_eq_false_iff_eq.mpr c37
       clear c37
       obtain rfl := Option.some.inj H
       have p153 : 0 ≤ (x59_2 : Int) := of_decide_eq_true (by first | (with_reducible assumption) | assumption)
       have q153 : x59_2 < (l0.length : Int) := of_decide_eq_true (by first | (with_reducible assumption) | assumption)
       obtain ⟨ad153, A153_1, c153_1, e153, hx153_0, hx153_1, hx153_2, hx153_3, hx153_4, hl153_1, hi153_1⟩ := at_T123 HR0.out x59_2 p153 q153
       cases e153
       replace hx153_0 := (HB.out.cell (World.block_lt_of_cell? w _ hx153_0)).trans hx153_0
       replace hx153_1 := (HB.out.cell (World.block_lt_of_cell? w _ hx153_1)).trans hx153_1
       replace hx153_2 := (HB.out.cell (World.block_lt_of_cell? w _ hx153_2)).trans hx153_2
       replace hx153_3 := (HB.out.cell (World.block_lt_of_cell? w _ hx153_3)).trans hx153_3
       replace hx153_4 := (HB.out.cell (World.block_lt_of_cell? w _ hx153_4)).trans hx153_4
       have HR153_1 := Aside0.mk hi153_1
       have HC153_1 := Aside0.mk hl153_1
       clear hi153_1 hl153_1
       replace p153 := eq_true p153
       replace q153 := eq_true q153
       go_wp2_with (first | ((with_reducible refine qr0 (N := 9) rfl ?_); (try (refine gate_guard (by rfl) ?_; dsimp only)); refine qv0 ?hg (N := 9) ?hd (cs := #[.string (⟨#[]⟩ : ByteArray), .slice none 0 0, .int .i64 0, .string (⟨#[]⟩ : ByteArray), .bool false]) (t := 123) ?hr ?_; (case hd => rfl); (case hg => rfl); (case hr => first | (go_simp; done) | (go_simp; rfl)); intro gb154 hg w38 hbox hb; have n0_ := Aside0.mk (Kd.Z_below (by (with_reducible repeat (first | apply Kd.Z_alloc | apply Kd.Z_drewN | apply Kd.Z_drew)); exact HO_3.out) hb); have n1_ := Aside0.mk (ql0 (by repeat (first | (with_reducible first | exact HB.out | apply qb0 | apply qa0 | apply qc0) | exact HB.out)) hb); have n2_ := Aside0.mk (hbox); have n3_ := Aside0.mk ((by rw [hg]; exact (qk0 (by repeat (first | (with_reducible first | exact HB.out | apply qb0 | apply qa0 | apply qc0) | exact HB.out))) : w.heap.size ≤ gb154)); have n4_ := Aside0.mk ((by rw [hg]; exact (qk0 (by repeat (first | (with_reducible first | exact HB.out | apply qb0 | apply qa0 | apply qc0) | exact HB.out))) : w.heap.size ≤ gb154)); clear HO_3; clear HB; have HO_3 := n0_; have HB := n1_; have BK154 := n2_; have GW154 := n3_; have GE154 := n4_; clear n0_ n1_ n2_ n3_ n4_; clear hb hbox hg; have hcz39_0 : w38.cell? ⟨gb154, 0, none⟩ = some (.string (⟨#[]⟩ : ByteArray)) := (qe0 BK154.out 0).trans rfl; have hcz39_1 : w38.cell? ⟨gb154, 1, none⟩ = some (.slice none 0 0) := (qe0 BK154.out 1).trans rfl; have hcz39_2 : w38.cell? ⟨gb154, 2, none⟩ = some (.int .i64 0) := (qe0 BK154.out 2).trans rfl; have hcz39_3 : w38.cell? ⟨gb154, 3, none⟩ = some (.string (⟨#[]⟩ : ByteArray)) := (qe0 BK154.out 3).trans rfl; have hcz39_4 : w38.cell? ⟨gb154, 4, none⟩ = some (.bool false) := (qe0 BK154.out 4).trans rfl; have hfz39_0 := qd0 BK154.out 0; have hfz39_1 := qd0 BK154.out 1; have hfz39_2 := qd0 BK154.out 2; have hfz39_3 := qd0 BK154.out 3; have hfz39_4 := qd0 BK154.out 4))
       go_ret
       exact ⟨by first | rfl | (simp [errW_none, errW_some] <;> rfl) | (simp [*, errW_none, errW_some] <;> rfl), by repeat (first | (with_reducible first | exact HB.out | apply qb0 | apply qa0 | apply qc0 | refine qi0 ?_ GE154.out) | exact HB.out)⟩
      rw [if_neg c37] at H
      have c37b0 : (((rd_T123 l0 x59_2).f3).toList == ((rd_T123 l0 x59_2).f0).toList) = false := beq_eq_false_iff_ne.mpr c37
      have c37b1 : (((rd_T123 l0 x59_2).f3).toList != ((rd_T123 l0 x59_2).f0).toList) = true := bne_iff_ne.mpr c37
      by_cases c40 : ((rd_T123 l0 x59_2).f3).size ≤ 9223372036854775807
      case neg => rw [if_neg c40] at H; exact absurd H (by simp)
      rw [if_pos c40] at H
      have LMc40 := Aside0.mk c40
      clear c40
      by_cases c41 : ((mget x3_1 ((rd_T123 l0 x59_2).f3)).getD false = true)
      ·rw [if_pos c41] at H
       have c41b0 : (mget x3_1 ((rd_T123 l0 x59_2).f3)).getD false = true := c41
       clear c41
       have H' := Aside0.mk H
       clear H
       have p153 : 0 ≤ (x59_2 : Int) := of_decide_eq_true (by first | (with_reducible assumption) | assumption)
       have q153 : x59_2 < (l0.length : Int) := of_decide_eq_true (by first | (with_reducible assumption) | assumption)
       obtain ⟨ad153, A153_1, c153_1, e153, hx153_0, hx153_1, hx153_2, hx153_3, hx153_4, hl153_1, hi153_1⟩ := at_T123 HR0.out x59_2 p153 q153
       cases e153
       replace hx153_0 := (HB.out.cell (World.block_lt_of_cell? w _ hx153_0)).trans hx153_0
       replace hx153_1 := (HB.out.cell (World.block_lt_of_cell? w _ hx153_1)).trans hx153_1
       replace hx153_2 := (HB.out.cell (World.block_lt_of_cell? w _ hx153_2)).trans hx153_2
       replace hx153_3 := (HB.out.cell (World.block_lt_of_cell? w _ hx153_3)).trans hx153_3
       replace hx153_4 := (HB.out.cell (World.block_lt_of_cell? w _ hx153_4)).trans hx153_4
       have HR153_1 := Aside0.mk hi153_1
       have HC153_1 := Aside0.mk hl153_1
       clear hi153_1 hl153_1
       replace p153 := eq_true p153
       replace q153 := eq_true q153
       go_wp2_with (first | ((with_reducible refine qr0 (N := 9) rfl ?_); (try (refine gate_guard (by rfl) ?_; dsimp only)); refine qv0 ?hg (N := 9) ?hd (cs := #[.string (⟨#[]⟩ : ByteArray), .slice none 0 0, .int .i64 0, .string (⟨#[]⟩ : ByteArray), .bool false]) (t := 123) ?hr ?_; (case hd => rfl); (case hg => rfl); (case hr => first | (go_simp; done) | (go_simp; rfl)); intro gb154 hg w42 hbox hb; have n0_ := Aside0.mk (Kd.Z_below (by (with_reducible repeat (first | apply Kd.Z_alloc | apply Kd.Z_drewN | apply Kd.Z_drew)); exact HO_3.out) hb); have n1_ := Aside0.mk (ql0 (by repeat (first | (with_reducible first | exact HB.out | apply qb0 | apply qa0 | apply qc0) | exact HB.out)) hb); have n2_ := Aside0.mk (hbox); have n3_ := Aside0.mk ((by rw [hg]; exact (qk0 (by repeat (first | (with_reducible first | exact HB.out | apply qb0 | apply qa0 | apply qc0) | exact HB.out))) : w.heap.size ≤ gb154)); have n4_ := Aside0.mk ((by rw [hg]; exact (qk0 (by repeat (first | (with_reducible first | exact HB.out | apply qb0 | apply qa0 | apply qc0) | exact HB.out))) : w.heap.size ≤ gb154)); clear HO_3; clear HB; have HO_3 := n0_; have HB := n1_; have BK154 := n2_; have GW154 := n3_; have GE154 := n4_; clear n0_ n1_ n2_ n3_ n4_; clear hb hbox hg; have hcz43_0 : w42.cell? ⟨gb154, 0, none⟩ = some (.string (⟨#[]⟩ : ByteArray)) := (qe0 BK154.out 0).trans rfl; have hcz43_1 : w42.cell? ⟨gb154, 1, none⟩ = some (.slice none 0 0) := (qe0 BK154.out 1).trans rfl; have hcz43_2 : w42.cell? ⟨gb154, 2, none⟩ = some (.int .i64 0) := (qe0 BK154.out 2).trans rfl; have hcz43_3 : w42.cell? ⟨gb154, 3, none⟩ = some (.string (⟨#[]⟩ : ByteArray)) := (qe0 BK154.out 3).trans rfl; have hcz43_4 : w42.cell? ⟨gb154, 4, none⟩ = some (.bool false) := (qe0 BK154.out 4).trans rfl; have hfz43_0 := qd0 BK154.out 0; have hfz43_1 := qd0 BK154.out 1; have hfz43_2 := qd0 BK154.out 2; have hfz43_3 := qd0 BK154.out 3; have hfz43_4 := qd0 BK154.out 4) | ((with_reducible refine qr0 (N := 76) rfl ?_); (try (refine gate_guard (by rfl) ?_; dsimp only)); refine Kd.Z_look_op (base := w.heap.size) (ok := fun _ => True) kz95 95 rfl rfl _ _ 95 rfl kz95_K kz95_inj kz95_t false kz95_z mb145 x3_1 ((rd_T123 l0 x59_2).f3) rfl rfl (kz95_key ((rd_T123 l0 x59_2).f3) LMc40.out) ?aO (.bool ((mget x3_1 ((rd_T123 l0 x59_2).f3)).getD false)) rfl ?_; (case aO => exact (by (with_reducible repeat (first | apply Kd.Z_alloc | apply Kd.Z_drewN | apply Kd.Z_drew)); exact (Kd.Z_mono (Kd.Z_far (p := ⟨gb154, 4, none⟩) (Kd.Z_far (p := ⟨gb154, 3, none⟩) (Kd.Z_far (p := ⟨gb154, 2, none⟩) (Kd.Z_far (p := ⟨gb154, 1, none⟩) (Kd.Z_far (p := ⟨gb154, 0, none⟩) (Kd.Z_types HO_3.out BK154.out (by decide)) (fun _ hk => hk.2) (.string ((rd_T123 l0 x59_2).f0))) (fun _ hk => hk.2) (.slice A153_1 ((rd_T123 l0 x59_2).f1).length c153_1)) (fun _ hk => hk.2) (.int .i64 ((rd_T123 l0 x59_2).f2))) (fun _ hk => hk.2) (.string ((rd_T123 l0 x59_2).f3))) (fun _ hk => hk.2) (.bool ((rd_T123 l0 x59_2).f4))) (fun _ h_ => h_.1))))))
       go_roundg k2
       case measure => have := HK1.out; have := HK2.out; omega
       case rel => exact ⟨(wrap64 (x59_2 + 1)), (by first | rfl | (simp; done) | (simp [*]; done)), H', ⟨by have := HK1.out; have := HK2.out; omega⟩, ⟨by (with_reducible repeat (first | apply Kd.Z_alloc | apply Kd.Z_drewN | apply Kd.Z_drew)); exact Kd.Z_mono (Kd.Z_far (p := ⟨gb154, 4, none⟩) (Kd.Z_far (p := ⟨gb154, 3, none⟩) (Kd.Z_far (p := ⟨gb154, 2, none⟩) (Kd.Z_far (p := ⟨gb154, 1, none⟩) (Kd.Z_far (p := ⟨gb154, 0, none⟩) (Kd.Z_types HO_3.out BK154.out (by decide)) (fun _ hk => hk.2) (.string ((rd_T123 l0 x59_2).f0))) (fun _ hk => hk.2) (.slice A153_1 ((rd_T123 l0 x59_2).f1).length c153_1)) (fun _ hk => hk.2) (.int .i64 ((rd_T123 l0 x59_2).f2))) (fun _ hk => hk.2) (.string ((rd_T123 l0 x59_2).f3))) (fun _ hk => hk.2) (.bool ((rd_T123 l0 x59_2).f4))) (fun _ hk => trivial)⟩, ⟨by repeat (first | (with_reducible first | exact HB.out | apply qb0 | apply qa0 | apply qc0 | refine qi0 ?_ GE154.out) | exact HB.out)⟩⟩
      rw [if_neg c41] at H
      have c41b0 : (mget x3_1 ((rd_T123 l0 x59_2).f3)).getD false = false := by simpa using c41
      clear c41
      obtain rfl := Option.some.inj H
      have p153 : 0 ≤ (x59_2 : Int) := of_decide_eq_true (by first | (with_reducible assumption) | assumption)
      have q153 : x59_2 < (l0.length : Int) := of_decide_eq_true (by first | (with_reducible assumption) | assumption)
      obtain ⟨ad153, A153_1, c153_1, e153, hx153_0, hx153_1, hx153_2, hx153_3, hx153_4, hl153_1, hi153_1⟩ := at_T123 HR0.out x59_2 p153 q153
      cases e153
      replace hx153_0 := (HB.out.cell (World.block_lt_of_cell? w _ hx153_0)).trans hx153_0
      replace hx153_1 := (HB.out.cell (World.block_lt_of_cell? w _ hx153_1)).trans hx153_1
      replace hx153_2 := (HB.out.cell (World.block_lt_of_cell? w _ hx153_2)).trans hx153_2
      replace hx153_3 := (HB.out.cell (World.block_lt_of_cell? w _ hx153_3)).trans hx153_3
      replace hx153_4 := (HB.out.cell (World.block_lt_of_cell? w _ hx153_4)).trans hx153_4
      have HR153_1 := Aside0.mk hi153_1
      have HC153_1 := Aside0.mk hl153_1
      clear hi153_1 hl153_1
      replace p153 := eq_true p153
      replace q153 := eq_true q153
      go_wp2_with (first | ((with_reducible refine qr0 (N := 9) rfl ?_); (try (refine gate_guard (by rfl) ?_; dsimp only)); refine qv0 ?hg (N := 9) ?hd (cs := #[.string (⟨#[]⟩ : ByteArray), .slice none 0 0, .int .i64 0, .string (⟨#[]⟩ : ByteArray), .bool false]) (t := 123) ?hr ?_; (case hd => rfl); (case hg => rfl); (case hr => first | (go_simp; done) | (go_simp; rfl)); intro gb154 hg w44 hbox hb; have n0_ := Aside0.mk (Kd.Z_below (by (with_reducible repeat (first | apply Kd.Z_alloc | apply Kd.Z_drewN | apply Kd.Z_drew)); exact HO_3.out) hb); have n1_ := Aside0.mk (ql0 (by repeat (first | (with_reducible first | exact HB.out | apply qb0 | apply qa0 | apply qc0) | exact HB.out)) hb); have n2_ := Aside0.mk (hbox); have n3_ := Aside0.mk ((by rw [hg]; exact (qk0 (by repeat (first | (with_reducible first | exact HB.out | apply qb0 | apply qa0 | apply qc0) | exact HB.out))) : w.heap.size ≤ gb154)); have n4_ := Aside0.mk ((by rw [hg]; exact (qk0 (by repeat (first | (with_reducible first | exact HB.out | apply qb0 | apply qa0 | apply qc0) | exact HB.out))) : w.heap.size ≤ gb154)); clear HO_3; clear HB; have HO_3 := n0_; have HB := n1_; have BK154 := n2_; have GW154 := n3_; have GE154 := n4_; clear n0_ n1_ n2_ n3_ n4_; clear hb hbox hg; have hcz45_0 : w44.cell? ⟨gb154, 0, none⟩ = some (.string (⟨#[]⟩ : ByteArray)) := (qe0 BK154.out 0).trans rfl; have hcz45_1 : w44.cell? ⟨gb154, 1, none⟩ = some (.slice none 0 0) := (qe0 BK154.out 1).trans rfl; have hcz45_2 : w44.cell? ⟨gb154, 2, none⟩ = some (.int .i64 0) := (qe0 BK154.out 2).trans rfl; have hcz45_3 : w44.cell? ⟨gb154, 3, none⟩ = some (.string (⟨#[]⟩ : ByteArray)) := (qe0 BK154.out 3).trans rfl; have hcz45_4 : w44.cell? ⟨gb154, 4, none⟩ = some (.bool false) := (qe0 BK154.out 4).trans rfl; have hfz45_0 := qd0 BK154.out 0; have hfz45_1 := qd0 BK154.out 1; have hfz45_2 := qd0 BK154.out 2; have hfz45_3 := qd0 BK154.out 3; have hfz45_4 := qd0 BK154.out 4) | ((with_reducible refine qr0 (N := 76) rfl ?_); (try (refine gate_guard (by rfl) ?_; dsimp only)); refine Kd.Z_look_op (base := w.heap.size) (ok := fun _ => True) kz95 95 rfl rfl _ _ 95 rfl kz95_K kz95_inj kz95_t false kz95_z mb145 x3_1 ((rd_T123 l0 x59_2).f3) rfl rfl (kz95_key ((rd_T123 l0 x59_2).f3) LMc40.out) ?aO (.bool ((mget x3_1 ((rd_T123 l0 x59_2).f3)).getD false)) rfl ?_; (case aO => exact (by (with_reducible repeat (first | apply Kd.Z_alloc | apply Kd.Z_drewN | apply Kd.Z_drew)); exact (Kd.Z_mono (Kd.Z_far (p := ⟨gb154, 4, none⟩) (Kd.Z_far (p := ⟨gb154, 3, none⟩) (Kd.Z_far (p := ⟨gb154, 2, none⟩) (Kd.Z_far (p := ⟨gb154, 1, none⟩) (Kd.Z_far (p := ⟨gb154, 0, none⟩) (Kd.Z_types HO_3.out BK154.out (by decide)) (fun _ hk => hk.2) (.string ((rd_T123 l0 x59_2).f0))) (fun _ hk => hk.2) (.slice A153_1 ((rd_T123 l0 x59_2).f1).length c153_1)) (fun _ hk => hk.2) (.int .i64 ((rd_T123 l0 x59_2).f2))) (fun _ hk => hk.2) (.string ((rd_T123 l0 x59_2).f3))) (fun _ hk => hk.2) (.bool ((rd_T123 l0 x59_2).f4))) (fun _ h_ => h_.1))))))
      go_ret
      exact ⟨by first | rfl | (simp [errW_none, errW_some] <;> rfl) | (simp [*, errW_none, errW_some] <;> rfl), by repeat (first | (with_reducible first | exact HB.out | apply qb0 | apply qa0 | apply qc0 | refine qi0 ?_ GE154.out) | exact HB.out)⟩
     rw [if_neg c31] at H
     have c31b0 : decide (x59_2 < (l0.length : Int)) = false := decide_eq_false c31
     clear c31
     obtain rfl := Option.some.inj H
     go_wp2
     go_ret
     exact ⟨by first | rfl | (simp [errW_none, errW_some] <;> rfl) | (simp [*, errW_none, errW_some] <;> rfl), by repeat (first | (with_reducible first | exact HB.out | apply qb0 | apply qa0 | apply qc0) | exact HB.out)⟩

end Go.Proofs.Ytdnenglafphkbaa.PFnExactMay
