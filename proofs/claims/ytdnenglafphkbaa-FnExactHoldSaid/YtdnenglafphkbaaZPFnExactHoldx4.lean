/- Lines by a program (a changed copy of the kit's print: this repo's wip/tools): Go functions as Lean functions, and proofs that the calls answer so. -/
import Derived.Test.YtdnenglafphkbaaZPFnExactHoldx0
import Derived.Test.YtdnenglafphkbaaZPFnExactHoldx1
import Derived.Test.YtdnenglafphkbaaZPFnExactHoldx3
namespace Go.Proofs.Ytdnenglafphkbaa.PFnExactHold
open Go.RowKit Go.Proofs.YtdnenglafphkbaaW.PrintWords Go.Proofs.YtdnenglafphkbaaW.PrintLast Go.Proofs.YtdnenglafphkbaaW.PrintMore
attribute [local go_sem] max2_int min2_int max_two min_two max_three min_three max_four min_four   -- for this text's walks alone
set_option linter.unusedVariables false
set_option linter.unusedSimpArgs false

/-! ### spec_l15Each: function 71 -/
mutual
def spec_l15Each.l0 : Nat → List (S106) → List (S109) → Bool → List (S106) → Int → Option ((List (S106)) × Int)
 | 0, _, _, _, _, _ => none
 | k + 1, x0, x1, x2, x8, x9 => if x9 < (x1.length : Int) then (if 0 ≤ x9 then ((spec_l1In.f ((rd_T109 x1 x9).f0) 0 (wrap64 ((x0.length : Int) - 1))).bind fun t140 => (if t140 = true then ((spec_l1In.f ((rd_T109 x1 x9).f1) 1 1000000).bind fun t141 => (spec_l15Each.j1 k x0 x1 x2 x8 x9 (!t141) ((rd_T109 x1 x9).f0) ((rd_T109 x1 x9).f1))) else (spec_l15Each.j1 k x0 x1 x2 x8 x9 true ((rd_T109 x1 x9).f0) ((rd_T109 x1 x9).f1)))) else (none)) else (some (x8, 0))
def spec_l15Each.j1 : Nat → List (S106) → List (S109) → Bool → List (S106) → Int → Bool → Int → Int → Option ((List (S106)) × Int)
 | 0, _, _, _, _, _, _, _, _ => none
 | k + 1, x0, x1, x2, x8, x9, x44, x140000, x140001 => if x44 = true then ((spec_l15Copy.f x0).bind fun t142 => (some (t142, 2))) else (if 0 ≤ x140000 then (if x140000 < (x8.length : Int) then (if x2 = true then (if ((rd_T106 x8 x140000).f5) < x140001 then (spec_l15Each.j2 k x0 x1 x2 x8 x9 true x140000 x140001 ((rd_T106 x8 x140000).f0) ((rd_T106 x8 x140000).f1) ((rd_T106 x8 x140000).f2) ((rd_T106 x8 x140000).f3) ((rd_T106 x8 x140000).f4) ((rd_T106 x8 x140000).f5)) else (spec_l15Each.j2 k x0 x1 x2 x8 x9 false x140000 x140001 ((rd_T106 x8 x140000).f0) ((rd_T106 x8 x140000).f1) ((rd_T106 x8 x140000).f2) ((rd_T106 x8 x140000).f3) ((rd_T106 x8 x140000).f4) ((rd_T106 x8 x140000).f5))) else (spec_l15Each.j2 k x0 x1 x2 x8 x9 (decide ((wrap64 (((rd_T106 x8 x140000).f4) - ((rd_T106 x8 x140000).f5))) < x140001)) x140000 x140001 ((rd_T106 x8 x140000).f0) ((rd_T106 x8 x140000).f1) ((rd_T106 x8 x140000).f2) ((rd_T106 x8 x140000).f3) ((rd_T106 x8 x140000).f4) ((rd_T106 x8 x140000).f5))) else (none)) else (none))
def spec_l15Each.j2 : Nat → List (S106) → List (S109) → Bool → List (S106) → Int → Bool → Int → Int → ByteArray → ByteArray → ByteArray → Int → Int → Int → Option ((List (S106)) × Int)
 | 0, _, _, _, _, _, _, _, _, _, _, _, _, _, _ => none
 | k + 1, x0, x1, x2, x8, x9, x73, x140000, x140001, x147000, x147001, x147002, x147003, x147004, x147005 => if x73 = true then ((spec_l15Copy.f x0).bind fun t147 => (some (t147, 3))) else (if x2 = true then (if 0 ≤ x140000 then (if x140000 < (x8.length : Int) then (spec_l15Each.l0 k x0 x1 x2 (x8.set (x140000 : Int).toNat (⟨x147000, x147001, x147002, x147003, wrap64 (x147004 - x140001), wrap64 (x147005 - x140001)⟩ : S106)) (wrap64 (x9 + 1))) else (none)) else (none)) else (if 0 ≤ x140000 then (if x140000 < (x8.length : Int) then (spec_l15Each.l0 k x0 x1 x2 (x8.set (x140000 : Int).toNat (⟨x147000, x147001, x147002, x147003, x147004, wrap64 (x147005 + x140001)⟩ : S106)) (wrap64 (x9 + 1))) else (none)) else (none)))
end
def spec_l15Each.f (k : Nat) (l0 : List (S106)) (l1 : List (S109)) (a2 : Bool) : Option ((List (S106)) × Int) := (spec_StockOk.f k l0).bind fun t131 => (if t131 = true then ((spec_l15Copy.f l0).bind fun t135 => (if (l1.length : Int) > 100 then (some (t135, 2)) else (spec_l15Each.l0 k l0 l1 a2 t135 0))) else (some ((([] : List (S106))), 1)))
theorem spec_l15Each.mono_l : ∀ k, (∀ y0 y1 y2 y3 y4, LeO (spec_l15Each.l0 k y0 y1 y2 y3 y4) (spec_l15Each.l0 (k + 1) y0 y1 y2 y3 y4)) ∧ (∀ y0 y1 y2 y3 y4 y5 y6 y7, LeO (spec_l15Each.j1 k y0 y1 y2 y3 y4 y5 y6 y7) (spec_l15Each.j1 (k + 1) y0 y1 y2 y3 y4 y5 y6 y7)) ∧ (∀ y0 y1 y2 y3 y4 y5 y6 y7 y8 y9 y10 y11 y12 y13, LeO (spec_l15Each.j2 k y0 y1 y2 y3 y4 y5 y6 y7 y8 y9 y10 y11 y12 y13) (spec_l15Each.j2 (k + 1) y0 y1 y2 y3 y4 y5 y6 y7 y8 y9 y10 y11 y12 y13))
 | 0 => ⟨fun _ _ _ _ _ r h => by simp [spec_l15Each.l0] at h, fun _ _ _ _ _ _ _ _ r h => by simp [spec_l15Each.j1] at h, fun _ _ _ _ _ _ _ _ _ _ _ _ _ _ r h => by simp [spec_l15Each.j2] at h⟩
 | k + 1 => by
  obtain ⟨ih0, ih1, ih2⟩ := spec_l15Each.mono_l k
  refine ⟨?_, ?_, ?_⟩
  ·intro y0 y1 y2 y3 y4
   unfold spec_l15Each.l0
   repeat' first
   | (with_reducible exact ih0 _ _ _ _ _)
   | (with_reducible exact ih1 _ _ _ _ _ _ _ _)
   | (with_reducible exact ih2 _ _ _ _ _ _ _ _ _ _ _ _ _ _)
   | (with_reducible exact spec_StockOk.mono _ _)
   | (with_reducible exact LeO.refl _)
   | (with_reducible exact LeO.none _)
   | (with_reducible refine LeO.ite ?_ ?_)
   | (with_reducible refine LeO.bind ?_ (fun _ => ?_))
   | exact ih0 _ _ _ _ _
   | exact ih1 _ _ _ _ _ _ _ _
   | exact ih2 _ _ _ _ _ _ _ _ _ _ _ _ _ _
   | exact spec_StockOk.mono _ _
   | exact LeO.none _
   | refine LeO.ite ?_ ?_
   | refine LeO.bind ?_ (fun _ => ?_)
  ·intro y0 y1 y2 y3 y4 y5 y6 y7
   unfold spec_l15Each.j1
   repeat' first
   | (with_reducible exact ih0 _ _ _ _ _)
   | (with_reducible exact ih1 _ _ _ _ _ _ _ _)
   | (with_reducible exact ih2 _ _ _ _ _ _ _ _ _ _ _ _ _ _)
   | (with_reducible exact spec_StockOk.mono _ _)
   | (with_reducible exact LeO.refl _)
   | (with_reducible exact LeO.none _)
   | (with_reducible refine LeO.ite ?_ ?_)
   | (with_reducible refine LeO.bind ?_ (fun _ => ?_))
   | exact ih0 _ _ _ _ _
   | exact ih1 _ _ _ _ _ _ _ _
   | exact ih2 _ _ _ _ _ _ _ _ _ _ _ _ _ _
   | exact spec_StockOk.mono _ _
   | exact LeO.none _
   | refine LeO.ite ?_ ?_
   | refine LeO.bind ?_ (fun _ => ?_)
  ·intro y0 y1 y2 y3 y4 y5 y6 y7 y8 y9 y10 y11 y12 y13
   unfold spec_l15Each.j2
   repeat' first
   | (with_reducible exact ih0 _ _ _ _ _)
   | (with_reducible exact ih1 _ _ _ _ _ _ _ _)
   | (with_reducible exact ih2 _ _ _ _ _ _ _ _ _ _ _ _ _ _)
   | (with_reducible exact spec_StockOk.mono _ _)
   | (with_reducible exact LeO.refl _)
   | (with_reducible exact LeO.none _)
   | (with_reducible refine LeO.ite ?_ ?_)
   | (with_reducible refine LeO.bind ?_ (fun _ => ?_))
   | exact ih0 _ _ _ _ _
   | exact ih1 _ _ _ _ _ _ _ _
   | exact ih2 _ _ _ _ _ _ _ _ _ _ _ _ _ _
   | exact spec_StockOk.mono _ _
   | exact LeO.none _
   | refine LeO.ite ?_ ?_
   | refine LeO.bind ?_ (fun _ => ?_)
theorem spec_l15Each.mono : ∀ a0 a1 a2 k, LeO (spec_l15Each.f k a0 a1 a2) (spec_l15Each.f (k + 1) a0 a1 a2) := by
 intro a0 a1 a2 k
 obtain ⟨ih0, ih1, ih2⟩ := spec_l15Each.mono_l k
 unfold spec_l15Each.f
 repeat' first
   | (with_reducible exact ih0 _ _ _ _ _)
   | (with_reducible exact ih1 _ _ _ _ _ _ _ _)
   | (with_reducible exact ih2 _ _ _ _ _ _ _ _ _ _ _ _ _ _)
   | (with_reducible exact spec_StockOk.mono _ _)
   | (with_reducible exact LeO.refl _)
   | (with_reducible exact LeO.none _)
   | (with_reducible refine LeO.ite ?_ ?_)
   | (with_reducible refine LeO.bind ?_ (fun _ => ?_))
   | exact ih0 _ _ _ _ _
   | exact ih1 _ _ _ _ _ _ _ _
   | exact ih2 _ _ _ _ _ _ _ _ _ _ _ _ _ _
   | exact spec_StockOk.mono _ _
   | exact LeO.none _
   | refine LeO.ite ?_ ?_
   | refine LeO.bind ?_ (fun _ => ?_)
set_option maxHeartbeats 8000000 in
set_option maxRecDepth 100000 in
theorem spec_l15Each.calls (k : Nat) (A0 : Option Addr) (c0 : Nat) (l0 : List (S106)) (A1 : Option Addr) (c1 : Nat) (l1 : List (S109)) (a2 : Bool) (r1 : List (S106)) (r2 : Int) (w : World) (hr0 : Kd.C k106 w A0 l0.length l0) (hc0 : l0.length ≤ c0) (hr1 : Kd.C k109 w A1 l1.length l1) (hc1 : l1.length ≤ c1) (h : spec_l15Each.f k l0 l1 a2 = some (r1, r2)) :
  Calls Try.prog 71 #[.slice A0 l0.length c0, .slice A1 l1.length c1, .bool a2] w fun e w' => ∃ v0_ : Value, e = .returned (.tuple #[v0_, .int .i64 r2]) ∧ Kd.R k106 106 w' w.heap.size (fun _ => True) v0_ r1 ∧ Below w.heap.size w w' := by
 have hu109 := Try.underlying109
 have hu106 := Try.underlying106
 have HR0 := Aside0.mk hr0
 have HC0 := Aside0.mk hc0
 clear hr0 hc0
 have HR1 := Aside0.mk hr1
 have HC1 := Aside0.mk hc1
 clear hr1 hc1
 have HB := Aside0.mk (Below.refl w.heap.size w)
 have H : ((spec_StockOk.f k l0).bind fun t131 => (if t131 = true then ((spec_l15Copy.f l0).bind fun t135 => (if (l1.length : Int) > 100 then (some (t135, 2)) else (spec_l15Each.l0 k l0 l1 a2 t135 0))) else (some ((([] : List (S106))), 1)))) = some (r1, r2) := h
 clear h
 replace H := Option.bind_eq_some_iff.mp H
 obtain ⟨t131, A40, H⟩ := H
 replace H : (if t131 = true then ((spec_l15Copy.f l0).bind fun t135 => (if (l1.length : Int) > 100 then (some (t135, 2)) else (spec_l15Each.l0 k l0 l1 a2 t135 0))) else (some ((([] : List (S106))), 1))) = some (r1, r2) := H
 have A4 := Aside0.mk A40
 clear A40
 by_cases c5 : t131 = true
 ·subst c5
  have H1 : ((spec_l15Copy.f l0).bind fun t135 => (if (l1.length : Int) > 100 then (some (t135, 2)) else (spec_l15Each.l0 k l0 l1 a2 t135 0))) = some (r1, r2) := by rw [if_pos rfl] at H; exact H
  clear H
  have H := H1
  clear H1
  replace H := Option.bind_eq_some_iff.mp H
  obtain ⟨t135, A60, H⟩ := H
  replace H : (if (l1.length : Int) > 100 then (some (t135, 2)) else (spec_l15Each.l0 k l0 l1 a2 t135 0)) = some (r1, r2) := H
  have A6 := Aside0.mk A60
  clear A60
  by_cases c7 : (l1.length : Int) > 100
  ·rw [if_pos c7] at H
   have c7b0 : decide (100 < (l1.length : Int)) = true := decide_eq_true c7
   have c7b1 : decide (100 < l1.length) = true := decide_eq_true (by omega)
   clear c7
   simp only [Option.some.injEq, Prod.mk.injEq] at H
   obtain ⟨rfl, rfl⟩ := H
   go_enter Try.func71, Try.ntmps71
   go_wp2_with (first | ((with_reducible refine qn0 (f := 105) rfl ?_); refine qu0 (some 13) rfl rfl Try.func105 (by kernel_rfl) rfl #[.slice A0 l0.length c0] rfl (by (try simp only [List.map_toArray, List.map_cons, List.map_nil]); first | done | rfl | (simp only [List.length_drop, List.length_take]; rfl)) ?_; (with_reducible refine (spec_StockOk.calls k _ _ l0 true _ ?side1 ?side2 A4.out).mono ?_); (case side1 => repeat (first | exact HR0.out | (with_reducible refine Kd.qw0 ?_ _) | (with_reducible refine Kd.qv0 ?_ _) | (with_reducible refine Kd.qy0 ?_))); (case side2 => exact HC0.out); rintro e w8 ⟨rfl, hb⟩; refine ⟨_, rfl, ?_⟩; have n0_ := Aside0.mk (qf0 (by repeat (first | (with_reducible first | exact HB.out | apply qc0 | apply qa0 | apply qb0) | exact HB.out)) hb); clear HB; have HB := n0_; clear n0_; (try clear hb); (try clear hb2); (try clear hk); (try clear hi)) | ((with_reducible refine qn0 (f := 106) rfl ?_); refine qu0 (some 17) rfl rfl Try.func106 (by kernel_rfl) rfl #[.slice A0 l0.length c0] rfl (by (try simp only [List.map_toArray, List.map_cons, List.map_nil]); first | done | rfl | (simp only [List.length_drop, List.length_take]; rfl)) ?_; (with_reducible refine (spec_l15Copy.calls _ _ l0 t135 _ ?side1 ?side2 A6.out).mono ?_); (case side1 => repeat (first | exact (Kd.qf1 HR0.out HB.out) | (with_reducible refine Kd.qw0 ?_ _) | (with_reducible refine Kd.qv0 ?_ _) | (with_reducible refine Kd.qy0 ?_))); (case side2 => exact HC0.out); rintro e w9 ⟨v136, rfl, ho0, hb⟩; refine ⟨_, rfl, ?_⟩; have n0_ := Aside0.mk (Kd.qi1 ho0 (qh0 (by repeat (first | (with_reducible first | exact HB.out | apply qc0 | apply qa0 | apply qb0) | exact HB.out)))); have n1_ := Aside0.mk (qf0 (by repeat (first | (with_reducible first | exact HB.out | apply qc0 | apply qa0 | apply qb0) | exact HB.out)) hb); clear HB; have HO137 := n0_; have HB := n1_; clear n0_ n1_; (try clear hb); (try clear hb2); (try clear hk); (try clear hi); (try clear ho0)))
   go_ret2
   exact ⟨_, by first | rfl | (simp [errW_none, errW_some] <;> rfl) | (simp [*, errW_none, errW_some] <;> rfl), by (with_reducible repeat (first | apply Kd.qm0 | apply Kd.ql0 | apply Kd.qo0)); exact HO137.out, by repeat (first | (with_reducible first | exact HB.out | apply qc0 | apply qa0 | apply qb0) | exact HB.out)⟩
  rw [if_neg c7] at H
  have c7b0 : decide (100 < (l1.length : Int)) = false := decide_eq_false c7
  have c7b1 : decide (100 < l1.length) = false := decide_eq_false (by omega)
  clear c7
  have H' := Aside0.mk H
  clear H
  go_enter Try.func71, Try.ntmps71
  go_wp2_with (first | ((with_reducible refine qn0 (f := 105) rfl ?_); refine qu0 (some 13) rfl rfl Try.func105 (by kernel_rfl) rfl #[.slice A0 l0.length c0] rfl (by (try simp only [List.map_toArray, List.map_cons, List.map_nil]); first | done | rfl | (simp only [List.length_drop, List.length_take]; rfl)) ?_; (with_reducible refine (spec_StockOk.calls k _ _ l0 true _ ?side1 ?side2 A4.out).mono ?_); (case side1 => repeat (first | exact HR0.out | (with_reducible refine Kd.qw0 ?_ _) | (with_reducible refine Kd.qv0 ?_ _) | (with_reducible refine Kd.qy0 ?_))); (case side2 => exact HC0.out); rintro e w10 ⟨rfl, hb⟩; refine ⟨_, rfl, ?_⟩; have n0_ := Aside0.mk (qf0 (by repeat (first | (with_reducible first | exact HB.out | apply qc0 | apply qa0 | apply qb0) | exact HB.out)) hb); clear HB; have HB := n0_; clear n0_; (try clear hb); (try clear hb2); (try clear hk); (try clear hi)) | ((with_reducible refine qn0 (f := 106) rfl ?_); refine qu0 (some 17) rfl rfl Try.func106 (by kernel_rfl) rfl #[.slice A0 l0.length c0] rfl (by (try simp only [List.map_toArray, List.map_cons, List.map_nil]); first | done | rfl | (simp only [List.length_drop, List.length_take]; rfl)) ?_; (with_reducible refine (spec_l15Copy.calls _ _ l0 t135 _ ?side1 ?side2 A6.out).mono ?_); (case side1 => repeat (first | exact (Kd.qf1 HR0.out HB.out) | (with_reducible refine Kd.qw0 ?_ _) | (with_reducible refine Kd.qv0 ?_ _) | (with_reducible refine Kd.qy0 ?_))); (case side2 => exact HC0.out); rintro e w11 ⟨v136, rfl, ho0, hb⟩; refine ⟨_, rfl, ?_⟩; have n0_ := Aside0.mk (Kd.qi1 ho0 (qh0 (by repeat (first | (with_reducible first | exact HB.out | apply qc0 | apply qa0 | apply qb0) | exact HB.out)))); have n1_ := Aside0.mk (qf0 (by repeat (first | (with_reducible first | exact HB.out | apply qc0 | apply qa0 | apply qb0) | exact HB.out)) hb); clear HB; have HO137 := n0_; have HB := n1_; clear n0_ n1_; (try clear hb); (try clear hb2); (try clear hk); (try clear hi); (try clear ho0)))
  go_loopg [9] k (fun kq v9 w' => ∃ (x8_1 : List (S106)) (x9_1 : Int), v9 = .int .i64 x9_1 ∧ Aside0 (spec_l15Each.l0 kq l0 l1 a2 x8_1 x9_1 = some (r1, r2)) ∧ Aside0 (kq ≤ k) ∧ Aside0 (Kd.R k106 106 w' w.heap.size (fun _ => True) v136 x8_1) ∧ Aside0 (Below w.heap.size w w'))
  case atStart => exact ⟨(t135), (0), (by first | rfl | (simp; done) | (simp [*]; done)), H', ⟨Nat.le_refl _⟩, ⟨by (with_reducible repeat (first | apply Kd.qm0 | apply Kd.ql0 | apply Kd.qo0)); exact HO137.out⟩, ⟨by repeat (first | (with_reducible first | exact HB.out | apply qc0 | apply qa0 | apply qb0) | exact HB.out)⟩⟩
  case round =>
   clear H'
   try clear c1
   try clear p2
   try clear c5
   try clear c7
   try clear c7b0
   try clear c7b1
   try clear c10
   obtain ⟨x8_1, x9_1, rfl, HA, HK1, HO_8, HB⟩ := hrel
   cases gk with
   | zero => exact absurd HA.out (by simp [spec_l15Each.l0])
   | succ k1 =>
    have H := HA.out
    clear HA
    simp only [spec_l15Each.l0] at H
    by_cases c12 : x9_1 < (l1.length : Int)
    ·rw [if_pos c12] at H
     have c12b0 : decide (x9_1 < (l1.length : Int)) = true := decide_eq_true c12
     clear c12
     by_cases c13 : 0 ≤ x9_1
     case neg => rw [if_neg c13] at H; exact absurd H (by simp)
     rw [if_pos c13] at H
     have c13b0 : decide (0 ≤ x9_1) = true := decide_eq_true c13
     clear c13
     have HC14 := Aside0.mk H
     clear H
     have p138 : 0 ≤ (x9_1 : Int) := of_decide_eq_true (by first | (with_reducible assumption) | assumption)
     have q138 : x9_1 < (l1.length : Int) := of_decide_eq_true (by first | (with_reducible assumption) | assumption)
     obtain ⟨ad138, e138, hx138_0, hx138_1⟩ := at_T109 HR1.out x9_1 p138 q138
     cases e138
     replace hx138_0 := (HB.out.cell (World.block_lt_of_cell? w _ hx138_0)).trans hx138_0
     replace hx138_1 := (HB.out.cell (World.block_lt_of_cell? w _ hx138_1)).trans hx138_1
     replace p138 := eq_true p138
     replace q138 := eq_true q138
     go_upto_region 10 with (first | ((with_reducible refine qt0 (N := 10) rfl ?_); refine qs0 ?hg (N := 10) ?hd (cs := #[.int .i64 0, .int .i64 0]) (t := 109) ?hr ?_; (case hd => rfl); (case hg => rfl); (case hr => first | (go_simp; done) | (go_simp; rfl)); intro gb139 hg w15 hbox hb; have n0_ := Aside0.mk (Kd.qr0 (by (with_reducible repeat (first | apply Kd.qm0 | apply Kd.ql0 | apply Kd.qo0)); exact HO_8.out) hb); have n1_ := Aside0.mk (qf0 (by repeat (first | (with_reducible first | exact HB.out | apply qc0 | apply qa0 | apply qb0) | exact HB.out)) hb); have n2_ := Aside0.mk (hbox); have n3_ := Aside0.mk ((by rw [hg]; exact (qh0 (by repeat (first | (with_reducible first | exact HB.out | apply qc0 | apply qa0 | apply qb0) | exact HB.out))) : w.heap.size ≤ gb139)); have n4_ := Aside0.mk ((by rw [hg]; exact (qh0 (by repeat (first | (with_reducible first | exact HB.out | apply qc0 | apply qa0 | apply qb0) | exact HB.out))) : w.heap.size ≤ gb139)); clear HO_8; clear HB; have HO_8 := n0_; have HB := n1_; have BK139 := n2_; have GW139 := n3_; have GE139 := n4_; clear n0_ n1_ n2_ n3_ n4_; clear hb hbox hg; have hcz16_0 : w15.cell? ⟨gb139, 0, none⟩ = some (.int .i64 0) := (qe0 BK139.out 0).trans rfl; have hcz16_1 : w15.cell? ⟨gb139, 1, none⟩ = some (.int .i64 0) := (qe0 BK139.out 1).trans rfl; have hfz16_0 := qd0 BK139.out 0; have hfz16_1 := qd0 BK139.out 1))
     (try simp only [Act.put, List.setIfInBounds_toArray, List.set_cons_zero, List.set_cons_succ])
     go_cut [44] (fun v44 wc => ∃ (kq : Nat) (x44_13 : Bool), v44 = .bool x44_13 ∧ Aside0 (spec_l15Each.j1 kq l0 l1 a2 x8_1 x9_1 x44_13 ((rd_T109 l1 x9_1).f0) ((rd_T109 l1 x9_1).f1) = some (r1, r2)) ∧ Aside0 (kq ≤ k1) ∧ Aside0 (Kd.R k106 106 wc w.heap.size (fun _ => True) v136 x8_1) ∧ Aside0 (wc.heap[gb139]? = some (.cells #[.int .i64 ((rd_T109 l1 x9_1).f0), .int .i64 ((rd_T109 l1 x9_1).f1)] 109 (0, 0))) ∧ Aside0 (Below w.heap.size w wc))
     case first =>
      have H := HC14.out
      clear HC14
      replace H := Option.bind_eq_some_iff.mp H
      obtain ⟨t140, A170, H⟩ := H
      replace H : (if t140 = true then ((spec_l1In.f ((rd_T109 l1 x9_1).f1) 1 1000000).bind fun t141 => (spec_l15Each.j1 k1 l0 l1 a2 x8_1 x9_1 (!t141) ((rd_T109 l1 x9_1).f0) ((rd_T109 l1 x9_1).f1))) else (spec_l15Each.j1 k1 l0 l1 a2 x8_1 x9_1 true ((rd_T109 l1 x9_1).f0) ((rd_T109 l1 x9_1).f1))) = some (r1, r2) := H
      have A17 := Aside0.mk A170
      clear A170
      by_cases c18 : t140 = true
      ·subst c18
       have H1 : ((spec_l1In.f ((rd_T109 l1 x9_1).f1) 1 1000000).bind fun t141 => (spec_l15Each.j1 k1 l0 l1 a2 x8_1 x9_1 (!t141) ((rd_T109 l1 x9_1).f0) ((rd_T109 l1 x9_1).f1))) = some (r1, r2) := by rw [if_pos rfl] at H; exact H
       clear H
       have H := H1
       clear H1
       replace H := Option.bind_eq_some_iff.mp H
       obtain ⟨t141, A190, H⟩ := H
       replace H : (spec_l15Each.j1 k1 l0 l1 a2 x8_1 x9_1 (!t141) ((rd_T109 l1 x9_1).f0) ((rd_T109 l1 x9_1).f1)) = some (r1, r2) := H
       have A19 := Aside0.mk A190
       clear A190
       have H' := Aside0.mk H
       clear H
       have hcz20_0 : w15.cell? ⟨gb139, 0, none⟩ = some (.int .i64 0) := (qe0 BK139.out 0).trans rfl
       have hcz20_1 : w15.cell? ⟨gb139, 1, none⟩ = some (.int .i64 0) := (qe0 BK139.out 1).trans rfl
       have hfz20_0 := qd0 BK139.out 0
       have hfz20_1 := qd0 BK139.out 1
       go_wp2_with (first | ((with_reducible refine qn0 (f := 58) rfl ?_); refine qu0 (some 37) rfl rfl Try.func58 (by kernel_rfl) rfl #[.int .i64 ((rd_T109 l1 x9_1).f0), .int .i64 0, .int .i64 (wrap64 ((l0.length : Int) - 1))] rfl (by (try simp only [List.map_toArray, List.map_cons, List.map_nil]); first | done | rfl | (simp only [List.length_drop, List.length_take]; rfl)) ?_; (with_reducible refine (spec_l1In.calls ((rd_T109 l1 x9_1).f0) 0 (wrap64 ((l0.length : Int) - 1)) true _ A17.out).mono ?_); rintro e w' ⟨rfl, ⟨nd, rfl⟩⟩; refine ⟨_, rfl, ?_⟩) | (go_at_call 58; (with_reducible refine (spec_l1In.calls ((rd_T109 l1 x9_1).f1) 1 1000000 t141 _ A19.out).mono ?_); rintro e w' ⟨rfl, ⟨nd, rfl⟩⟩))
       go_meet
       case rel => exact ⟨_, (!t141), (by first | rfl | (simp; done) | (simp [*]; done)), H', ⟨by have := HK1.out; first | omega | exact Nat.le_refl _⟩, ⟨by (with_reducible repeat (first | apply Kd.qm0 | apply Kd.ql0 | apply Kd.qo0)); exact Kd.qz0 (Kd.R_far (p := ⟨gb139, 1, none⟩) (Kd.R_far (p := ⟨gb139, 0, none⟩) (Kd.R_types HO_8.out BK139.out (by decide)) (fun _ hk => hk.2) (.int .i64 ((rd_T109 l1 x9_1).f0))) (fun _ hk => hk.2) (.int .i64 ((rd_T109 l1 x9_1).f1))) (fun _ hk => trivial)⟩, ⟨by (with_reducible repeat (first | refine qi0 ?_ _ | refine qk0 ?_ | refine qj0 ?_ _)); refine qx0 (cs := #[.int .i64 ((rd_T109 l1 x9_1).f0), .int .i64 0]) ?_ 1 _ rfl; (with_reducible repeat (first | refine qi0 ?_ _ | refine qk0 ?_ | refine qj0 ?_ _)); refine qx0 (cs := #[.int .i64 0, .int .i64 0]) ?_ 0 _ rfl; (with_reducible repeat (first | refine qi0 ?_ _ | refine qk0 ?_ | refine qj0 ?_ _)); exact BK139.out⟩, ⟨by repeat (first | (with_reducible first | exact HB.out | apply qc0 | apply qa0 | apply qb0 | refine qg0 ?_ GE139.out) | exact HB.out)⟩⟩
      replace c18 := Bool.eq_false_iff.mpr c18
      subst c18
      have H1 : (spec_l15Each.j1 k1 l0 l1 a2 x8_1 x9_1 true ((rd_T109 l1 x9_1).f0) ((rd_T109 l1 x9_1).f1)) = some (r1, r2) := by rw [if_neg (show ¬ (false = true) by decide)] at H; exact H
      clear H
      have H := H1
      clear H1
      have H' := Aside0.mk H
      clear H
      have hcz21_0 : w15.cell? ⟨gb139, 0, none⟩ = some (.int .i64 0) := (qe0 BK139.out 0).trans rfl
      have hcz21_1 : w15.cell? ⟨gb139, 1, none⟩ = some (.int .i64 0) := (qe0 BK139.out 1).trans rfl
      have hfz21_0 := qd0 BK139.out 0
      have hfz21_1 := qd0 BK139.out 1
      go_wp2_with (first | ((with_reducible refine qn0 (f := 58) rfl ?_); refine qu0 (some 37) rfl rfl Try.func58 (by kernel_rfl) rfl #[.int .i64 ((rd_T109 l1 x9_1).f0), .int .i64 0, .int .i64 (wrap64 ((l0.length : Int) - 1))] rfl (by (try simp only [List.map_toArray, List.map_cons, List.map_nil]); first | done | rfl | (simp only [List.length_drop, List.length_take]; rfl)) ?_; (with_reducible refine (spec_l1In.calls ((rd_T109 l1 x9_1).f0) 0 (wrap64 ((l0.length : Int) - 1)) false _ A17.out).mono ?_); rintro e w' ⟨rfl, ⟨nd, rfl⟩⟩; refine ⟨_, rfl, ?_⟩))
      go_meet
      case rel => exact ⟨_, (true), (by first | rfl | (simp; done) | (simp [*]; done)), H', ⟨by have := HK1.out; first | omega | exact Nat.le_refl _⟩, ⟨by (with_reducible repeat (first | apply Kd.qm0 | apply Kd.ql0 | apply Kd.qo0)); exact Kd.qz0 (Kd.R_far (p := ⟨gb139, 1, none⟩) (Kd.R_far (p := ⟨gb139, 0, none⟩) (Kd.R_types HO_8.out BK139.out (by decide)) (fun _ hk => hk.2) (.int .i64 ((rd_T109 l1 x9_1).f0))) (fun _ hk => hk.2) (.int .i64 ((rd_T109 l1 x9_1).f1))) (fun _ hk => trivial)⟩, ⟨by (with_reducible repeat (first | refine qi0 ?_ _ | refine qk0 ?_ | refine qj0 ?_ _)); refine qx0 (cs := #[.int .i64 ((rd_T109 l1 x9_1).f0), .int .i64 0]) ?_ 1 _ rfl; (with_reducible repeat (first | refine qi0 ?_ _ | refine qk0 ?_ | refine qj0 ?_ _)); refine qx0 (cs := #[.int .i64 0, .int .i64 0]) ?_ 0 _ rfl; (with_reducible repeat (first | refine qi0 ?_ _ | refine qk0 ?_ | refine qj0 ?_ _)); exact BK139.out⟩, ⟨by repeat (first | (with_reducible first | exact HB.out | apply qc0 | apply qa0 | apply qb0 | refine qg0 ?_ GE139.out) | exact HB.out)⟩⟩
     case rest =>
      clear HC14
      try clear c1
      try clear p1
      try clear q1
      try clear hx1
      try clear p2
      try clear c5
      try clear p6
      try clear c7
      try clear c7b0
      try clear c7b1
      try clear c10
      try clear c12
      try clear c12b0
      try clear c13
      try clear c13b0
      try clear p13
      try clear q13
      try clear hx13
      try clear c18
      try clear hcz16_0
      try clear hcz16_1
      try clear hcz20_0
      try clear hcz20_1
      try clear hcz21_0
      try clear hcz21_1
      try clear hfz16_0
      try clear hfz16_1
      try clear hfz20_0
      try clear hfz20_1
      try clear hfz21_0
      try clear hfz21_1
      try clear hx138_0
      try clear hx138_1
      try clear p138
      try clear p2
      try clear q138
      obtain ⟨kq, x44_13, rfl, HA, HJ13, HO_8, BK139, HB⟩ := hcut
      cases kq with
      | zero => exact absurd HA.out (by simp [spec_l15Each.j1])
      | succ kj13 =>
       have H := HA.out
       clear HA
       simp only [spec_l15Each.j1] at H
       by_cases c22 : x44_13 = true
       ·subst c22
        have H1 : ((spec_l15Copy.f l0).bind fun t142 => (some (t142, 2))) = some (r1, r2) := by rw [if_pos rfl] at H; exact H
        clear H
        have H := H1
        clear H1
        replace H := Option.bind_eq_some_iff.mp H
        obtain ⟨t142, A230, H⟩ := H
        replace H : (some (t142, 2)) = some (r1, r2) := H
        have A23 := Aside0.mk A230
        clear A230
        simp only [Option.some.injEq, Prod.mk.injEq] at H
        obtain ⟨rfl, rfl⟩ := H
        go_wp2_with (first | ((with_reducible refine qn0 (f := 106) rfl ?_); refine qu0 (some 46) rfl rfl Try.func106 (by kernel_rfl) rfl #[.slice A0 l0.length c0] rfl (by (try simp only [List.map_toArray, List.map_cons, List.map_nil]); first | done | rfl | (simp only [List.length_drop, List.length_take]; rfl)) ?_; (with_reducible refine (spec_l15Copy.calls _ _ l0 t142 _ ?side1 ?side2 A23.out).mono ?_); (case side1 => repeat (first | exact (Kd.qf1 HR0.out HB.out) | (with_reducible refine Kd.qw0 ?_ _) | (with_reducible refine Kd.qv0 ?_ _) | (with_reducible refine Kd.qy0 ?_))); (case side2 => exact HC0.out); rintro e w24 ⟨v143, rfl, ho0, hb⟩; refine ⟨_, rfl, ?_⟩; have n0_ := Aside0.mk (Kd.qj1 (by (with_reducible repeat (first | apply Kd.qm0 | apply Kd.ql0 | apply Kd.qo0)); exact HO_8.out) (Kd.qs1 ho0) hb); have n1_ := Aside0.mk (Kd.qi1 (Kd.qr1 ho0 (Kd.R_lt (by (with_reducible repeat (first | apply Kd.qm0 | apply Kd.ql0 | apply Kd.qo0)); exact HO_8.out))) (qh0 (by repeat (first | (with_reducible first | exact HB.out | apply qc0 | apply qa0 | apply qb0 | refine qg0 ?_ GE139.out) | exact HB.out)))); have n2_ := Aside0.mk (qb1 (g := gb139) (o := .cells #[.int .i64 ((rd_T109 l1 x9_1).f0), .int .i64 ((rd_T109 l1 x9_1).f1)] 109 (0, 0)) (by (with_reducible repeat (first | refine qi0 ?_ _ | refine qk0 ?_ | refine qj0 ?_ _)); exact BK139.out) hb); have n3_ := Aside0.mk (qf0 (by repeat (first | (with_reducible first | exact HB.out | apply qc0 | apply qa0 | apply qb0 | refine qg0 ?_ GE139.out) | exact HB.out)) hb); clear HO_8; clear BK139; clear HB; have HO_8 := n0_; have HO144 := n1_; have BK139 := n2_; have HB := n3_; clear n0_ n1_ n2_ n3_; (try clear hb); (try clear hb2); (try clear hk); (try clear hi); (try clear ho0)))
        go_ret2
        exact ⟨_, by first | rfl | (simp [errW_none, errW_some] <;> rfl) | (simp [*, errW_none, errW_some] <;> rfl), by (with_reducible repeat (first | apply Kd.qm0 | apply Kd.ql0 | apply Kd.qo0)); exact Kd.qz0 HO144.out (fun _ hk => trivial), by repeat (first | (with_reducible first | exact HB.out | apply qc0 | apply qa0 | apply qb0 | refine qg0 ?_ GE139.out) | exact HB.out)⟩
       replace c22 := Bool.eq_false_iff.mpr c22
       subst c22
       have H1 : (if 0 ≤ ((rd_T109 l1 x9_1).f0) then (if ((rd_T109 l1 x9_1).f0) < (x8_1.length : Int) then (if a2 = true then (if ((rd_T106 x8_1 ((rd_T109 l1 x9_1).f0)).f5) < ((rd_T109 l1 x9_1).f1) then (spec_l15Each.j2 kj13 l0 l1 a2 x8_1 x9_1 true ((rd_T109 l1 x9_1).f0) ((rd_T109 l1 x9_1).f1) ((rd_T106 x8_1 ((rd_T109 l1 x9_1).f0)).f0) ((rd_T106 x8_1 ((rd_T109 l1 x9_1).f0)).f1) ((rd_T106 x8_1 ((rd_T109 l1 x9_1).f0)).f2) ((rd_T106 x8_1 ((rd_T109 l1 x9_1).f0)).f3) ((rd_T106 x8_1 ((rd_T109 l1 x9_1).f0)).f4) ((rd_T106 x8_1 ((rd_T109 l1 x9_1).f0)).f5)) else (spec_l15Each.j2 kj13 l0 l1 a2 x8_1 x9_1 false ((rd_T109 l1 x9_1).f0) ((rd_T109 l1 x9_1).f1) ((rd_T106 x8_1 ((rd_T109 l1 x9_1).f0)).f0) ((rd_T106 x8_1 ((rd_T109 l1 x9_1).f0)).f1) ((rd_T106 x8_1 ((rd_T109 l1 x9_1).f0)).f2) ((rd_T106 x8_1 ((rd_T109 l1 x9_1).f0)).f3) ((rd_T106 x8_1 ((rd_T109 l1 x9_1).f0)).f4) ((rd_T106 x8_1 ((rd_T109 l1 x9_1).f0)).f5))) else (spec_l15Each.j2 kj13 l0 l1 a2 x8_1 x9_1 (decide ((wrap64 (((rd_T106 x8_1 ((rd_T109 l1 x9_1).f0)).f4) - ((rd_T106 x8_1 ((rd_T109 l1 x9_1).f0)).f5))) < ((rd_T109 l1 x9_1).f1))) ((rd_T109 l1 x9_1).f0) ((rd_T109 l1 x9_1).f1) ((rd_T106 x8_1 ((rd_T109 l1 x9_1).f0)).f0) ((rd_T106 x8_1 ((rd_T109 l1 x9_1).f0)).f1) ((rd_T106 x8_1 ((rd_T109 l1 x9_1).f0)).f2) ((rd_T106 x8_1 ((rd_T109 l1 x9_1).f0)).f3) ((rd_T106 x8_1 ((rd_T109 l1 x9_1).f0)).f4) ((rd_T106 x8_1 ((rd_T109 l1 x9_1).f0)).f5))) else (none)) else (none)) = some (r1, r2) := by rw [if_neg (show ¬ (false = true) by decide)] at H; exact H
       clear H
       have H := H1
       clear H1
       by_cases c25 : 0 ≤ ((rd_T109 l1 x9_1).f0)
       case neg => rw [if_neg c25] at H; exact absurd H (by simp)
       rw [if_pos c25] at H
       have c25b0 : decide (0 ≤ ((rd_T109 l1 x9_1).f0)) = true := decide_eq_true c25
       clear c25
       by_cases c26 : ((rd_T109 l1 x9_1).f0) < (x8_1.length : Int)
       case neg => rw [if_neg c26] at H; exact absurd H (by simp)
       rw [if_pos c26] at H
       have c26b0 : decide (((rd_T109 l1 x9_1).f0) < (x8_1.length : Int)) = true := decide_eq_true c26
       clear c26
       have HC27 := Aside0.mk H
       clear H
       have hcz28_0 : wc.cell? ⟨gb139, 0, none⟩ = some (.int .i64 ((rd_T109 l1 x9_1).f0)) := (qe0 BK139.out 0).trans rfl
       have hcz28_1 : wc.cell? ⟨gb139, 1, none⟩ = some (.int .i64 ((rd_T109 l1 x9_1).f1)) := (qe0 BK139.out 1).trans rfl
       have hfz28_0 := qd0 BK139.out 0
       have hfz28_1 := qd0 BK139.out 1
       obtain ⟨Ao29, co29, eo29⟩ := Kd.qh1 HO_8.out
       subst eo29
       have p145 : 0 ≤ (((rd_T109 l1 x9_1).f0) : Int) := of_decide_eq_true (by first | (with_reducible assumption) | assumption)
       have q145 : ((rd_T109 l1 x9_1).f0) < (x8_1.length : Int) := of_decide_eq_true (by first | (with_reducible assumption) | assumption)
       obtain ⟨ad145, e145, hx145_0, hx145_1, hx145_2, hx145_3, hx145_4, hx145_5⟩ := at_T106 (Kd.qp0 HO_8.out).2.2 ((rd_T109 l1 x9_1).f0) p145 q145
       cases e145
       replace p145 := eq_true p145
       replace q145 := eq_true q145
       go_upto_region 13 with (first | ((with_reducible refine qt0 (N := 11) rfl ?_); refine qs0 ?hg (N := 11) ?hd (cs := #[.string (⟨#[]⟩ : ByteArray), .string (⟨#[]⟩ : ByteArray), .string (⟨#[]⟩ : ByteArray), .int .i64 0, .int .i64 0, .int .i64 0]) (t := 106) ?hr ?_; (case hd => rfl); (case hg => rfl); (case hr => first | (go_simp; done) | (go_simp; rfl)); intro gb146 hg w30 hbox hb; have n0_ := Aside0.mk (Kd.qr0 (Kd.R_elderB (by (with_reducible repeat (first | apply Kd.qm0 | apply Kd.ql0 | apply Kd.qo0)); exact HO_8.out) gb146 (Nat.le_of_eq hg.symm)) hb); have n1_ := Aside0.mk (qb1 (g := gb139) (o := .cells #[.int .i64 ((rd_T109 l1 x9_1).f0), .int .i64 ((rd_T109 l1 x9_1).f1)] 109 (0, 0)) (by (with_reducible repeat (first | refine qi0 ?_ _ | refine qk0 ?_ | refine qj0 ?_ _)); exact BK139.out) hb); have n2_ := Aside0.mk (qf0 (by repeat (first | (with_reducible first | exact HB.out | apply qc0 | apply qa0 | apply qb0 | refine qg0 ?_ GE139.out) | exact HB.out)) hb); have n3_ := Aside0.mk (hbox); have n4_ := Aside0.mk ((by rw [hg]; exact (qh0 (by repeat (first | (with_reducible first | exact HB.out | apply qc0 | apply qa0 | apply qb0 | refine qg0 ?_ GE139.out) | exact HB.out))) : w.heap.size ≤ gb146)); have n5_ := Aside0.mk ((by rw [hg]; exact (qh0 (by repeat (first | (with_reducible first | exact HB.out | apply qc0 | apply qa0 | apply qb0 | refine qg0 ?_ GE139.out) | exact HB.out))) : w.heap.size ≤ gb146)); have n6_ := Aside0.mk ((by rw [hg]; exact Nat.ne_of_lt (qg1 (g := gb139) (o := .cells #[.int .i64 ((rd_T109 l1 x9_1).f0), .int .i64 ((rd_T109 l1 x9_1).f1)] 109 (0, 0)) (by (with_reducible repeat (first | refine qi0 ?_ _ | refine qk0 ?_ | refine qj0 ?_ _)); exact BK139.out)) : gb139 ≠ gb146)); have n7_ := Aside0.mk ((by rw [hg]; exact Nat.ne_of_gt (qg1 (g := gb139) (o := .cells #[.int .i64 ((rd_T109 l1 x9_1).f0), .int .i64 ((rd_T109 l1 x9_1).f1)] 109 (0, 0)) (by (with_reducible repeat (first | refine qi0 ?_ _ | refine qk0 ?_ | refine qj0 ?_ _)); exact BK139.out)) : gb146 ≠ gb139)); clear HO_8; clear BK139; clear HB; have HO_8 := n0_; have BK139 := n1_; have HB := n2_; have BK146 := n3_; have GW146 := n4_; have GE146 := n5_; have NB139_146 := n6_; have NB146_139 := n7_; clear n0_ n1_ n2_ n3_ n4_ n5_ n6_ n7_; clear hb hbox hg; have hnb31 := NB146_139.out; have hnc31 := NB139_146.out; have hcz32_0 : w30.cell? ⟨gb146, 0, none⟩ = some (.string (⟨#[]⟩ : ByteArray)) := (qe0 BK146.out 0).trans rfl; have hcz32_1 : w30.cell? ⟨gb146, 1, none⟩ = some (.string (⟨#[]⟩ : ByteArray)) := (qe0 BK146.out 1).trans rfl; have hcz32_2 : w30.cell? ⟨gb146, 2, none⟩ = some (.string (⟨#[]⟩ : ByteArray)) := (qe0 BK146.out 2).trans rfl; have hcz32_3 : w30.cell? ⟨gb146, 3, none⟩ = some (.int .i64 0) := (qe0 BK146.out 3).trans rfl; have hcz32_4 : w30.cell? ⟨gb146, 4, none⟩ = some (.int .i64 0) := (qe0 BK146.out 4).trans rfl; have hcz32_5 : w30.cell? ⟨gb146, 5, none⟩ = some (.int .i64 0) := (qe0 BK146.out 5).trans rfl; have hfz32_0 := qd0 BK146.out 0; have hfz32_1 := qd0 BK146.out 1; have hfz32_2 := qd0 BK146.out 2; have hfz32_3 := qd0 BK146.out 3; have hfz32_4 := qd0 BK146.out 4; have hfz32_5 := qd0 BK146.out 5))
       (try simp only [Act.put, List.setIfInBounds_toArray, List.set_cons_zero, List.set_cons_succ])
       go_cut [73] (fun v73 wc => ∃ (kq : Nat) (x73_26 : Bool), v73 = .bool x73_26 ∧ Aside0 (spec_l15Each.j2 kq l0 l1 a2 x8_1 x9_1 x73_26 ((rd_T109 l1 x9_1).f0) ((rd_T109 l1 x9_1).f1) ((rd_T106 x8_1 ((rd_T109 l1 x9_1).f0)).f0) ((rd_T106 x8_1 ((rd_T109 l1 x9_1).f0)).f1) ((rd_T106 x8_1 ((rd_T109 l1 x9_1).f0)).f2) ((rd_T106 x8_1 ((rd_T109 l1 x9_1).f0)).f3) ((rd_T106 x8_1 ((rd_T109 l1 x9_1).f0)).f4) ((rd_T106 x8_1 ((rd_T109 l1 x9_1).f0)).f5) = some (r1, r2)) ∧ Aside0 (kq ≤ kj13) ∧ Aside0 (Kd.R k106 106 wc w.heap.size (fun k_ => k_ ≠ gb146) (.slice (some ad145) x8_1.length co29) x8_1) ∧ Aside0 (wc.heap[gb139]? = some (.cells #[.int .i64 ((rd_T109 l1 x9_1).f0), .int .i64 ((rd_T109 l1 x9_1).f1)] 109 (0, 0))) ∧ Aside0 (wc.heap[gb146]? = some (.cells #[.string ((rd_T106 x8_1 ((rd_T109 l1 x9_1).f0)).f0), .string ((rd_T106 x8_1 ((rd_T109 l1 x9_1).f0)).f1), .string ((rd_T106 x8_1 ((rd_T109 l1 x9_1).f0)).f2), .int .i64 ((rd_T106 x8_1 ((rd_T109 l1 x9_1).f0)).f3), .int .i64 ((rd_T106 x8_1 ((rd_T109 l1 x9_1).f0)).f4), .int .i64 ((rd_T106 x8_1 ((rd_T109 l1 x9_1).f0)).f5)] 106 (0, 0))) ∧ Aside0 (Below w.heap.size w wc))
       case first =>
        have H := HC27.out
        clear HC27
        by_cases c33 : a2 = true
        ·subst c33
         have H1 : (if ((rd_T106 x8_1 ((rd_T109 l1 x9_1).f0)).f5) < ((rd_T109 l1 x9_1).f1) then (spec_l15Each.j2 kj13 l0 l1 true x8_1 x9_1 true ((rd_T109 l1 x9_1).f0) ((rd_T109 l1 x9_1).f1) ((rd_T106 x8_1 ((rd_T109 l1 x9_1).f0)).f0) ((rd_T106 x8_1 ((rd_T109 l1 x9_1).f0)).f1) ((rd_T106 x8_1 ((rd_T109 l1 x9_1).f0)).f2) ((rd_T106 x8_1 ((rd_T109 l1 x9_1).f0)).f3) ((rd_T106 x8_1 ((rd_T109 l1 x9_1).f0)).f4) ((rd_T106 x8_1 ((rd_T109 l1 x9_1).f0)).f5)) else (spec_l15Each.j2 kj13 l0 l1 true x8_1 x9_1 false ((rd_T109 l1 x9_1).f0) ((rd_T109 l1 x9_1).f1) ((rd_T106 x8_1 ((rd_T109 l1 x9_1).f0)).f0) ((rd_T106 x8_1 ((rd_T109 l1 x9_1).f0)).f1) ((rd_T106 x8_1 ((rd_T109 l1 x9_1).f0)).f2) ((rd_T106 x8_1 ((rd_T109 l1 x9_1).f0)).f3) ((rd_T106 x8_1 ((rd_T109 l1 x9_1).f0)).f4) ((rd_T106 x8_1 ((rd_T109 l1 x9_1).f0)).f5))) = some (r1, r2) := by rw [if_pos rfl] at H; exact H
         clear H
         have H := H1
         clear H1
         by_cases c34 : ((rd_T106 x8_1 ((rd_T109 l1 x9_1).f0)).f5) < ((rd_T109 l1 x9_1).f1)
         ·rw [if_pos c34] at H
          have c34b0 : decide (((rd_T106 x8_1 ((rd_T109 l1 x9_1).f0)).f5) < ((rd_T109 l1 x9_1).f1)) = true := decide_eq_true c34
          clear c34
          (first | rw [c34b0] | (simp only [i64_w, i32_w]; rw [c34b0]) | skip)
          have H' := Aside0.mk H
          clear H
          have hnb35 := NB146_139.out
          have hnc35 := NB139_146.out
          have hcz36_0 : w30.cell? ⟨gb146, 0, none⟩ = some (.string (⟨#[]⟩ : ByteArray)) := (qe0 BK146.out 0).trans rfl
          have hcz36_1 : w30.cell? ⟨gb146, 1, none⟩ = some (.string (⟨#[]⟩ : ByteArray)) := (qe0 BK146.out 1).trans rfl
          have hcz36_2 : w30.cell? ⟨gb146, 2, none⟩ = some (.string (⟨#[]⟩ : ByteArray)) := (qe0 BK146.out 2).trans rfl
          have hcz36_3 : w30.cell? ⟨gb146, 3, none⟩ = some (.int .i64 0) := (qe0 BK146.out 3).trans rfl
          have hcz36_4 : w30.cell? ⟨gb146, 4, none⟩ = some (.int .i64 0) := (qe0 BK146.out 4).trans rfl
          have hcz36_5 : w30.cell? ⟨gb146, 5, none⟩ = some (.int .i64 0) := (qe0 BK146.out 5).trans rfl
          have hfz36_0 := qd0 BK146.out 0
          have hfz36_1 := qd0 BK146.out 1
          have hfz36_2 := qd0 BK146.out 2
          have hfz36_3 := qd0 BK146.out 3
          have hfz36_4 := qd0 BK146.out 4
          have hfz36_5 := qd0 BK146.out 5
          have hcz37_0 : w30.cell? ⟨gb139, 0, none⟩ = some (.int .i64 ((rd_T109 l1 x9_1).f0)) := (qe0 BK139.out 0).trans rfl
          have hcz37_1 : w30.cell? ⟨gb139, 1, none⟩ = some (.int .i64 ((rd_T109 l1 x9_1).f1)) := (qe0 BK139.out 1).trans rfl
          have hfz37_0 := qd0 BK139.out 0
          have hfz37_1 := qd0 BK139.out 1
          go_wp2
          go_meet
          case rel => exact ⟨_, (true), (by first | rfl | (simp; done) | (simp [*]; done)), H', ⟨by have := HK1.out; have := HJ13.out; first | omega | exact Nat.le_refl _⟩, ⟨by (with_reducible repeat (first | apply Kd.qm0 | apply Kd.ql0 | apply Kd.qo0)); exact Kd.qz0 (Kd.R_far (p := ⟨gb146, 5, none⟩) (Kd.R_far (p := ⟨gb146, 4, none⟩) (Kd.R_far (p := ⟨gb146, 3, none⟩) (Kd.R_far (p := ⟨gb146, 2, none⟩) (Kd.R_far (p := ⟨gb146, 1, none⟩) (Kd.R_far (p := ⟨gb146, 0, none⟩) (Kd.qz0 HO_8.out (fun k_ hk => (⟨hk, hk.2⟩ : _ ∧ k_ ≠ gb146))) (fun _ hk => hk.2) (.string ((rd_T106 x8_1 ((rd_T109 l1 x9_1).f0)).f0))) (fun _ hk => hk.2) (.string ((rd_T106 x8_1 ((rd_T109 l1 x9_1).f0)).f1))) (fun _ hk => hk.2) (.string ((rd_T106 x8_1 ((rd_T109 l1 x9_1).f0)).f2))) (fun _ hk => hk.2) (.int .i64 ((rd_T106 x8_1 ((rd_T109 l1 x9_1).f0)).f3))) (fun _ hk => hk.2) (.int .i64 ((rd_T106 x8_1 ((rd_T109 l1 x9_1).f0)).f4))) (fun _ hk => hk.2) (.int .i64 ((rd_T106 x8_1 ((rd_T109 l1 x9_1).f0)).f5))) (fun _ hk => hk.1.2)⟩, ⟨by (with_reducible repeat (first | refine qi0 ?_ _ | refine qk0 ?_ | refine qj0 ?_ _)); refine qk1 ?_ NB139_146.out _; (with_reducible repeat (first | refine qi0 ?_ _ | refine qk0 ?_ | refine qj0 ?_ _)); refine qk1 ?_ NB139_146.out _; (with_reducible repeat (first | refine qi0 ?_ _ | refine qk0 ?_ | refine qj0 ?_ _)); refine qk1 ?_ NB139_146.out _; (with_reducible repeat (first | refine qi0 ?_ _ | refine qk0 ?_ | refine qj0 ?_ _)); refine qk1 ?_ NB139_146.out _; (with_reducible repeat (first | refine qi0 ?_ _ | refine qk0 ?_ | refine qj0 ?_ _)); refine qk1 ?_ NB139_146.out _; (with_reducible repeat (first | refine qi0 ?_ _ | refine qk0 ?_ | refine qj0 ?_ _)); refine qk1 ?_ NB139_146.out _; (with_reducible repeat (first | refine qi0 ?_ _ | refine qk0 ?_ | refine qj0 ?_ _)); exact BK139.out⟩, ⟨by (with_reducible repeat (first | refine qi0 ?_ _ | refine qk0 ?_ | refine qj0 ?_ _)); refine qx0 (cs := #[.string ((rd_T106 x8_1 ((rd_T109 l1 x9_1).f0)).f0), .string ((rd_T106 x8_1 ((rd_T109 l1 x9_1).f0)).f1), .string ((rd_T106 x8_1 ((rd_T109 l1 x9_1).f0)).f2), .int .i64 ((rd_T106 x8_1 ((rd_T109 l1 x9_1).f0)).f3), .int .i64 ((rd_T106 x8_1 ((rd_T109 l1 x9_1).f0)).f4), .int .i64 0]) ?_ 5 _ rfl; (with_reducible repeat (first | refine qi0 ?_ _ | refine qk0 ?_ | refine qj0 ?_ _)); refine qx0 (cs := #[.string ((rd_T106 x8_1 ((rd_T109 l1 x9_1).f0)).f0), .string ((rd_T106 x8_1 ((rd_T109 l1 x9_1).f0)).f1), .string ((rd_T106 x8_1 ((rd_T109 l1 x9_1).f0)).f2), .int .i64 ((rd_T106 x8_1 ((rd_T109 l1 x9_1).f0)).f3), .int .i64 0, .int .i64 0]) ?_ 4 _ rfl; (with_reducible repeat (first | refine qi0 ?_ _ | refine qk0 ?_ | refine qj0 ?_ _)); refine qx0 (cs := #[.string ((rd_T106 x8_1 ((rd_T109 l1 x9_1).f0)).f0), .string ((rd_T106 x8_1 ((rd_T109 l1 x9_1).f0)).f1), .string ((rd_T106 x8_1 ((rd_T109 l1 x9_1).f0)).f2), .int .i64 0, .int .i64 0, .int .i64 0]) ?_ 3 _ rfl; (with_reducible repeat (first | refine qi0 ?_ _ | refine qk0 ?_ | refine qj0 ?_ _)); refine qx0 (cs := #[.string ((rd_T106 x8_1 ((rd_T109 l1 x9_1).f0)).f0), .string ((rd_T106 x8_1 ((rd_T109 l1 x9_1).f0)).f1), .string (⟨#[]⟩ : ByteArray), .int .i64 0, .int .i64 0, .int .i64 0]) ?_ 2 _ rfl; (with_reducible repeat (first | refine qi0 ?_ _ | refine qk0 ?_ | refine qj0 ?_ _)); refine qx0 (cs := #[.string ((rd_T106 x8_1 ((rd_T109 l1 x9_1).f0)).f0), .string (⟨#[]⟩ : ByteArray), .string (⟨#[]⟩ : ByteArray), .int .i64 0, .int .i64 0, .int .i64 0]) ?_ 1 _ rfl; (with_reducible repeat (first | refine qi0 ?_ _ | refine qk0 ?_ | refine qj0 ?_ _)); refine qx0 (cs := #[.string (⟨#[]⟩ : ByteArray), .string (⟨#[]⟩ : ByteArray), .string (⟨#[]⟩ : ByteArray), .int .i64 0, .int .i64 0, .int .i64 0]) ?_ 0 _ rfl; (with_reducible repeat (first | refine qi0 ?_ _ | refine qk0 ?_ | refine qj0 ?_ _)); exact BK146.out⟩, ⟨by repeat (first | (with_reducible first | exact HB.out | apply qc0 | apply qa0 | apply qb0 | refine qg0 ?_ GE139.out | refine qg0 ?_ GE146.out) | exact HB.out)⟩⟩
         rw [if_neg c34] at H
         have c34b0 : decide (((rd_T106 x8_1 ((rd_T109 l1 x9_1).f0)).f5) < ((rd_T109 l1 x9_1).f1)) = false := decide_eq_false c34
         clear c34
         (first | rw [c34b0] | (simp only [i64_w, i32_w]; rw [c34b0]) | skip)
         have H' := Aside0.mk H
         clear H
         have hnb38 := NB146_139.out
         have hnc38 := NB139_146.out
         have hcz39_0 : w30.cell? ⟨gb146, 0, none⟩ = some (.string (⟨#[]⟩ : ByteArray)) := (qe0 BK146.out 0).trans rfl
         have hcz39_1 : w30.cell? ⟨gb146, 1, none⟩ = some (.string (⟨#[]⟩ : ByteArray)) := (qe0 BK146.out 1).trans rfl
         have hcz39_2 : w30.cell? ⟨gb146, 2, none⟩ = some (.string (⟨#[]⟩ : ByteArray)) := (qe0 BK146.out 2).trans rfl
         have hcz39_3 : w30.cell? ⟨gb146, 3, none⟩ = some (.int .i64 0) := (qe0 BK146.out 3).trans rfl
         have hcz39_4 : w30.cell? ⟨gb146, 4, none⟩ = some (.int .i64 0) := (qe0 BK146.out 4).trans rfl
         have hcz39_5 : w30.cell? ⟨gb146, 5, none⟩ = some (.int .i64 0) := (qe0 BK146.out 5).trans rfl
         have hfz39_0 := qd0 BK146.out 0
         have hfz39_1 := qd0 BK146.out 1
         have hfz39_2 := qd0 BK146.out 2
         have hfz39_3 := qd0 BK146.out 3
         have hfz39_4 := qd0 BK146.out 4
         have hfz39_5 := qd0 BK146.out 5
         have hcz40_0 : w30.cell? ⟨gb139, 0, none⟩ = some (.int .i64 ((rd_T109 l1 x9_1).f0)) := (qe0 BK139.out 0).trans rfl
         have hcz40_1 : w30.cell? ⟨gb139, 1, none⟩ = some (.int .i64 ((rd_T109 l1 x9_1).f1)) := (qe0 BK139.out 1).trans rfl
         have hfz40_0 := qd0 BK139.out 0
         have hfz40_1 := qd0 BK139.out 1
         go_wp2
         go_meet
         case rel => exact ⟨_, (false), (by first | rfl | (simp; done) | (simp [*]; done)), H', ⟨by have := HK1.out; have := HJ13.out; first | omega | exact Nat.le_refl _⟩, ⟨by (with_reducible repeat (first | apply Kd.qm0 | apply Kd.ql0 | apply Kd.qo0)); exact Kd.qz0 (Kd.R_far (p := ⟨gb146, 5, none⟩) (Kd.R_far (p := ⟨gb146, 4, none⟩) (Kd.R_far (p := ⟨gb146, 3, none⟩) (Kd.R_far (p := ⟨gb146, 2, none⟩) (Kd.R_far (p := ⟨gb146, 1, none⟩) (Kd.R_far (p := ⟨gb146, 0, none⟩) (Kd.qz0 HO_8.out (fun k_ hk => (⟨hk, hk.2⟩ : _ ∧ k_ ≠ gb146))) (fun _ hk => hk.2) (.string ((rd_T106 x8_1 ((rd_T109 l1 x9_1).f0)).f0))) (fun _ hk => hk.2) (.string ((rd_T106 x8_1 ((rd_T109 l1 x9_1).f0)).f1))) (fun _ hk => hk.2) (.string ((rd_T106 x8_1 ((rd_T109 l1 x9_1).f0)).f2))) (fun _ hk => hk.2) (.int .i64 ((rd_T106 x8_1 ((rd_T109 l1 x9_1).f0)).f3))) (fun _ hk => hk.2) (.int .i64 ((rd_T106 x8_1 ((rd_T109 l1 x9_1).f0)).f4))) (fun _ hk => hk.2) (.int .i64 ((rd_T106 x8_1 ((rd_T109 l1 x9_1).f0)).f5))) (fun _ hk => hk.1.2)⟩, ⟨by (with_reducible repeat (first | refine qi0 ?_ _ | refine qk0 ?_ | refine qj0 ?_ _)); refine qk1 ?_ NB139_146.out _; (with_reducible repeat (first | refine qi0 ?_ _ | refine qk0 ?_ | refine qj0 ?_ _)); refine qk1 ?_ NB139_146.out _; (with_reducible repeat (first | refine qi0 ?_ _ | refine qk0 ?_ | refine qj0 ?_ _)); refine qk1 ?_ NB139_146.out _; (with_reducible repeat (first | refine qi0 ?_ _ | refine qk0 ?_ | refine qj0 ?_ _)); refine qk1 ?_ NB139_146.out _; (with_reducible repeat (first | refine qi0 ?_ _ | refine qk0 ?_ | refine qj0 ?_ _)); refine qk1 ?_ NB139_146.out _; (with_reducible repeat (first | refine qi0 ?_ _ | refine qk0 ?_ | refine qj0 ?_ _)); refine qk1 ?_ NB139_146.out _; (with_reducible repeat (first | refine qi0 ?_ _ | refine qk0 ?_ | refine qj0 ?_ _)); exact BK139.out⟩, ⟨by (with_reducible repeat (first | refine qi0 ?_ _ | refine qk0 ?_ | refine qj0 ?_ _)); refine qx0 (cs := #[.string ((rd_T106 x8_1 ((rd_T109 l1 x9_1).f0)).f0), .string ((rd_T106 x8_1 ((rd_T109 l1 x9_1).f0)).f1), .string ((rd_T106 x8_1 ((rd_T109 l1 x9_1).f0)).f2), .int .i64 ((rd_T106 x8_1 ((rd_T109 l1 x9_1).f0)).f3), .int .i64 ((rd_T106 x8_1 ((rd_T109 l1 x9_1).f0)).f4), .int .i64 0]) ?_ 5 _ rfl; (with_reducible repeat (first | refine qi0 ?_ _ | refine qk0 ?_ | refine qj0 ?_ _)); refine qx0 (cs := #[.string ((rd_T106 x8_1 ((rd_T109 l1 x9_1).f0)).f0), .string ((rd_T106 x8_1 ((rd_T109 l1 x9_1).f0)).f1), .string ((rd_T106 x8_1 ((rd_T109 l1 x9_1).f0)).f2), .int .i64 ((rd_T106 x8_1 ((rd_T109 l1 x9_1).f0)).f3), .int .i64 0, .int .i64 0]) ?_ 4 _ rfl; (with_reducible repeat (first | refine qi0 ?_ _ | refine qk0 ?_ | refine qj0 ?_ _)); refine qx0 (cs := #[.string ((rd_T106 x8_1 ((rd_T109 l1 x9_1).f0)).f0), .string ((rd_T106 x8_1 ((rd_T109 l1 x9_1).f0)).f1), .string ((rd_T106 x8_1 ((rd_T109 l1 x9_1).f0)).f2), .int .i64 0, .int .i64 0, .int .i64 0]) ?_ 3 _ rfl; (with_reducible repeat (first | refine qi0 ?_ _ | refine qk0 ?_ | refine qj0 ?_ _)); refine qx0 (cs := #[.string ((rd_T106 x8_1 ((rd_T109 l1 x9_1).f0)).f0), .string ((rd_T106 x8_1 ((rd_T109 l1 x9_1).f0)).f1), .string (⟨#[]⟩ : ByteArray), .int .i64 0, .int .i64 0, .int .i64 0]) ?_ 2 _ rfl; (with_reducible repeat (first | refine qi0 ?_ _ | refine qk0 ?_ | refine qj0 ?_ _)); refine qx0 (cs := #[.string ((rd_T106 x8_1 ((rd_T109 l1 x9_1).f0)).f0), .string (⟨#[]⟩ : ByteArray), .string (⟨#[]⟩ : ByteArray), .int .i64 0, .int .i64 0, .int .i64 0]) ?_ 1 _ rfl; (with_reducible repeat (first | refine qi0 ?_ _ | refine qk0 ?_ | refine qj0 ?_ _)); refine qx0 (cs := #[.string (⟨#[]⟩ : ByteArray), .string (⟨#[]⟩ : ByteArray), .string (⟨#[]⟩ : ByteArray), .int .i64 0, .int .i64 0, .int .i64 0]) ?_ 0 _ rfl; (with_reducible repeat (first | refine qi0 ?_ _ | refine qk0 ?_ | refine qj0 ?_ _)); exact BK146.out⟩, ⟨by repeat (first | (with_reducible first | exact HB.out | apply qc0 | apply qa0 | apply qb0 | refine qg0 ?_ GE139.out | refine qg0 ?_ GE146.out) | exact HB.out)⟩⟩
        replace c33 := Bool.eq_false_iff.mpr c33
        subst c33
        have H1 : (spec_l15Each.j2 kj13 l0 l1 false x8_1 x9_1 (decide ((wrap64 (((rd_T106 x8_1 ((rd_T109 l1 x9_1).f0)).f4) - ((rd_T106 x8_1 ((rd_T109 l1 x9_1).f0)).f5))) < ((rd_T109 l1 x9_1).f1))) ((rd_T109 l1 x9_1).f0) ((rd_T109 l1 x9_1).f1) ((rd_T106 x8_1 ((rd_T109 l1 x9_1).f0)).f0) ((rd_T106 x8_1 ((rd_T109 l1 x9_1).f0)).f1) ((rd_T106 x8_1 ((rd_T109 l1 x9_1).f0)).f2) ((rd_T106 x8_1 ((rd_T109 l1 x9_1).f0)).f3) ((rd_T106 x8_1 ((rd_T109 l1 x9_1).f0)).f4) ((rd_T106 x8_1 ((rd_T109 l1 x9_1).f0)).f5)) = some (r1, r2) := by rw [if_neg (show ¬ (false = true) by decide)] at H; exact H
        clear H
        have H := H1
        clear H1
        have H' := Aside0.mk H
        clear H
        have hnb41 := NB146_139.out
        have hnc41 := NB139_146.out
        have hcz42_0 : w30.cell? ⟨gb146, 0, none⟩ = some (.string (⟨#[]⟩ : ByteArray)) := (qe0 BK146.out 0).trans rfl
        have hcz42_1 : w30.cell? ⟨gb146, 1, none⟩ = some (.string (⟨#[]⟩ : ByteArray)) := (qe0 BK146.out 1).trans rfl
        have hcz42_2 : w30.cell? ⟨gb146, 2, none⟩ = some (.string (⟨#[]⟩ : ByteArray)) := (qe0 BK146.out 2).trans rfl
        have hcz42_3 : w30.cell? ⟨gb146, 3, none⟩ = some (.int .i64 0) := (qe0 BK146.out 3).trans rfl
        have hcz42_4 : w30.cell? ⟨gb146, 4, none⟩ = some (.int .i64 0) := (qe0 BK146.out 4).trans rfl
        have hcz42_5 : w30.cell? ⟨gb146, 5, none⟩ = some (.int .i64 0) := (qe0 BK146.out 5).trans rfl
        have hfz42_0 := qd0 BK146.out 0
        have hfz42_1 := qd0 BK146.out 1
        have hfz42_2 := qd0 BK146.out 2
        have hfz42_3 := qd0 BK146.out 3
        have hfz42_4 := qd0 BK146.out 4
        have hfz42_5 := qd0 BK146.out 5
        have hcz43_0 : w30.cell? ⟨gb139, 0, none⟩ = some (.int .i64 ((rd_T109 l1 x9_1).f0)) := (qe0 BK139.out 0).trans rfl
        have hcz43_1 : w30.cell? ⟨gb139, 1, none⟩ = some (.int .i64 ((rd_T109 l1 x9_1).f1)) := (qe0 BK139.out 1).trans rfl
        have hfz43_0 := qd0 BK139.out 0
        have hfz43_1 := qd0 BK139.out 1
        go_wp2
        go_meet
        case rel => exact ⟨_, (decide ((wrap64 (((rd_T106 x8_1 ((rd_T109 l1 x9_1).f0)).f4) - ((rd_T106 x8_1 ((rd_T109 l1 x9_1).f0)).f5))) < ((rd_T109 l1 x9_1).f1))), (by first | rfl | (simp; done) | (simp [*]; done)), H', ⟨by have := HK1.out; have := HJ13.out; first | omega | exact Nat.le_refl _⟩, ⟨by (with_reducible repeat (first | apply Kd.qm0 | apply Kd.ql0 | apply Kd.qo0)); exact Kd.qz0 (Kd.R_far (p := ⟨gb146, 5, none⟩) (Kd.R_far (p := ⟨gb146, 4, none⟩) (Kd.R_far (p := ⟨gb146, 3, none⟩) (Kd.R_far (p := ⟨gb146, 2, none⟩) (Kd.R_far (p := ⟨gb146, 1, none⟩) (Kd.R_far (p := ⟨gb146, 0, none⟩) (Kd.qz0 HO_8.out (fun k_ hk => (⟨hk, hk.2⟩ : _ ∧ k_ ≠ gb146))) (fun _ hk => hk.2) (.string ((rd_T106 x8_1 ((rd_T109 l1 x9_1).f0)).f0))) (fun _ hk => hk.2) (.string ((rd_T106 x8_1 ((rd_T109 l1 x9_1).f0)).f1))) (fun _ hk => hk.2) (.string ((rd_T106 x8_1 ((rd_T109 l1 x9_1).f0)).f2))) (fun _ hk => hk.2) (.int .i64 ((rd_T106 x8_1 ((rd_T109 l1 x9_1).f0)).f3))) (fun _ hk => hk.2) (.int .i64 ((rd_T106 x8_1 ((rd_T109 l1 x9_1).f0)).f4))) (fun _ hk => hk.2) (.int .i64 ((rd_T106 x8_1 ((rd_T109 l1 x9_1).f0)).f5))) (fun _ hk => hk.1.2)⟩, ⟨by (with_reducible repeat (first | refine qi0 ?_ _ | refine qk0 ?_ | refine qj0 ?_ _)); refine qk1 ?_ NB139_146.out _; (with_reducible repeat (first | refine qi0 ?_ _ | refine qk0 ?_ | refine qj0 ?_ _)); refine qk1 ?_ NB139_146.out _; (with_reducible repeat (first | refine qi0 ?_ _ | refine qk0 ?_ | refine qj0 ?_ _)); refine qk1 ?_ NB139_146.out _; (with_reducible repeat (first | refine qi0 ?_ _ | refine qk0 ?_ | refine qj0 ?_ _)); refine qk1 ?_ NB139_146.out _; (with_reducible repeat (first | refine qi0 ?_ _ | refine qk0 ?_ | refine qj0 ?_ _)); refine qk1 ?_ NB139_146.out _; (with_reducible repeat (first | refine qi0 ?_ _ | refine qk0 ?_ | refine qj0 ?_ _)); refine qk1 ?_ NB139_146.out _; (with_reducible repeat (first | refine qi0 ?_ _ | refine qk0 ?_ | refine qj0 ?_ _)); exact BK139.out⟩, ⟨by (with_reducible repeat (first | refine qi0 ?_ _ | refine qk0 ?_ | refine qj0 ?_ _)); refine qx0 (cs := #[.string ((rd_T106 x8_1 ((rd_T109 l1 x9_1).f0)).f0), .string ((rd_T106 x8_1 ((rd_T109 l1 x9_1).f0)).f1), .string ((rd_T106 x8_1 ((rd_T109 l1 x9_1).f0)).f2), .int .i64 ((rd_T106 x8_1 ((rd_T109 l1 x9_1).f0)).f3), .int .i64 ((rd_T106 x8_1 ((rd_T109 l1 x9_1).f0)).f4), .int .i64 0]) ?_ 5 _ rfl; (with_reducible repeat (first | refine qi0 ?_ _ | refine qk0 ?_ | refine qj0 ?_ _)); refine qx0 (cs := #[.string ((rd_T106 x8_1 ((rd_T109 l1 x9_1).f0)).f0), .string ((rd_T106 x8_1 ((rd_T109 l1 x9_1).f0)).f1), .string ((rd_T106 x8_1 ((rd_T109 l1 x9_1).f0)).f2), .int .i64 ((rd_T106 x8_1 ((rd_T109 l1 x9_1).f0)).f3), .int .i64 0, .int .i64 0]) ?_ 4 _ rfl; (with_reducible repeat (first | refine qi0 ?_ _ | refine qk0 ?_ | refine qj0 ?_ _)); refine qx0 (cs := #[.string ((rd_T106 x8_1 ((rd_T109 l1 x9_1).f0)).f0), .string ((rd_T106 x8_1 ((rd_T109 l1 x9_1).f0)).f1), .string ((rd_T106 x8_1 ((rd_T109 l1 x9_1).f0)).f2), .int .i64 0, .int .i64 0, .int .i64 0]) ?_ 3 _ rfl; (with_reducible repeat (first | refine qi0 ?_ _ | refine qk0 ?_ | refine qj0 ?_ _)); refine qx0 (cs := #[.string ((rd_T106 x8_1 ((rd_T109 l1 x9_1).f0)).f0), .string ((rd_T106 x8_1 ((rd_T109 l1 x9_1).f0)).f1), .string (⟨#[]⟩ : ByteArray), .int .i64 0, .int .i64 0, .int .i64 0]) ?_ 2 _ rfl; (with_reducible repeat (first | refine qi0 ?_ _ | refine qk0 ?_ | refine qj0 ?_ _)); refine qx0 (cs := #[.string ((rd_T106 x8_1 ((rd_T109 l1 x9_1).f0)).f0), .string (⟨#[]⟩ : ByteArray), .string (⟨#[]⟩ : ByteArray), .int .i64 0, .int .i64 0, .int .i64 0]) ?_ 1 _ rfl; (with_reducible repeat (first | refine qi0 ?_ _ | refine qk0 ?_ | refine qj0 ?_ _)); refine qx0 (cs := #[.string (⟨#[]⟩ : ByteArray), .string (⟨#[]⟩ : ByteArray), .string (⟨#[]⟩ : ByteArray), .int .i64 0, .int .i64 0, .int .i64 0]) ?_ 0 _ rfl; (with_reducible repeat (first | refine qi0 ?_ _ | refine qk0 ?_ | refine qj0 ?_ _)); exact BK146.out⟩, ⟨by repeat (first | (with_reducible first | exact HB.out | apply qc0 | apply qa0 | apply qb0 | refine qg0 ?_ GE139.out | refine qg0 ?_ GE146.out) | exact HB.out)⟩⟩
       case rest =>
        clear HC27
        try clear c1
        try clear p1
        try clear q1
        try clear hx1
        try clear c2
        try clear p2
        try clear c3
        try clear c4
        try clear c5
        try clear p6
        try clear c7
        try clear c7b0
        try clear c7b1
        try clear c10
        try clear c12
        try clear c12b0
        try clear c13
        try clear c13b0
        try clear p13
        try clear q13
        try clear hx13
        try clear p14
        try clear q14
        try clear hx14
        try clear c18
        try clear c22
        try clear c25
        try clear c25b0
        try clear c26
        try clear c26b0
        try clear c31
        try clear c33
        try clear c34
        try clear c34b0
        try clear c35
        try clear c38
        try clear c41
        try clear hcz16_0
        try clear hcz16_1
        try clear hcz20_0
        try clear hcz20_1
        try clear hcz21_0
        try clear hcz21_1
        try clear hcz28_0
        try clear hcz28_1
        try clear hcz32_0
        try clear hcz32_1
        try clear hcz32_2
        try clear hcz32_3
        try clear hcz32_4
        try clear hcz32_5
        try clear hcz36_0
        try clear hcz36_1
        try clear hcz36_2
        try clear hcz36_3
        try clear hcz36_4
        try clear hcz36_5
        try clear hcz37_0
        try clear hcz37_1
        try clear hcz39_0
        try clear hcz39_1
        try clear hcz39_2
        try clear hcz39_3
        try clear hcz39_4
        try clear hcz39_5
        try clear hcz40_0
        try clear hcz40_1
        try clear hcz42_0
        try clear hcz42_1
        try clear hcz42_2
        try clear hcz42_3
        try clear hcz42_4
        try clear hcz42_5
        try clear hcz43_0
        try clear hcz43_1
        try clear hfz16_0
        try clear hfz16_1
        try clear hfz20_0
        try clear hfz20_1
        try clear hfz21_0
        try clear hfz21_1
        try clear hfz28_0
        try clear hfz28_1
        try clear hfz32_0
        try clear hfz32_1
        try clear hfz32_2
        try clear hfz32_3
        try clear hfz32_4
        try clear hfz32_5
        try clear hfz36_0
        try clear hfz36_1
        try clear hfz36_2
        try clear hfz36_3
        try clear hfz36_4
        try clear hfz36_5
        try clear hfz37_0
        try clear hfz37_1
        try clear hfz39_0
        try clear hfz39_1
        try clear hfz39_2
        try clear hfz39_3
        try clear hfz39_4
        try clear hfz39_5
        try clear hfz40_0
        try clear hfz40_1
        try clear hfz42_0
        try clear hfz42_1
        try clear hfz42_2
        try clear hfz42_3
        try clear hfz42_4
        try clear hfz42_5
        try clear hfz43_0
        try clear hfz43_1
        try clear hx138_0
        try clear hx138_1
        try clear hx145_0
        try clear hx145_1
        try clear hx145_2
        try clear hx145_3
        try clear hx145_4
        try clear hx145_5
        try clear p1
        try clear p13
        try clear p138
        try clear p145
        try clear p2
        try clear p6
        try clear q1
        try clear q13
        try clear q138
        try clear q145
        obtain ⟨kq, x73_26, rfl, HA, HJ26, HO_8, BK139, BK146, HB⟩ := hcut
        cases kq with
        | zero => exact absurd HA.out (by simp [spec_l15Each.j2])
        | succ kj26 =>
         have H := HA.out
         clear HA
         simp only [spec_l15Each.j2] at H
         by_cases c44 : x73_26 = true
         ·subst c44
          have H1 : ((spec_l15Copy.f l0).bind fun t147 => (some (t147, 3))) = some (r1, r2) := by rw [if_pos rfl] at H; exact H
          clear H
          have H := H1
          clear H1
          replace H := Option.bind_eq_some_iff.mp H
          obtain ⟨t147, A450, H⟩ := H
          replace H : (some (t147, 3)) = some (r1, r2) := H
          have A45 := Aside0.mk A450
          clear A450
          simp only [Option.some.injEq, Prod.mk.injEq] at H
          obtain ⟨rfl, rfl⟩ := H
          go_wp2_with (first | ((with_reducible refine qn0 (f := 106) rfl ?_); refine qu0 (some 75) rfl rfl Try.func106 (by kernel_rfl) rfl #[.slice A0 l0.length c0] rfl (by (try simp only [List.map_toArray, List.map_cons, List.map_nil]); first | done | rfl | (simp only [List.length_drop, List.length_take]; rfl)) ?_; (with_reducible refine (spec_l15Copy.calls _ _ l0 t147 _ ?side1 ?side2 A45.out).mono ?_); (case side1 => repeat (first | exact (Kd.qf1 HR0.out HB.out) | (with_reducible refine Kd.qw0 ?_ _) | (with_reducible refine Kd.qv0 ?_ _) | (with_reducible refine Kd.qy0 ?_))); (case side2 => exact HC0.out); rintro e w46 ⟨v148, rfl, ho0, hb⟩; refine ⟨_, rfl, ?_⟩; have n0_ := Aside0.mk (Kd.qj1 (by (with_reducible repeat (first | apply Kd.qm0 | apply Kd.ql0 | apply Kd.qo0)); exact HO_8.out) (Kd.qs1 ho0) hb); have n1_ := Aside0.mk (Kd.qi1 (Kd.R_newB (Kd.qr1 ho0 (Kd.R_lt (by (with_reducible repeat (first | apply Kd.qm0 | apply Kd.ql0 | apply Kd.qo0)); exact HO_8.out))) (g := gb146) (o := .cells #[.string ((rd_T106 x8_1 ((rd_T109 l1 x9_1).f0)).f0), .string ((rd_T106 x8_1 ((rd_T109 l1 x9_1).f0)).f1), .string ((rd_T106 x8_1 ((rd_T109 l1 x9_1).f0)).f2), .int .i64 ((rd_T106 x8_1 ((rd_T109 l1 x9_1).f0)).f3), .int .i64 ((rd_T106 x8_1 ((rd_T109 l1 x9_1).f0)).f4), .int .i64 ((rd_T106 x8_1 ((rd_T109 l1 x9_1).f0)).f5)] 106 (0, 0)) (by (with_reducible repeat (first | refine qi0 ?_ _ | refine qk0 ?_ | refine qj0 ?_ _)); exact BK146.out)) (qh0 (by repeat (first | (with_reducible first | exact HB.out | apply qc0 | apply qa0 | apply qb0 | refine qg0 ?_ GE139.out | refine qg0 ?_ GE146.out) | exact HB.out)))); have n2_ := Aside0.mk (qb1 (g := gb139) (o := .cells #[.int .i64 ((rd_T109 l1 x9_1).f0), .int .i64 ((rd_T109 l1 x9_1).f1)] 109 (0, 0)) (by (with_reducible repeat (first | refine qi0 ?_ _ | refine qk0 ?_ | refine qj0 ?_ _)); exact BK139.out) hb); have n3_ := Aside0.mk (qb1 (g := gb146) (o := .cells #[.string ((rd_T106 x8_1 ((rd_T109 l1 x9_1).f0)).f0), .string ((rd_T106 x8_1 ((rd_T109 l1 x9_1).f0)).f1), .string ((rd_T106 x8_1 ((rd_T109 l1 x9_1).f0)).f2), .int .i64 ((rd_T106 x8_1 ((rd_T109 l1 x9_1).f0)).f3), .int .i64 ((rd_T106 x8_1 ((rd_T109 l1 x9_1).f0)).f4), .int .i64 ((rd_T106 x8_1 ((rd_T109 l1 x9_1).f0)).f5)] 106 (0, 0)) (by (with_reducible repeat (first | refine qi0 ?_ _ | refine qk0 ?_ | refine qj0 ?_ _)); exact BK146.out) hb); have n4_ := Aside0.mk (qf0 (by repeat (first | (with_reducible first | exact HB.out | apply qc0 | apply qa0 | apply qb0 | refine qg0 ?_ GE139.out | refine qg0 ?_ GE146.out) | exact HB.out)) hb); clear HO_8; clear BK139; clear BK146; clear HB; have HO_8 := n0_; have HO149 := n1_; have BK139 := n2_; have BK146 := n3_; have HB := n4_; clear n0_ n1_ n2_ n3_ n4_; (try clear hb); (try clear hb2); (try clear hk); (try clear hi); (try clear ho0)))
          go_ret2
          exact ⟨_, by first | rfl | (simp [errW_none, errW_some] <;> rfl) | (simp [*, errW_none, errW_some] <;> rfl), by (with_reducible repeat (first | apply Kd.qm0 | apply Kd.ql0 | apply Kd.qo0)); exact Kd.qz0 HO149.out (fun _ hk => trivial), by repeat (first | (with_reducible first | exact HB.out | apply qc0 | apply qa0 | apply qb0 | refine qg0 ?_ GE139.out | refine qg0 ?_ GE146.out) | exact HB.out)⟩
         replace c44 := Bool.eq_false_iff.mpr c44
         subst c44
         have H1 : (if a2 = true then (if 0 ≤ ((rd_T109 l1 x9_1).f0) then (if ((rd_T109 l1 x9_1).f0) < (x8_1.length : Int) then (spec_l15Each.l0 kj26 l0 l1 a2 (x8_1.set (((rd_T109 l1 x9_1).f0) : Int).toNat (⟨((rd_T106 x8_1 ((rd_T109 l1 x9_1).f0)).f0), ((rd_T106 x8_1 ((rd_T109 l1 x9_1).f0)).f1), ((rd_T106 x8_1 ((rd_T109 l1 x9_1).f0)).f2), ((rd_T106 x8_1 ((rd_T109 l1 x9_1).f0)).f3), wrap64 (((rd_T106 x8_1 ((rd_T109 l1 x9_1).f0)).f4) - ((rd_T109 l1 x9_1).f1)), wrap64 (((rd_T106 x8_1 ((rd_T109 l1 x9_1).f0)).f5) - ((rd_T109 l1 x9_1).f1))⟩ : S106)) (wrap64 (x9_1 + 1))) else (none)) else (none)) else (if 0 ≤ ((rd_T109 l1 x9_1).f0) then (if ((rd_T109 l1 x9_1).f0) < (x8_1.length : Int) then (spec_l15Each.l0 kj26 l0 l1 a2 (x8_1.set (((rd_T109 l1 x9_1).f0) : Int).toNat (⟨((rd_T106 x8_1 ((rd_T109 l1 x9_1).f0)).f0), ((rd_T106 x8_1 ((rd_T109 l1 x9_1).f0)).f1), ((rd_T106 x8_1 ((rd_T109 l1 x9_1).f0)).f2), ((rd_T106 x8_1 ((rd_T109 l1 x9_1).f0)).f3), ((rd_T106 x8_1 ((rd_T109 l1 x9_1).f0)).f4), wrap64 (((rd_T106 x8_1 ((rd_T109 l1 x9_1).f0)).f5) + ((rd_T109 l1 x9_1).f1))⟩ : S106)) (wrap64 (x9_1 + 1))) else (none)) else (none))) = some (r1, r2) := by rw [if_neg (show ¬ (false = true) by decide)] at H; exact H
         clear H
         have H := H1
         clear H1
         by_cases c47 : a2 = true
         ·subst c47
          have H1 : (if 0 ≤ ((rd_T109 l1 x9_1).f0) then (if ((rd_T109 l1 x9_1).f0) < (x8_1.length : Int) then (spec_l15Each.l0 kj26 l0 l1 true (x8_1.set (((rd_T109 l1 x9_1).f0) : Int).toNat (⟨((rd_T106 x8_1 ((rd_T109 l1 x9_1).f0)).f0), ((rd_T106 x8_1 ((rd_T109 l1 x9_1).f0)).f1), ((rd_T106 x8_1 ((rd_T109 l1 x9_1).f0)).f2), ((rd_T106 x8_1 ((rd_T109 l1 x9_1).f0)).f3), wrap64 (((rd_T106 x8_1 ((rd_T109 l1 x9_1).f0)).f4) - ((rd_T109 l1 x9_1).f1)), wrap64 (((rd_T106 x8_1 ((rd_T109 l1 x9_1).f0)).f5) - ((rd_T109 l1 x9_1).f1))⟩ : S106)) (wrap64 (x9_1 + 1))) else (none)) else (none)) = some (r1, r2) := by rw [if_pos rfl] at H; exact H
          clear H
          have H := H1
          clear H1
          by_cases c48 : 0 ≤ ((rd_T109 l1 x9_1).f0)
          case neg => rw [if_neg c48] at H; exact absurd H (by simp)
          rw [if_pos c48] at H
          have c48b0 : decide (0 ≤ ((rd_T109 l1 x9_1).f0)) = true := decide_eq_true c48
          clear c48
          by_cases c49 : ((rd_T109 l1 x9_1).f0) < (x8_1.length : Int)
          case neg => rw [if_neg c49] at H; exact absurd H (by simp)
          rw [if_pos c49] at H
          have c49b0 : decide (((rd_T109 l1 x9_1).f0) < (x8_1.length : Int)) = true := decide_eq_true c49
          clear c49
          obtain ⟨y150, hy150⟩ : ∃ y_ : List (S106), y_ = (x8_1.set (((rd_T109 l1 x9_1).f0) : Int).toNat (⟨((rd_T106 x8_1 ((rd_T109 l1 x9_1).f0)).f0), ((rd_T106 x8_1 ((rd_T109 l1 x9_1).f0)).f1), ((rd_T106 x8_1 ((rd_T109 l1 x9_1).f0)).f2), ((rd_T106 x8_1 ((rd_T109 l1 x9_1).f0)).f3), wrap64 (((rd_T106 x8_1 ((rd_T109 l1 x9_1).f0)).f4) - ((rd_T109 l1 x9_1).f1)), wrap64 (((rd_T106 x8_1 ((rd_T109 l1 x9_1).f0)).f5) - ((rd_T109 l1 x9_1).f1))⟩ : S106)) := ⟨_, rfl⟩
          replace H : (spec_l15Each.l0 kj26 l0 l1 true y150 (wrap64 (x9_1 + 1))) = some (r1, r2) := by first | (rw [hy150]; with_reducible exact H) | (have H2_ := (Option.bind_some _ _).symm.trans H; rw [hy150]; with_reducible exact H2_) | (have H2_ := (Option.bind_some _ _).symm.trans H; with_reducible exact H2_) | with_reducible exact H | (rw [hy150]; exact H) | exact H
          have Ny150 := Aside0.mk hy150
          clear hy150
          have H' := Aside0.mk H
          clear H
          have hnb51 := NB146_139.out
          have hnc51 := NB139_146.out
          have hcz52_0 : wc.cell? ⟨gb146, 0, none⟩ = some (.string ((rd_T106 x8_1 ((rd_T109 l1 x9_1).f0)).f0)) := (qe0 BK146.out 0).trans rfl
          have hcz52_1 : wc.cell? ⟨gb146, 1, none⟩ = some (.string ((rd_T106 x8_1 ((rd_T109 l1 x9_1).f0)).f1)) := (qe0 BK146.out 1).trans rfl
          have hcz52_2 : wc.cell? ⟨gb146, 2, none⟩ = some (.string ((rd_T106 x8_1 ((rd_T109 l1 x9_1).f0)).f2)) := (qe0 BK146.out 2).trans rfl
          have hcz52_3 : wc.cell? ⟨gb146, 3, none⟩ = some (.int .i64 ((rd_T106 x8_1 ((rd_T109 l1 x9_1).f0)).f3)) := (qe0 BK146.out 3).trans rfl
          have hcz52_4 : wc.cell? ⟨gb146, 4, none⟩ = some (.int .i64 ((rd_T106 x8_1 ((rd_T109 l1 x9_1).f0)).f4)) := (qe0 BK146.out 4).trans rfl
          have hcz52_5 : wc.cell? ⟨gb146, 5, none⟩ = some (.int .i64 ((rd_T106 x8_1 ((rd_T109 l1 x9_1).f0)).f5)) := (qe0 BK146.out 5).trans rfl
          have hfz52_0 := qd0 BK146.out 0
          have hfz52_1 := qd0 BK146.out 1
          have hfz52_2 := qd0 BK146.out 2
          have hfz52_3 := qd0 BK146.out 3
          have hfz52_4 := qd0 BK146.out 4
          have hfz52_5 := qd0 BK146.out 5
          have hcz53_0 : wc.cell? ⟨gb139, 0, none⟩ = some (.int .i64 ((rd_T109 l1 x9_1).f0)) := (qe0 BK139.out 0).trans rfl
          have hcz53_1 : wc.cell? ⟨gb139, 1, none⟩ = some (.int .i64 ((rd_T109 l1 x9_1).f1)) := (qe0 BK139.out 1).trans rfl
          have hfz53_0 := qd0 BK139.out 0
          have hfz53_1 := qd0 BK139.out 1
          go_wp2_with (first | ((with_reducible refine gate_store (t := 3) (p := 82) rfl ?_); refine store_event (t := 3) (p := 82) (v := ?vo_w54) (w1 := (wc.setCell ⟨gb146, 5, none⟩ (.int .i64 (wrap64 (((rd_T106 x8_1 ((rd_T109 l1 x9_1).f0)).f5) - ((rd_T109 l1 x9_1).f1)))))) ?hg ?ho ?hn ?hr ?_; (case ho => rfl); (case hg => rfl); (case hn => rfl); (case hr => first | (go_simp; done) | (go_simp; rfl)); intro w54 hw; have n0_ : Aside0 (Kd.R k106 106 w54 w.heap.size (fun k_ => k_ ≠ gb146) (.slice (some ad145) x8_1.length co29) x8_1) := ⟨(by rw [hw]; exact (by (with_reducible repeat (first | apply Kd.qm0 | apply Kd.ql0 | apply Kd.qo0)); exact Kd.qz0 (Kd.R_far (p := ⟨gb146, 5, none⟩) (Kd.qz0 HO_8.out (fun k_ hk => (⟨hk, hk⟩ : _ ∧ k_ ≠ gb146))) (fun _ hk => hk.2) (.int .i64 (wrap64 (((rd_T106 x8_1 ((rd_T109 l1 x9_1).f0)).f5) - ((rd_T109 l1 x9_1).f1))))) (fun _ hk => hk.1)))⟩; have n1_ : Aside0 (w54.heap[gb139]? = some (.cells #[.int .i64 ((rd_T109 l1 x9_1).f0), .int .i64 ((rd_T109 l1 x9_1).f1)] 109 (0, 0))) := ⟨(by rw [hw]; exact (by (with_reducible repeat (first | refine qi0 ?_ _ | refine qk0 ?_ | refine qj0 ?_ _)); refine qk1 ?_ NB139_146.out _; (with_reducible repeat (first | refine qi0 ?_ _ | refine qk0 ?_ | refine qj0 ?_ _)); exact BK139.out))⟩; have n2_ : Aside0 (w54.heap[gb146]? = some (.cells #[.string ((rd_T106 x8_1 ((rd_T109 l1 x9_1).f0)).f0), .string ((rd_T106 x8_1 ((rd_T109 l1 x9_1).f0)).f1), .string ((rd_T106 x8_1 ((rd_T109 l1 x9_1).f0)).f2), .int .i64 ((rd_T106 x8_1 ((rd_T109 l1 x9_1).f0)).f3), .int .i64 ((rd_T106 x8_1 ((rd_T109 l1 x9_1).f0)).f4), .int .i64 (wrap64 (((rd_T106 x8_1 ((rd_T109 l1 x9_1).f0)).f5) - ((rd_T109 l1 x9_1).f1)))] 106 (0, 0))) := ⟨(by rw [hw]; exact (by (with_reducible repeat (first | refine qi0 ?_ _ | refine qk0 ?_ | refine qj0 ?_ _)); refine qx0 (cs := #[.string ((rd_T106 x8_1 ((rd_T109 l1 x9_1).f0)).f0), .string ((rd_T106 x8_1 ((rd_T109 l1 x9_1).f0)).f1), .string ((rd_T106 x8_1 ((rd_T109 l1 x9_1).f0)).f2), .int .i64 ((rd_T106 x8_1 ((rd_T109 l1 x9_1).f0)).f3), .int .i64 ((rd_T106 x8_1 ((rd_T109 l1 x9_1).f0)).f4), .int .i64 ((rd_T106 x8_1 ((rd_T109 l1 x9_1).f0)).f5)]) ?_ 5 _ rfl; (with_reducible repeat (first | refine qi0 ?_ _ | refine qk0 ?_ | refine qj0 ?_ _)); exact BK146.out))⟩; have n3_ : Aside0 (Below w.heap.size w w54) := ⟨(by rw [hw]; exact (by repeat (first | (with_reducible first | exact HB.out | apply qc0 | apply qa0 | apply qb0 | refine qg0 ?_ GE139.out | refine qg0 ?_ GE146.out) | exact HB.out)))⟩; clear hw; clear HO_8; clear BK139; clear BK146; clear HB; have HO_8 := n0_; have BK139 := n1_; have BK146 := n2_; have HB := n3_; clear n0_ n1_ n2_ n3_; have hcz55_0 : w54.cell? ⟨gb146, 0, none⟩ = some (.string ((rd_T106 x8_1 ((rd_T109 l1 x9_1).f0)).f0)) := (qe0 BK146.out 0).trans rfl; have hcz55_1 : w54.cell? ⟨gb146, 1, none⟩ = some (.string ((rd_T106 x8_1 ((rd_T109 l1 x9_1).f0)).f1)) := (qe0 BK146.out 1).trans rfl; have hcz55_2 : w54.cell? ⟨gb146, 2, none⟩ = some (.string ((rd_T106 x8_1 ((rd_T109 l1 x9_1).f0)).f2)) := (qe0 BK146.out 2).trans rfl; have hcz55_3 : w54.cell? ⟨gb146, 3, none⟩ = some (.int .i64 ((rd_T106 x8_1 ((rd_T109 l1 x9_1).f0)).f3)) := (qe0 BK146.out 3).trans rfl; have hcz55_4 : w54.cell? ⟨gb146, 4, none⟩ = some (.int .i64 ((rd_T106 x8_1 ((rd_T109 l1 x9_1).f0)).f4)) := (qe0 BK146.out 4).trans rfl; have hcz55_5 : w54.cell? ⟨gb146, 5, none⟩ = some (.int .i64 (wrap64 (((rd_T106 x8_1 ((rd_T109 l1 x9_1).f0)).f5) - ((rd_T109 l1 x9_1).f1)))) := (qe0 BK146.out 5).trans rfl; have hfz55_0 := qd0 BK146.out 0; have hfz55_1 := qd0 BK146.out 1; have hfz55_2 := qd0 BK146.out 2; have hfz55_3 := qd0 BK146.out 3; have hfz55_4 := qd0 BK146.out 4; have hfz55_5 := qd0 BK146.out 5; have hcz56_0 : w54.cell? ⟨gb139, 0, none⟩ = some (.int .i64 ((rd_T109 l1 x9_1).f0)) := (qe0 BK139.out 0).trans rfl; have hcz56_1 : w54.cell? ⟨gb139, 1, none⟩ = some (.int .i64 ((rd_T109 l1 x9_1).f1)) := (qe0 BK139.out 1).trans rfl; have hfz56_0 := qd0 BK139.out 0; have hfz56_1 := qd0 BK139.out 1) | ((with_reducible refine gate_store (t := 3) (p := 88) rfl ?_); refine store_event (t := 3) (p := 88) (v := ?vo_w57) (w1 := (w54.setCell ⟨gb146, 4, none⟩ (.int .i64 (wrap64 (((rd_T106 x8_1 ((rd_T109 l1 x9_1).f0)).f4) - ((rd_T109 l1 x9_1).f1)))))) ?hg ?ho ?hn ?hr ?_; (case ho => rfl); (case hg => rfl); (case hn => rfl); (case hr => first | (go_simp; done) | (go_simp; rfl)); intro w57 hw; have n0_ : Aside0 (Kd.R k106 106 w57 w.heap.size (fun k_ => k_ ≠ gb146) (.slice (some ad145) x8_1.length co29) x8_1) := ⟨(by rw [hw]; exact (by (with_reducible repeat (first | apply Kd.qm0 | apply Kd.ql0 | apply Kd.qo0)); exact Kd.qz0 (Kd.R_far (p := ⟨gb146, 4, none⟩) (Kd.qz0 HO_8.out (fun k_ hk => (⟨hk, hk⟩ : _ ∧ k_ ≠ gb146))) (fun _ hk => hk.2) (.int .i64 (wrap64 (((rd_T106 x8_1 ((rd_T109 l1 x9_1).f0)).f4) - ((rd_T109 l1 x9_1).f1))))) (fun _ hk => hk.1)))⟩; have n1_ : Aside0 (w57.heap[gb139]? = some (.cells #[.int .i64 ((rd_T109 l1 x9_1).f0), .int .i64 ((rd_T109 l1 x9_1).f1)] 109 (0, 0))) := ⟨(by rw [hw]; exact (by (with_reducible repeat (first | refine qi0 ?_ _ | refine qk0 ?_ | refine qj0 ?_ _)); refine qk1 ?_ NB139_146.out _; (with_reducible repeat (first | refine qi0 ?_ _ | refine qk0 ?_ | refine qj0 ?_ _)); exact BK139.out))⟩; have n2_ : Aside0 (w57.heap[gb146]? = some (.cells #[.string ((rd_T106 x8_1 ((rd_T109 l1 x9_1).f0)).f0), .string ((rd_T106 x8_1 ((rd_T109 l1 x9_1).f0)).f1), .string ((rd_T106 x8_1 ((rd_T109 l1 x9_1).f0)).f2), .int .i64 ((rd_T106 x8_1 ((rd_T109 l1 x9_1).f0)).f3), .int .i64 (wrap64 (((rd_T106 x8_1 ((rd_T109 l1 x9_1).f0)).f4) - ((rd_T109 l1 x9_1).f1))), .int .i64 (wrap64 (((rd_T106 x8_1 ((rd_T109 l1 x9_1).f0)).f5) - ((rd_T109 l1 x9_1).f1)))] 106 (0, 0))) := ⟨(by rw [hw]; exact (by (with_reducible repeat (first | refine qi0 ?_ _ | refine qk0 ?_ | refine qj0 ?_ _)); refine qx0 (cs := #[.string ((rd_T106 x8_1 ((rd_T109 l1 x9_1).f0)).f0), .string ((rd_T106 x8_1 ((rd_T109 l1 x9_1).f0)).f1), .string ((rd_T106 x8_1 ((rd_T109 l1 x9_1).f0)).f2), .int .i64 ((rd_T106 x8_1 ((rd_T109 l1 x9_1).f0)).f3), .int .i64 ((rd_T106 x8_1 ((rd_T109 l1 x9_1).f0)).f4), .int .i64 (wrap64 (((rd_T106 x8_1 ((rd_T109 l1 x9_1).f0)).f5) - ((rd_T109 l1 x9_1).f1)))]) ?_ 4 _ rfl; (with_reducible repeat (first | refine qi0 ?_ _ | refine qk0 ?_ | refine qj0 ?_ _)); exact BK146.out))⟩; have n3_ : Aside0 (Below w.heap.size w w57) := ⟨(by rw [hw]; exact (by repeat (first | (with_reducible first | exact HB.out | apply qc0 | apply qa0 | apply qb0 | refine qg0 ?_ GE139.out | refine qg0 ?_ GE146.out) | exact HB.out)))⟩; clear hw; clear HO_8; clear BK139; clear BK146; clear HB; have HO_8 := n0_; have BK139 := n1_; have BK146 := n2_; have HB := n3_; clear n0_ n1_ n2_ n3_; have hcz58_0 : w57.cell? ⟨gb139, 0, none⟩ = some (.int .i64 ((rd_T109 l1 x9_1).f0)) := (qe0 BK139.out 0).trans rfl; have hcz58_1 : w57.cell? ⟨gb139, 1, none⟩ = some (.int .i64 ((rd_T109 l1 x9_1).f1)) := (qe0 BK139.out 1).trans rfl; have hfz58_0 := qd0 BK139.out 0; have hfz58_1 := qd0 BK139.out 1; have hcz59_0 : w57.cell? ⟨gb146, 0, none⟩ = some (.string ((rd_T106 x8_1 ((rd_T109 l1 x9_1).f0)).f0)) := (qe0 BK146.out 0).trans rfl; have hcz59_1 : w57.cell? ⟨gb146, 1, none⟩ = some (.string ((rd_T106 x8_1 ((rd_T109 l1 x9_1).f0)).f1)) := (qe0 BK146.out 1).trans rfl; have hcz59_2 : w57.cell? ⟨gb146, 2, none⟩ = some (.string ((rd_T106 x8_1 ((rd_T109 l1 x9_1).f0)).f2)) := (qe0 BK146.out 2).trans rfl; have hcz59_3 : w57.cell? ⟨gb146, 3, none⟩ = some (.int .i64 ((rd_T106 x8_1 ((rd_T109 l1 x9_1).f0)).f3)) := (qe0 BK146.out 3).trans rfl; have hcz59_4 : w57.cell? ⟨gb146, 4, none⟩ = some (.int .i64 (wrap64 (((rd_T106 x8_1 ((rd_T109 l1 x9_1).f0)).f4) - ((rd_T109 l1 x9_1).f1)))) := (qe0 BK146.out 4).trans rfl; have hcz59_5 : w57.cell? ⟨gb146, 5, none⟩ = some (.int .i64 (wrap64 (((rd_T106 x8_1 ((rd_T109 l1 x9_1).f0)).f5) - ((rd_T109 l1 x9_1).f1)))) := (qe0 BK146.out 5).trans rfl; have hfz59_0 := qd0 BK146.out 0; have hfz59_1 := qd0 BK146.out 1; have hfz59_2 := qd0 BK146.out 2; have hfz59_3 := qd0 BK146.out 3; have hfz59_4 := qd0 BK146.out 4; have hfz59_5 := qd0 BK146.out 5; have p50 : 0 ≤ (((rd_T109 l1 x9_1).f0) : Int) := of_decide_eq_true (by first | (with_reducible assumption) | assumption); have q50 : (((rd_T109 l1 x9_1).f0) : Int) < ((x8_1.length : Int) : Int) := of_decide_eq_true (by first | (with_reducible assumption) | assumption); obtain ⟨go50, co50, eo50, gb50, gl50, cl50, HG50⟩ := Kd.R_form HO_8.out (by omega); (first | cases eo50 | (injection eo50 with ea_ en_ ec_; (first | subst ea_ | (injection ea_ with ea_; subst ea_)); subst ec_; clear en_)); have GB50 := Aside0.mk gb50; have GG50 := Aside0.mk HG50; clear gb50 gl50 HG50; (first | simp only [add_plain] at hx145_0 | skip); (first | simp only [add_plain] at hx145_1 | skip); (first | simp only [add_plain] at hx145_2 | skip); (first | simp only [add_plain] at hx145_3 | skip); (first | simp only [add_plain] at hx145_4 | skip); (first | simp only [add_plain] at hx145_5 | skip); obtain ⟨ce50, hcl50, hM50, hcc50, hfr50⟩ := Kd.qo1 HO_8.out z106 (((rd_T109 l1 x9_1).f0) : Int) p50 q50; obtain rfl := k106_openM hM50; have hx50_0 : w57.cell? ⟨go50, (((rd_T109 l1 x9_1).f0) : Int).toNat * 6, none⟩ = some (.string ((rd_T106 x8_1 ((rd_T109 l1 x9_1).f0)).f0)) := hcc50 0 _ rfl; have hx50_1 : w57.cell? ⟨go50, (((rd_T109 l1 x9_1).f0) : Int).toNat * 6 + 1, none⟩ = some (.string ((rd_T106 x8_1 ((rd_T109 l1 x9_1).f0)).f1)) := hcc50 1 _ rfl; have hx50_2 : w57.cell? ⟨go50, (((rd_T109 l1 x9_1).f0) : Int).toNat * 6 + 2, none⟩ = some (.string ((rd_T106 x8_1 ((rd_T109 l1 x9_1).f0)).f2)) := hcc50 2 _ rfl; have hx50_3 : w57.cell? ⟨go50, (((rd_T109 l1 x9_1).f0) : Int).toNat * 6 + 3, none⟩ = some (.int .i64 ((rd_T106 x8_1 ((rd_T109 l1 x9_1).f0)).f3)) := hcc50 3 _ rfl; have hx50_4 : w57.cell? ⟨go50, (((rd_T109 l1 x9_1).f0) : Int).toNat * 6 + 4, none⟩ = some (.int .i64 ((rd_T106 x8_1 ((rd_T109 l1 x9_1).f0)).f4)) := hcc50 4 _ rfl; have hx50_5 : w57.cell? ⟨go50, (((rd_T109 l1 x9_1).f0) : Int).toNat * 6 + 5, none⟩ = some (.int .i64 ((rd_T106 x8_1 ((rd_T109 l1 x9_1).f0)).f5)) := hcc50 5 _ rfl; have hf50_0 : w57.frozen? ⟨go50, (((rd_T109 l1 x9_1).f0) : Int).toNat * 6, none⟩ = false := hfr50 0; have hf50_1 : w57.frozen? ⟨go50, (((rd_T109 l1 x9_1).f0) : Int).toNat * 6 + 1, none⟩ = false := hfr50 1; have hf50_2 : w57.frozen? ⟨go50, (((rd_T109 l1 x9_1).f0) : Int).toNat * 6 + 2, none⟩ = false := hfr50 2; have hf50_3 : w57.frozen? ⟨go50, (((rd_T109 l1 x9_1).f0) : Int).toNat * 6 + 3, none⟩ = false := hfr50 3; have hf50_4 : w57.frozen? ⟨go50, (((rd_T109 l1 x9_1).f0) : Int).toNat * 6 + 4, none⟩ = false := hfr50 4; have hf50_5 : w57.frozen? ⟨go50, (((rd_T109 l1 x9_1).f0) : Int).toNat * 6 + 5, none⟩ = false := hfr50 5; clear hcl50 hcc50 hfr50 hM50; replace p50 := eq_true p50; replace q50 := eq_true q50; have HX60 := Aside0.mk (show Kd.R k106 106 w57 w.heap.size (fun k_ => k_ ≠ gb146) (.slice (some ⟨go50, 0, none⟩) x8_1.length co29) x8_1 from (by (with_reducible repeat (first | apply Kd.qm0 | apply Kd.ql0 | apply Kd.qo0)); exact HO_8.out)); obtain ⟨ce60, hcl60, hM60, hcc60, hfr60⟩ := Kd.qo1 HX60.out z106 (((rd_T109 l1 x9_1).f0) : Int) (of_decide_eq_true (by first | (with_reducible assumption) | assumption)) (by have h_ : (((rd_T109 l1 x9_1).f0) : Int) < ((x8_1.length : Int) : Int) := of_decide_eq_true (by first | (with_reducible assumption) | assumption); first | exact h_ | (have e_ := (Kd.qp0 HO_8.out).1; omega) | simpa using h_); obtain rfl := k106_openM hM60; have HP60 := Kd.R_seg HX60.out (((rd_T109 l1 x9_1).f0) : Int) (of_decide_eq_true (by first | (with_reducible assumption) | assumption)) (by have h_ : (((rd_T109 l1 x9_1).f0) : Int) < ((x8_1.length : Int) : Int) := of_decide_eq_true (by first | (with_reducible assumption) | assumption); first | exact h_ | (have e_ := (Kd.qp0 HO_8.out).1; omega) | simpa using h_) (seg := [.string ((rd_T106 x8_1 ((rd_T109 l1 x9_1).f0)).f0), .string ((rd_T106 x8_1 ((rd_T109 l1 x9_1).f0)).f1), .string ((rd_T106 x8_1 ((rd_T109 l1 x9_1).f0)).f2), .int .i64 ((rd_T106 x8_1 ((rd_T109 l1 x9_1).f0)).f3), .int .i64 (wrap64 (((rd_T106 x8_1 ((rd_T109 l1 x9_1).f0)).f4) - ((rd_T109 l1 x9_1).f1))), .int .i64 (wrap64 (((rd_T106 x8_1 ((rd_T109 l1 x9_1).f0)).f5) - ((rd_T109 l1 x9_1).f1)))]) (j := 0) hcl60 hcc60 (show 6 ≤ 6 from by decide) (x' := (⟨((rd_T106 x8_1 ((rd_T109 l1 x9_1).f0)).f0), ((rd_T106 x8_1 ((rd_T109 l1 x9_1).f0)).f1), ((rd_T106 x8_1 ((rd_T109 l1 x9_1).f0)).f2), ((rd_T106 x8_1 ((rd_T109 l1 x9_1).f0)).f3), wrap64 (((rd_T106 x8_1 ((rd_T109 l1 x9_1).f0)).f4) - ((rd_T109 l1 x9_1).f1)), wrap64 (((rd_T106 x8_1 ((rd_T109 l1 x9_1).f0)).f5) - ((rd_T109 l1 x9_1).f1))⟩ : S106)) (k106_mkM _ _ _ (⟨((rd_T106 x8_1 ((rd_T109 l1 x9_1).f0)).f0), ((rd_T106 x8_1 ((rd_T109 l1 x9_1).f0)).f1), ((rd_T106 x8_1 ((rd_T109 l1 x9_1).f0)).f2), ((rd_T106 x8_1 ((rd_T109 l1 x9_1).f0)).f3), wrap64 (((rd_T106 x8_1 ((rd_T109 l1 x9_1).f0)).f4) - ((rd_T109 l1 x9_1).f1)), wrap64 (((rd_T106 x8_1 ((rd_T109 l1 x9_1).f0)).f5) - ((rd_T109 l1 x9_1).f1))⟩ : S106) ) (fun _ hk => hk); have hx60_0 := hcc60 0 _ rfl; (try simp only [show (k106).sz = 6 from rfl, Nat.mul_one, Nat.add_zero] at hx60_0); have hf60_0 := hfr60 0; (try simp only [show (k106).sz = 6 from rfl, Nat.mul_one, Nat.add_zero] at hf60_0); have hx60_1 := hcc60 1 _ rfl; (try simp only [show (k106).sz = 6 from rfl, Nat.mul_one, Nat.add_zero] at hx60_1); have hf60_1 := hfr60 1; (try simp only [show (k106).sz = 6 from rfl, Nat.mul_one, Nat.add_zero] at hf60_1); have hx60_2 := hcc60 2 _ rfl; (try simp only [show (k106).sz = 6 from rfl, Nat.mul_one, Nat.add_zero] at hx60_2); have hf60_2 := hfr60 2; (try simp only [show (k106).sz = 6 from rfl, Nat.mul_one, Nat.add_zero] at hf60_2); have hx60_3 := hcc60 3 _ rfl; (try simp only [show (k106).sz = 6 from rfl, Nat.mul_one, Nat.add_zero] at hx60_3); have hf60_3 := hfr60 3; (try simp only [show (k106).sz = 6 from rfl, Nat.mul_one, Nat.add_zero] at hf60_3); have hx60_4 := hcc60 4 _ rfl; (try simp only [show (k106).sz = 6 from rfl, Nat.mul_one, Nat.add_zero] at hx60_4); have hf60_4 := hfr60 4; (try simp only [show (k106).sz = 6 from rfl, Nat.mul_one, Nat.add_zero] at hf60_4); have hx60_5 := hcc60 5 _ rfl; (try simp only [show (k106).sz = 6 from rfl, Nat.mul_one, Nat.add_zero] at hx60_5); have hf60_5 := hfr60 5; (try simp only [show (k106).sz = 6 from rfl, Nat.mul_one, Nat.add_zero] at hf60_5); clear hcl60 hcc60 hfr60 hM60) | ((with_reducible refine gate_store (t := 106) (p := 99) rfl ?_); refine store_event (t := 106) (p := 99) (v := ?vo_w61) (w1 := ((((((w57.setCell ⟨go50, (((rd_T109 l1 x9_1).f0) : Int).toNat * 6, none⟩ (.string ((rd_T106 x8_1 ((rd_T109 l1 x9_1).f0)).f0))).setCell ⟨go50, (((rd_T109 l1 x9_1).f0) : Int).toNat * 6 + 1, none⟩ (.string ((rd_T106 x8_1 ((rd_T109 l1 x9_1).f0)).f1))).setCell ⟨go50, (((rd_T109 l1 x9_1).f0) : Int).toNat * 6 + 2, none⟩ (.string ((rd_T106 x8_1 ((rd_T109 l1 x9_1).f0)).f2))).setCell ⟨go50, (((rd_T109 l1 x9_1).f0) : Int).toNat * 6 + 3, none⟩ (.int .i64 ((rd_T106 x8_1 ((rd_T109 l1 x9_1).f0)).f3))).setCell ⟨go50, (((rd_T109 l1 x9_1).f0) : Int).toNat * 6 + 4, none⟩ (.int .i64 (wrap64 (((rd_T106 x8_1 ((rd_T109 l1 x9_1).f0)).f4) - ((rd_T109 l1 x9_1).f1))))).setCell ⟨go50, (((rd_T109 l1 x9_1).f0) : Int).toNat * 6 + 5, none⟩ (.int .i64 (wrap64 (((rd_T106 x8_1 ((rd_T109 l1 x9_1).f0)).f5) - ((rd_T109 l1 x9_1).f1)))))) ?hg ?ho ?hn ?hr ?_; (case ho => rfl); (case hg => rfl); (case hn => rfl); (case hr => first | (go_simp; done) | (go_simp; rfl)); intro w61 hw; have hg : w57.grownBy w61 (some go50) := (by rw [hw]; exact HP60.2); have hp_ : Kd.R k106 106 w61 w.heap.size (fun k_ => k_ ≠ gb146) (.slice (some ⟨go50, 0, none⟩) x8_1.length co29) y150 := (by rw [hw, Ny150.out]; exact HP60.1); clear HP60; have n0_ := Aside0.mk (hp_); have n1_ := Aside0.mk (blk_grown (g := gb139) (o := .cells #[.int .i64 ((rd_T109 l1 x9_1).f0), .int .i64 ((rd_T109 l1 x9_1).f1)] 109 (0, 0)) (by (with_reducible repeat (first | refine qi0 ?_ _ | refine qk0 ?_ | refine qj0 ?_ _)); exact BK139.out) hg (Kd.R_ne HO_8.out BK139.out (by decide))); have n2_ := Aside0.mk (blk_grown (g := gb146) (o := .cells #[.string ((rd_T106 x8_1 ((rd_T109 l1 x9_1).f0)).f0), .string ((rd_T106 x8_1 ((rd_T109 l1 x9_1).f0)).f1), .string ((rd_T106 x8_1 ((rd_T109 l1 x9_1).f0)).f2), .int .i64 ((rd_T106 x8_1 ((rd_T109 l1 x9_1).f0)).f3), .int .i64 (wrap64 (((rd_T106 x8_1 ((rd_T109 l1 x9_1).f0)).f4) - ((rd_T109 l1 x9_1).f1))), .int .i64 (wrap64 (((rd_T106 x8_1 ((rd_T109 l1 x9_1).f0)).f5) - ((rd_T109 l1 x9_1).f1)))] 106 (0, 0)) (by (with_reducible repeat (first | refine qi0 ?_ _ | refine qk0 ?_ | refine qj0 ?_ _)); exact BK146.out) hg (Kd.R_away HO_8.out (fun _ hk => hk))); have n3_ := Aside0.mk ((by rw [hw]; exact qg0 (qg0 (qg0 (qg0 (qg0 (qg0 (HB.out) GB50.out) GB50.out) GB50.out) GB50.out) GB50.out) GB50.out : Below w.heap.size w w61)); clear HO_8; clear BK139; clear BK146; clear HB; have HO_8 := n0_; have BK139 := n1_; have BK146 := n2_; have HB := n3_; clear n0_ n1_ n2_ n3_; clear hg hw hp_))
          go_roundg kj26
          case measure => have := HK1.out; have := HJ13.out; have := HJ26.out; omega
          case rel => exact ⟨(y150), (wrap64 (x9_1 + 1)), (by first | rfl | (simp; done) | (simp [*]; done)), H', ⟨by have := HK1.out; have := HJ13.out; have := HJ26.out; omega⟩, ⟨by (with_reducible repeat (first | apply Kd.qm0 | apply Kd.ql0 | apply Kd.qo0)); exact Kd.qz0 HO_8.out (fun _ hk => trivial)⟩, ⟨by repeat (first | (with_reducible first | exact HB.out | apply qc0 | apply qa0 | apply qb0 | refine qg0 ?_ GE139.out | refine qg0 ?_ GE146.out) | exact HB.out)⟩⟩
         replace c47 := Bool.eq_false_iff.mpr c47
         subst c47
         have H1 : (if 0 ≤ ((rd_T109 l1 x9_1).f0) then (if ((rd_T109 l1 x9_1).f0) < (x8_1.length : Int) then (spec_l15Each.l0 kj26 l0 l1 false (x8_1.set (((rd_T109 l1 x9_1).f0) : Int).toNat (⟨((rd_T106 x8_1 ((rd_T109 l1 x9_1).f0)).f0), ((rd_T106 x8_1 ((rd_T109 l1 x9_1).f0)).f1), ((rd_T106 x8_1 ((rd_T109 l1 x9_1).f0)).f2), ((rd_T106 x8_1 ((rd_T109 l1 x9_1).f0)).f3), ((rd_T106 x8_1 ((rd_T109 l1 x9_1).f0)).f4), wrap64 (((rd_T106 x8_1 ((rd_T109 l1 x9_1).f0)).f5) + ((rd_T109 l1 x9_1).f1))⟩ : S106)) (wrap64 (x9_1 + 1))) else (none)) else (none)) = some (r1, r2) := by rw [if_neg (show ¬ (false = true) by decide)] at H; exact H
         clear H
         have H := H1
         clear H1
         by_cases c62 : 0 ≤ ((rd_T109 l1 x9_1).f0)
         case neg => rw [if_neg c62] at H; exact absurd H (by simp)
         rw [if_pos c62] at H
         have c62b0 : decide (0 ≤ ((rd_T109 l1 x9_1).f0)) = true := decide_eq_true c62
         clear c62
         by_cases c63 : ((rd_T109 l1 x9_1).f0) < (x8_1.length : Int)
         case neg => rw [if_neg c63] at H; exact absurd H (by simp)
         rw [if_pos c63] at H
         have c63b0 : decide (((rd_T109 l1 x9_1).f0) < (x8_1.length : Int)) = true := decide_eq_true c63
         clear c63
         obtain ⟨y151, hy151⟩ : ∃ y_ : List (S106), y_ = (x8_1.set (((rd_T109 l1 x9_1).f0) : Int).toNat (⟨((rd_T106 x8_1 ((rd_T109 l1 x9_1).f0)).f0), ((rd_T106 x8_1 ((rd_T109 l1 x9_1).f0)).f1), ((rd_T106 x8_1 ((rd_T109 l1 x9_1).f0)).f2), ((rd_T106 x8_1 ((rd_T109 l1 x9_1).f0)).f3), ((rd_T106 x8_1 ((rd_T109 l1 x9_1).f0)).f4), wrap64 (((rd_T106 x8_1 ((rd_T109 l1 x9_1).f0)).f5) + ((rd_T109 l1 x9_1).f1))⟩ : S106)) := ⟨_, rfl⟩
         replace H : (spec_l15Each.l0 kj26 l0 l1 false y151 (wrap64 (x9_1 + 1))) = some (r1, r2) := by first | (rw [hy151]; with_reducible exact H) | (have H2_ := (Option.bind_some _ _).symm.trans H; rw [hy151]; with_reducible exact H2_) | (have H2_ := (Option.bind_some _ _).symm.trans H; with_reducible exact H2_) | with_reducible exact H | (rw [hy151]; exact H) | exact H
         have Ny151 := Aside0.mk hy151
         clear hy151
         have H' := Aside0.mk H
         clear H
         have hnb65 := NB146_139.out
         have hnc65 := NB139_146.out
         have hcz66_0 : wc.cell? ⟨gb146, 0, none⟩ = some (.string ((rd_T106 x8_1 ((rd_T109 l1 x9_1).f0)).f0)) := (qe0 BK146.out 0).trans rfl
         have hcz66_1 : wc.cell? ⟨gb146, 1, none⟩ = some (.string ((rd_T106 x8_1 ((rd_T109 l1 x9_1).f0)).f1)) := (qe0 BK146.out 1).trans rfl
         have hcz66_2 : wc.cell? ⟨gb146, 2, none⟩ = some (.string ((rd_T106 x8_1 ((rd_T109 l1 x9_1).f0)).f2)) := (qe0 BK146.out 2).trans rfl
         have hcz66_3 : wc.cell? ⟨gb146, 3, none⟩ = some (.int .i64 ((rd_T106 x8_1 ((rd_T109 l1 x9_1).f0)).f3)) := (qe0 BK146.out 3).trans rfl
         have hcz66_4 : wc.cell? ⟨gb146, 4, none⟩ = some (.int .i64 ((rd_T106 x8_1 ((rd_T109 l1 x9_1).f0)).f4)) := (qe0 BK146.out 4).trans rfl
         have hcz66_5 : wc.cell? ⟨gb146, 5, none⟩ = some (.int .i64 ((rd_T106 x8_1 ((rd_T109 l1 x9_1).f0)).f5)) := (qe0 BK146.out 5).trans rfl
         have hfz66_0 := qd0 BK146.out 0
         have hfz66_1 := qd0 BK146.out 1
         have hfz66_2 := qd0 BK146.out 2
         have hfz66_3 := qd0 BK146.out 3
         have hfz66_4 := qd0 BK146.out 4
         have hfz66_5 := qd0 BK146.out 5
         have hcz67_0 : wc.cell? ⟨gb139, 0, none⟩ = some (.int .i64 ((rd_T109 l1 x9_1).f0)) := (qe0 BK139.out 0).trans rfl
         have hcz67_1 : wc.cell? ⟨gb139, 1, none⟩ = some (.int .i64 ((rd_T109 l1 x9_1).f1)) := (qe0 BK139.out 1).trans rfl
         have hfz67_0 := qd0 BK139.out 0
         have hfz67_1 := qd0 BK139.out 1
         go_wp2_with (first | ((with_reducible refine gate_store (t := 3) (p := 94) rfl ?_); refine store_event (t := 3) (p := 94) (v := ?vo_w68) (w1 := (wc.setCell ⟨gb146, 5, none⟩ (.int .i64 (wrap64 (((rd_T106 x8_1 ((rd_T109 l1 x9_1).f0)).f5) + ((rd_T109 l1 x9_1).f1)))))) ?hg ?ho ?hn ?hr ?_; (case ho => rfl); (case hg => rfl); (case hn => rfl); (case hr => first | (go_simp; done) | (go_simp; rfl)); intro w68 hw; have n0_ : Aside0 (Kd.R k106 106 w68 w.heap.size (fun k_ => k_ ≠ gb146) (.slice (some ad145) x8_1.length co29) x8_1) := ⟨(by rw [hw]; exact (by (with_reducible repeat (first | apply Kd.qm0 | apply Kd.ql0 | apply Kd.qo0)); exact Kd.qz0 (Kd.R_far (p := ⟨gb146, 5, none⟩) (Kd.qz0 HO_8.out (fun k_ hk => (⟨hk, hk⟩ : _ ∧ k_ ≠ gb146))) (fun _ hk => hk.2) (.int .i64 (wrap64 (((rd_T106 x8_1 ((rd_T109 l1 x9_1).f0)).f5) + ((rd_T109 l1 x9_1).f1))))) (fun _ hk => hk.1)))⟩; have n1_ : Aside0 (w68.heap[gb139]? = some (.cells #[.int .i64 ((rd_T109 l1 x9_1).f0), .int .i64 ((rd_T109 l1 x9_1).f1)] 109 (0, 0))) := ⟨(by rw [hw]; exact (by (with_reducible repeat (first | refine qi0 ?_ _ | refine qk0 ?_ | refine qj0 ?_ _)); refine qk1 ?_ NB139_146.out _; (with_reducible repeat (first | refine qi0 ?_ _ | refine qk0 ?_ | refine qj0 ?_ _)); exact BK139.out))⟩; have n2_ : Aside0 (w68.heap[gb146]? = some (.cells #[.string ((rd_T106 x8_1 ((rd_T109 l1 x9_1).f0)).f0), .string ((rd_T106 x8_1 ((rd_T109 l1 x9_1).f0)).f1), .string ((rd_T106 x8_1 ((rd_T109 l1 x9_1).f0)).f2), .int .i64 ((rd_T106 x8_1 ((rd_T109 l1 x9_1).f0)).f3), .int .i64 ((rd_T106 x8_1 ((rd_T109 l1 x9_1).f0)).f4), .int .i64 (wrap64 (((rd_T106 x8_1 ((rd_T109 l1 x9_1).f0)).f5) + ((rd_T109 l1 x9_1).f1)))] 106 (0, 0))) := ⟨(by rw [hw]; exact (by (with_reducible repeat (first | refine qi0 ?_ _ | refine qk0 ?_ | refine qj0 ?_ _)); refine qx0 (cs := #[.string ((rd_T106 x8_1 ((rd_T109 l1 x9_1).f0)).f0), .string ((rd_T106 x8_1 ((rd_T109 l1 x9_1).f0)).f1), .string ((rd_T106 x8_1 ((rd_T109 l1 x9_1).f0)).f2), .int .i64 ((rd_T106 x8_1 ((rd_T109 l1 x9_1).f0)).f3), .int .i64 ((rd_T106 x8_1 ((rd_T109 l1 x9_1).f0)).f4), .int .i64 ((rd_T106 x8_1 ((rd_T109 l1 x9_1).f0)).f5)]) ?_ 5 _ rfl; (with_reducible repeat (first | refine qi0 ?_ _ | refine qk0 ?_ | refine qj0 ?_ _)); exact BK146.out))⟩; have n3_ : Aside0 (Below w.heap.size w w68) := ⟨(by rw [hw]; exact (by repeat (first | (with_reducible first | exact HB.out | apply qc0 | apply qa0 | apply qb0 | refine qg0 ?_ GE139.out | refine qg0 ?_ GE146.out) | exact HB.out)))⟩; clear hw; clear HO_8; clear BK139; clear BK146; clear HB; have HO_8 := n0_; have BK139 := n1_; have BK146 := n2_; have HB := n3_; clear n0_ n1_ n2_ n3_; have hcz69_0 : w68.cell? ⟨gb139, 0, none⟩ = some (.int .i64 ((rd_T109 l1 x9_1).f0)) := (qe0 BK139.out 0).trans rfl; have hcz69_1 : w68.cell? ⟨gb139, 1, none⟩ = some (.int .i64 ((rd_T109 l1 x9_1).f1)) := (qe0 BK139.out 1).trans rfl; have hfz69_0 := qd0 BK139.out 0; have hfz69_1 := qd0 BK139.out 1; have hcz70_0 : w68.cell? ⟨gb146, 0, none⟩ = some (.string ((rd_T106 x8_1 ((rd_T109 l1 x9_1).f0)).f0)) := (qe0 BK146.out 0).trans rfl; have hcz70_1 : w68.cell? ⟨gb146, 1, none⟩ = some (.string ((rd_T106 x8_1 ((rd_T109 l1 x9_1).f0)).f1)) := (qe0 BK146.out 1).trans rfl; have hcz70_2 : w68.cell? ⟨gb146, 2, none⟩ = some (.string ((rd_T106 x8_1 ((rd_T109 l1 x9_1).f0)).f2)) := (qe0 BK146.out 2).trans rfl; have hcz70_3 : w68.cell? ⟨gb146, 3, none⟩ = some (.int .i64 ((rd_T106 x8_1 ((rd_T109 l1 x9_1).f0)).f3)) := (qe0 BK146.out 3).trans rfl; have hcz70_4 : w68.cell? ⟨gb146, 4, none⟩ = some (.int .i64 ((rd_T106 x8_1 ((rd_T109 l1 x9_1).f0)).f4)) := (qe0 BK146.out 4).trans rfl; have hcz70_5 : w68.cell? ⟨gb146, 5, none⟩ = some (.int .i64 (wrap64 (((rd_T106 x8_1 ((rd_T109 l1 x9_1).f0)).f5) + ((rd_T109 l1 x9_1).f1)))) := (qe0 BK146.out 5).trans rfl; have hfz70_0 := qd0 BK146.out 0; have hfz70_1 := qd0 BK146.out 1; have hfz70_2 := qd0 BK146.out 2; have hfz70_3 := qd0 BK146.out 3; have hfz70_4 := qd0 BK146.out 4; have hfz70_5 := qd0 BK146.out 5; have p64 : 0 ≤ (((rd_T109 l1 x9_1).f0) : Int) := of_decide_eq_true (by first | (with_reducible assumption) | assumption); have q64 : (((rd_T109 l1 x9_1).f0) : Int) < ((x8_1.length : Int) : Int) := of_decide_eq_true (by first | (with_reducible assumption) | assumption); obtain ⟨go64, co64, eo64, gb64, gl64, cl64, HG64⟩ := Kd.R_form HO_8.out (by omega); (first | cases eo64 | (injection eo64 with ea_ en_ ec_; (first | subst ea_ | (injection ea_ with ea_; subst ea_)); subst ec_; clear en_)); have GB64 := Aside0.mk gb64; have GG64 := Aside0.mk HG64; clear gb64 gl64 HG64; obtain ⟨ce64, hcl64, hM64, hcc64, hfr64⟩ := Kd.qo1 HO_8.out z106 (((rd_T109 l1 x9_1).f0) : Int) p64 q64; obtain rfl := k106_openM hM64; have hx64_0 : w68.cell? ⟨go64, (((rd_T109 l1 x9_1).f0) : Int).toNat * 6, none⟩ = some (.string ((rd_T106 x8_1 ((rd_T109 l1 x9_1).f0)).f0)) := hcc64 0 _ rfl; have hx64_1 : w68.cell? ⟨go64, (((rd_T109 l1 x9_1).f0) : Int).toNat * 6 + 1, none⟩ = some (.string ((rd_T106 x8_1 ((rd_T109 l1 x9_1).f0)).f1)) := hcc64 1 _ rfl; have hx64_2 : w68.cell? ⟨go64, (((rd_T109 l1 x9_1).f0) : Int).toNat * 6 + 2, none⟩ = some (.string ((rd_T106 x8_1 ((rd_T109 l1 x9_1).f0)).f2)) := hcc64 2 _ rfl; have hx64_3 : w68.cell? ⟨go64, (((rd_T109 l1 x9_1).f0) : Int).toNat * 6 + 3, none⟩ = some (.int .i64 ((rd_T106 x8_1 ((rd_T109 l1 x9_1).f0)).f3)) := hcc64 3 _ rfl; have hx64_4 : w68.cell? ⟨go64, (((rd_T109 l1 x9_1).f0) : Int).toNat * 6 + 4, none⟩ = some (.int .i64 ((rd_T106 x8_1 ((rd_T109 l1 x9_1).f0)).f4)) := hcc64 4 _ rfl; have hx64_5 : w68.cell? ⟨go64, (((rd_T109 l1 x9_1).f0) : Int).toNat * 6 + 5, none⟩ = some (.int .i64 ((rd_T106 x8_1 ((rd_T109 l1 x9_1).f0)).f5)) := hcc64 5 _ rfl; have hf64_0 : w68.frozen? ⟨go64, (((rd_T109 l1 x9_1).f0) : Int).toNat * 6, none⟩ = false := hfr64 0; have hf64_1 : w68.frozen? ⟨go64, (((rd_T109 l1 x9_1).f0) : Int).toNat * 6 + 1, none⟩ = false := hfr64 1; have hf64_2 : w68.frozen? ⟨go64, (((rd_T109 l1 x9_1).f0) : Int).toNat * 6 + 2, none⟩ = false := hfr64 2; have hf64_3 : w68.frozen? ⟨go64, (((rd_T109 l1 x9_1).f0) : Int).toNat * 6 + 3, none⟩ = false := hfr64 3; have hf64_4 : w68.frozen? ⟨go64, (((rd_T109 l1 x9_1).f0) : Int).toNat * 6 + 4, none⟩ = false := hfr64 4; have hf64_5 : w68.frozen? ⟨go64, (((rd_T109 l1 x9_1).f0) : Int).toNat * 6 + 5, none⟩ = false := hfr64 5; clear hcl64 hcc64 hfr64 hM64; replace p64 := eq_true p64; replace q64 := eq_true q64; have HX71 := Aside0.mk (show Kd.R k106 106 w68 w.heap.size (fun k_ => k_ ≠ gb146) (.slice (some ⟨go64, 0, none⟩) x8_1.length co29) x8_1 from (by (with_reducible repeat (first | apply Kd.qm0 | apply Kd.ql0 | apply Kd.qo0)); exact HO_8.out)); obtain ⟨ce71, hcl71, hM71, hcc71, hfr71⟩ := Kd.qo1 HX71.out z106 (((rd_T109 l1 x9_1).f0) : Int) (of_decide_eq_true (by first | (with_reducible assumption) | assumption)) (by have h_ : (((rd_T109 l1 x9_1).f0) : Int) < ((x8_1.length : Int) : Int) := of_decide_eq_true (by first | (with_reducible assumption) | assumption); first | exact h_ | (have e_ := (Kd.qp0 HO_8.out).1; omega) | simpa using h_); obtain rfl := k106_openM hM71; have HP71 := Kd.R_seg HX71.out (((rd_T109 l1 x9_1).f0) : Int) (of_decide_eq_true (by first | (with_reducible assumption) | assumption)) (by have h_ : (((rd_T109 l1 x9_1).f0) : Int) < ((x8_1.length : Int) : Int) := of_decide_eq_true (by first | (with_reducible assumption) | assumption); first | exact h_ | (have e_ := (Kd.qp0 HO_8.out).1; omega) | simpa using h_) (seg := [.string ((rd_T106 x8_1 ((rd_T109 l1 x9_1).f0)).f0), .string ((rd_T106 x8_1 ((rd_T109 l1 x9_1).f0)).f1), .string ((rd_T106 x8_1 ((rd_T109 l1 x9_1).f0)).f2), .int .i64 ((rd_T106 x8_1 ((rd_T109 l1 x9_1).f0)).f3), .int .i64 ((rd_T106 x8_1 ((rd_T109 l1 x9_1).f0)).f4), .int .i64 (wrap64 (((rd_T106 x8_1 ((rd_T109 l1 x9_1).f0)).f5) + ((rd_T109 l1 x9_1).f1)))]) (j := 0) hcl71 hcc71 (show 6 ≤ 6 from by decide) (x' := (⟨((rd_T106 x8_1 ((rd_T109 l1 x9_1).f0)).f0), ((rd_T106 x8_1 ((rd_T109 l1 x9_1).f0)).f1), ((rd_T106 x8_1 ((rd_T109 l1 x9_1).f0)).f2), ((rd_T106 x8_1 ((rd_T109 l1 x9_1).f0)).f3), ((rd_T106 x8_1 ((rd_T109 l1 x9_1).f0)).f4), wrap64 (((rd_T106 x8_1 ((rd_T109 l1 x9_1).f0)).f5) + ((rd_T109 l1 x9_1).f1))⟩ : S106)) (k106_mkM _ _ _ (⟨((rd_T106 x8_1 ((rd_T109 l1 x9_1).f0)).f0), ((rd_T106 x8_1 ((rd_T109 l1 x9_1).f0)).f1), ((rd_T106 x8_1 ((rd_T109 l1 x9_1).f0)).f2), ((rd_T106 x8_1 ((rd_T109 l1 x9_1).f0)).f3), ((rd_T106 x8_1 ((rd_T109 l1 x9_1).f0)).f4), wrap64 (((rd_T106 x8_1 ((rd_T109 l1 x9_1).f0)).f5) + ((rd_T109 l1 x9_1).f1))⟩ : S106) ) (fun _ hk => hk); have hx71_0 := hcc71 0 _ rfl; (try simp only [show (k106).sz = 6 from rfl, Nat.mul_one, Nat.add_zero] at hx71_0); have hf71_0 := hfr71 0; (try simp only [show (k106).sz = 6 from rfl, Nat.mul_one, Nat.add_zero] at hf71_0); have hx71_1 := hcc71 1 _ rfl; (try simp only [show (k106).sz = 6 from rfl, Nat.mul_one, Nat.add_zero] at hx71_1); have hf71_1 := hfr71 1; (try simp only [show (k106).sz = 6 from rfl, Nat.mul_one, Nat.add_zero] at hf71_1); have hx71_2 := hcc71 2 _ rfl; (try simp only [show (k106).sz = 6 from rfl, Nat.mul_one, Nat.add_zero] at hx71_2); have hf71_2 := hfr71 2; (try simp only [show (k106).sz = 6 from rfl, Nat.mul_one, Nat.add_zero] at hf71_2); have hx71_3 := hcc71 3 _ rfl; (try simp only [show (k106).sz = 6 from rfl, Nat.mul_one, Nat.add_zero] at hx71_3); have hf71_3 := hfr71 3; (try simp only [show (k106).sz = 6 from rfl, Nat.mul_one, Nat.add_zero] at hf71_3); have hx71_4 := hcc71 4 _ rfl; (try simp only [show (k106).sz = 6 from rfl, Nat.mul_one, Nat.add_zero] at hx71_4); have hf71_4 := hfr71 4; (try simp only [show (k106).sz = 6 from rfl, Nat.mul_one, Nat.add_zero] at hf71_4); have hx71_5 := hcc71 5 _ rfl; (try simp only [show (k106).sz = 6 from rfl, Nat.mul_one, Nat.add_zero] at hx71_5); have hf71_5 := hfr71 5; (try simp only [show (k106).sz = 6 from rfl, Nat.mul_one, Nat.add_zero] at hf71_5); clear hcl71 hcc71 hfr71 hM71) | ((with_reducible refine gate_store (t := 106) (p := 99) rfl ?_); refine store_event (t := 106) (p := 99) (v := ?vo_w72) (w1 := ((((((w68.setCell ⟨go64, (((rd_T109 l1 x9_1).f0) : Int).toNat * 6, none⟩ (.string ((rd_T106 x8_1 ((rd_T109 l1 x9_1).f0)).f0))).setCell ⟨go64, (((rd_T109 l1 x9_1).f0) : Int).toNat * 6 + 1, none⟩ (.string ((rd_T106 x8_1 ((rd_T109 l1 x9_1).f0)).f1))).setCell ⟨go64, (((rd_T109 l1 x9_1).f0) : Int).toNat * 6 + 2, none⟩ (.string ((rd_T106 x8_1 ((rd_T109 l1 x9_1).f0)).f2))).setCell ⟨go64, (((rd_T109 l1 x9_1).f0) : Int).toNat * 6 + 3, none⟩ (.int .i64 ((rd_T106 x8_1 ((rd_T109 l1 x9_1).f0)).f3))).setCell ⟨go64, (((rd_T109 l1 x9_1).f0) : Int).toNat * 6 + 4, none⟩ (.int .i64 ((rd_T106 x8_1 ((rd_T109 l1 x9_1).f0)).f4))).setCell ⟨go64, (((rd_T109 l1 x9_1).f0) : Int).toNat * 6 + 5, none⟩ (.int .i64 (wrap64 (((rd_T106 x8_1 ((rd_T109 l1 x9_1).f0)).f5) + ((rd_T109 l1 x9_1).f1)))))) ?hg ?ho ?hn ?hr ?_; (case ho => rfl); (case hg => rfl); (case hn => rfl); (case hr => first | (go_simp; done) | (go_simp; rfl)); intro w72 hw; have hg : w68.grownBy w72 (some go64) := (by rw [hw]; exact HP71.2); have hp_ : Kd.R k106 106 w72 w.heap.size (fun k_ => k_ ≠ gb146) (.slice (some ⟨go64, 0, none⟩) x8_1.length co29) y151 := (by rw [hw, Ny151.out]; exact HP71.1); clear HP71; have n0_ := Aside0.mk (hp_); have n1_ := Aside0.mk (blk_grown (g := gb139) (o := .cells #[.int .i64 ((rd_T109 l1 x9_1).f0), .int .i64 ((rd_T109 l1 x9_1).f1)] 109 (0, 0)) (by (with_reducible repeat (first | refine qi0 ?_ _ | refine qk0 ?_ | refine qj0 ?_ _)); exact BK139.out) hg (Kd.R_ne HO_8.out BK139.out (by decide))); have n2_ := Aside0.mk (blk_grown (g := gb146) (o := .cells #[.string ((rd_T106 x8_1 ((rd_T109 l1 x9_1).f0)).f0), .string ((rd_T106 x8_1 ((rd_T109 l1 x9_1).f0)).f1), .string ((rd_T106 x8_1 ((rd_T109 l1 x9_1).f0)).f2), .int .i64 ((rd_T106 x8_1 ((rd_T109 l1 x9_1).f0)).f3), .int .i64 ((rd_T106 x8_1 ((rd_T109 l1 x9_1).f0)).f4), .int .i64 (wrap64 (((rd_T106 x8_1 ((rd_T109 l1 x9_1).f0)).f5) + ((rd_T109 l1 x9_1).f1)))] 106 (0, 0)) (by (with_reducible repeat (first | refine qi0 ?_ _ | refine qk0 ?_ | refine qj0 ?_ _)); exact BK146.out) hg (Kd.R_away HO_8.out (fun _ hk => hk))); have n3_ := Aside0.mk ((by rw [hw]; exact qg0 (qg0 (qg0 (qg0 (qg0 (qg0 (HB.out) GB64.out) GB64.out) GB64.out) GB64.out) GB64.out) GB64.out : Below w.heap.size w w72)); clear HO_8; clear BK139; clear BK146; clear HB; have HO_8 := n0_; have BK139 := n1_; have BK146 := n2_; have HB := n3_; clear n0_ n1_ n2_ n3_; clear hg hw hp_))
         go_roundg kj26
         case measure => have := HK1.out; have := HJ13.out; have := HJ26.out; omega
         case rel => exact ⟨(y151), (wrap64 (x9_1 + 1)), (by first | rfl | (simp; done) | (simp [*]; done)), H', ⟨by have := HK1.out; have := HJ13.out; have := HJ26.out; omega⟩, ⟨by (with_reducible repeat (first | apply Kd.qm0 | apply Kd.ql0 | apply Kd.qo0)); exact Kd.qz0 HO_8.out (fun _ hk => trivial)⟩, ⟨by repeat (first | (with_reducible first | exact HB.out | apply qc0 | apply qa0 | apply qb0 | refine qg0 ?_ GE139.out | refine qg0 ?_ GE146.out) | exact HB.out)⟩⟩
    rw [if_neg c12] at H
    have c12b0 : decide (x9_1 < (l1.length : Int)) = false := decide_eq_false c12
    clear c12
    simp only [Option.some.injEq, Prod.mk.injEq] at H
    obtain ⟨rfl, rfl⟩ := H
    go_wp2
    go_ret2
    exact ⟨_, by first | rfl | (simp [errW_none, errW_some] <;> rfl) | (simp [*, errW_none, errW_some] <;> rfl), by (with_reducible repeat (first | apply Kd.qm0 | apply Kd.ql0 | apply Kd.qo0)); exact HO_8.out, by repeat (first | (with_reducible first | exact HB.out | apply qc0 | apply qa0 | apply qb0) | exact HB.out)⟩
 replace c5 := Bool.eq_false_iff.mpr c5
 subst c5
 have H1 : (some ((([] : List (S106))), 1)) = some (r1, r2) := by rw [if_neg (show ¬ (false = true) by decide)] at H; exact H
 clear H
 have H := H1
 clear H1
 obtain ⟨y132, hy132⟩ : ∃ y_ : List (S106), y_ = (([] : List (S106))) := ⟨_, rfl⟩
 replace H : (some (y132, 1)) = some (r1, r2) := by first | (rw [hy132]; with_reducible exact H) | (have H2_ := (Option.bind_some _ _).symm.trans H; rw [hy132]; with_reducible exact H2_) | (have H2_ := (Option.bind_some _ _).symm.trans H; with_reducible exact H2_) | with_reducible exact H | (rw [hy132]; exact H) | exact H
 have Ny132 := Aside0.mk hy132
 clear hy132
 simp only [Option.some.injEq, Prod.mk.injEq] at H
 obtain ⟨rfl, rfl⟩ := H
 go_enter Try.func71, Try.ntmps71
 go_wp2_with (first | ((with_reducible refine qn0 (f := 105) rfl ?_); refine qu0 (some 13) rfl rfl Try.func105 (by kernel_rfl) rfl #[.slice A0 l0.length c0] rfl (by (try simp only [List.map_toArray, List.map_cons, List.map_nil]); first | done | rfl | (simp only [List.length_drop, List.length_take]; rfl)) ?_; (with_reducible refine (spec_StockOk.calls k _ _ l0 false _ ?side1 ?side2 A4.out).mono ?_); (case side1 => repeat (first | exact HR0.out | (with_reducible refine Kd.qw0 ?_ _) | (with_reducible refine Kd.qv0 ?_ _) | (with_reducible refine Kd.qy0 ?_))); (case side2 => exact HC0.out); rintro e w73 ⟨rfl, hb⟩; refine ⟨_, rfl, ?_⟩; have n0_ := Aside0.mk (qf0 (by repeat (first | (with_reducible first | exact HB.out | apply qc0 | apply qa0 | apply qb0) | exact HB.out)) hb); clear HB; have HB := n0_; clear n0_; (try clear hb); (try clear hb2); (try clear hk); (try clear hi)) | ((with_reducible refine qt0 (N := 15) rfl ?_); refine Kd.R_lit k106 _ 106 ?hg (N := 15) ?hd (xs := ([] : List (S106))) (inner := []) (ok := fun _ => True) (okp := fun _ => True) ?hr ?hp (fun _ hk => hk) trivial (Below.refl _ _) (Nat.le_refl _) (by simp) ?_; (case hd => rfl); (case hg => rfl); (case hr => first | (go_simp; done) | (go_simp; rfl)); (case hp => exact (Reps.none _ _)); intro v133 w74 ho75 hb hg_ hnew_; clear hg_ hnew_; (first | rw [← Ny132.out] at ho75 | (simp only [Int.reduceToNat] at ho75; rw [← Ny132.out] at ho75)); have n0_ := Aside0.mk (Kd.qi1 ho75 (qh0 (by repeat (first | (with_reducible first | exact HB.out | apply qc0 | apply qa0 | apply qb0) | exact HB.out)))); have n1_ := Aside0.mk (qf0 (by repeat (first | (with_reducible first | exact HB.out | apply qc0 | apply qa0 | apply qb0) | exact HB.out)) hb); clear HB; have HO134 := n0_; have HB := n1_; clear n0_ n1_; clear hb ho75))
 go_ret2
 exact ⟨_, by first | rfl | (simp [errW_none, errW_some] <;> rfl) | (simp [*, errW_none, errW_some] <;> rfl), by (with_reducible repeat (first | apply Kd.qm0 | apply Kd.ql0 | apply Kd.qo0)); exact HO134.out, by repeat (first | (with_reducible first | exact HB.out | apply qc0 | apply qa0 | apply qb0) | exact HB.out)⟩

/-! ### spec_Hold: function 22 -/
def spec_Hold.f (k : Nat) (l0 : List (S106)) (l1 : List (S109)) : Option ((List (S106)) × Int) := (spec_l15Each.f k l0 l1 false).bind fun bt152 => (some (bt152.1, bt152.2))
theorem spec_Hold.mono : ∀ a0 a1 k, LeO (spec_Hold.f k a0 a1) (spec_Hold.f (k + 1) a0 a1) := by
 intro a0 a1 k
 unfold spec_Hold.f
 repeat' first
   | (with_reducible exact spec_l15Each.mono _ _ _ _)
   | (with_reducible exact LeO.refl _)
   | (with_reducible exact LeO.none _)
   | (with_reducible refine LeO.ite ?_ ?_)
   | (with_reducible refine LeO.bind ?_ (fun _ => ?_))
   | exact spec_l15Each.mono _ _ _ _
   | exact LeO.none _
   | refine LeO.ite ?_ ?_
   | refine LeO.bind ?_ (fun _ => ?_)
set_option maxHeartbeats 8000000 in
set_option maxRecDepth 100000 in
theorem spec_Hold.calls (k : Nat) (A0 : Option Addr) (c0 : Nat) (l0 : List (S106)) (A1 : Option Addr) (c1 : Nat) (l1 : List (S109)) (r1 : List (S106)) (r2 : Int) (w : World) (hr0 : Kd.C k106 w A0 l0.length l0) (hc0 : l0.length ≤ c0) (hr1 : Kd.C k109 w A1 l1.length l1) (hc1 : l1.length ≤ c1) (h : spec_Hold.f k l0 l1 = some (r1, r2)) :
  Calls Try.prog 22 #[.slice A0 l0.length c0, .slice A1 l1.length c1] w fun e w' => ∃ v0_ : Value, e = .returned (.tuple #[v0_, .int .i64 r2]) ∧ Kd.R k106 106 w' w.heap.size (fun _ => True) v0_ r1 ∧ Below w.heap.size w w' := by
 have HR0 := Aside0.mk hr0
 have HC0 := Aside0.mk hc0
 clear hr0 hc0
 have HR1 := Aside0.mk hr1
 have HC1 := Aside0.mk hc1
 clear hr1 hc1
 have HB := Aside0.mk (Below.refl w.heap.size w)
 have H : ((spec_l15Each.f k l0 l1 false).bind fun bt152 => (some (bt152.1, bt152.2))) = some (r1, r2) := h
 clear h
 replace H := Option.bind_eq_some_iff.mp H
 obtain ⟨⟨t152, t153⟩, A30, H⟩ := H
 replace H : (some (t152, t153)) = some (r1, r2) := H
 have A3 := Aside0.mk A30
 clear A30
 simp only [Option.some.injEq, Prod.mk.injEq] at H
 obtain ⟨rfl, rfl⟩ := H
 go_enter Try.func22, Try.ntmps22
 go_wp2_with (first | ((with_reducible refine qn0 (f := 71) rfl ?_); refine qu0 (some 8) rfl rfl Try.func71 (by kernel_rfl) rfl #[.slice A0 l0.length c0, .slice A1 l1.length c1, .bool false] rfl (by (try simp only [List.map_toArray, List.map_cons, List.map_nil]); first | done | rfl | (simp only [List.length_drop, List.length_take]; rfl)) ?_; (with_reducible refine (spec_l15Each.calls k _ _ l0 _ _ l1 false t152 t153 _ ?side1 ?side2 ?side3 ?side4 A3.out).mono ?_); (case side1 => repeat (first | exact HR0.out | (with_reducible refine Kd.qw0 ?_ _) | (with_reducible refine Kd.qv0 ?_ _) | (with_reducible refine Kd.qy0 ?_))); (case side2 => exact HC0.out); (case side3 => repeat (first | exact HR1.out | (with_reducible refine Kd.qw0 ?_ _) | (with_reducible refine Kd.qv0 ?_ _) | (with_reducible refine Kd.qy0 ?_))); (case side4 => exact HC1.out); rintro e w4 ⟨v154, rfl, ho0, hb⟩; refine ⟨_, rfl, ?_⟩; have n0_ := Aside0.mk (Kd.qi1 ho0 (qh0 (by repeat (first | (with_reducible first | exact HB.out | apply qc0 | apply qa0 | apply qb0) | exact HB.out)))); have n1_ := Aside0.mk (qf0 (by repeat (first | (with_reducible first | exact HB.out | apply qc0 | apply qa0 | apply qb0) | exact HB.out)) hb); clear HB; have HO155 := n0_; have HB := n1_; clear n0_ n1_; (try clear hb); (try clear hb2); (try clear hk); (try clear hi); (try clear ho0)))
 go_ret2
 exact ⟨_, by first | rfl | (simp [errW_none, errW_some] <;> rfl) | (simp [*, errW_none, errW_some] <;> rfl), by (with_reducible repeat (first | apply Kd.qm0 | apply Kd.ql0 | apply Kd.qo0)); exact HO155.out, by repeat (first | (with_reducible first | exact HB.out | apply qc0 | apply qa0 | apply qb0) | exact HB.out)⟩

/-! ### laws_toCell: function 72 -/
def laws_toCell.f (a0_0 : ByteArray) (a0_1 : ByteArray) (a0_2 : ByteArray) (a0_3 : Int) (a0_4 : Int) (a0_5 : Int) : Option (ByteArray × ByteArray × ByteArray × Int × Int × Int) := some (a0_0, a0_1, a0_2, a0_3, a0_4, a0_5)
set_option maxHeartbeats 8000000 in
set_option maxRecDepth 100000 in
theorem laws_toCell.calls (a0_0 : ByteArray) (a0_1 : ByteArray) (a0_2 : ByteArray) (a0_3 : Int) (a0_4 : Int) (a0_5 : Int) (r1 : ByteArray) (r2 : ByteArray) (r3 : ByteArray) (r4 : Int) (r5 : Int) (r6 : Int) (w : World) (h : laws_toCell.f a0_0 a0_1 a0_2 a0_3 a0_4 a0_5 = some (r1, r2, r3, r4, r5, r6)) :
  Calls Try.prog 72 #[.agg #[.string a0_0, .string a0_1, .string a0_2, .int .i64 a0_3, .int .i64 a0_4, .int .i64 a0_5]] w fun e w' => e = .returned (.agg #[.string r1, .string r2, .string r3, .int .i64 r4, .int .i64 r5, .int .i64 r6]) ∧ Below w.heap.size w w' := by
 have hu104 := Try.underlying104
 have hu106 := Try.underlying106
 have HB := Aside0.mk (Below.refl w.heap.size w)
 have H : (some (a0_0, a0_1, a0_2, a0_3, a0_4, a0_5)) = some (r1, r2, r3, r4, r5, r6) := h
 clear h
 simp only [Option.some.injEq, Prod.mk.injEq] at H
 obtain ⟨rfl, rfl, rfl, rfl, rfl, rfl⟩ := H
 go_enter Try.func72, Try.ntmps72
 go_wp2_with (first | ((with_reducible refine qt0 (N := 1) rfl ?_); refine qs0 ?hg (N := 1) ?hd (cs := #[.string a0_0, .string a0_1, .string a0_2, .int .i64 a0_3, .int .i64 a0_4, .int .i64 a0_5]) (t := 104) ?hr ?_; (case hd => rfl); (case hg => rfl); (case hr => first | (go_simp; done) | (go_simp; rfl)); intro gb156 hg w2 hbox hb; have n0_ := Aside0.mk (qf0 (by repeat (first | (with_reducible first | exact HB.out | apply qc0 | apply qa0 | apply qb0) | exact HB.out)) hb); have n1_ := Aside0.mk (hbox); have n2_ := Aside0.mk ((by rw [hg]; exact (qh0 (by repeat (first | (with_reducible first | exact HB.out | apply qc0 | apply qa0 | apply qb0) | exact HB.out))) : w.heap.size ≤ gb156)); have n3_ := Aside0.mk ((by rw [hg]; exact (qh0 (by repeat (first | (with_reducible first | exact HB.out | apply qc0 | apply qa0 | apply qb0) | exact HB.out))) : w.heap.size ≤ gb156)); clear HB; have HB := n0_; have BK156 := n1_; have GW156 := n2_; have GE156 := n3_; clear n0_ n1_ n2_ n3_; clear hb hbox hg) | ((with_reducible refine qt0 (N := 2) rfl ?_); refine qs0 ?hg (N := 2) ?hd (cs := #[.string (⟨#[]⟩ : ByteArray), .string (⟨#[]⟩ : ByteArray), .string (⟨#[]⟩ : ByteArray), .int .i64 0, .int .i64 0, .int .i64 0]) (t := 106) ?hr ?_; (case hd => rfl); (case hg => rfl); (case hr => first | (go_simp; done) | (go_simp; rfl)); intro gb157 hg w3 hbox hb; have n0_ := Aside0.mk (qb1 (g := gb156) (o := .cells #[.string a0_0, .string a0_1, .string a0_2, .int .i64 a0_3, .int .i64 a0_4, .int .i64 a0_5] 104 (0, 0)) (by (with_reducible repeat (first | refine qi0 ?_ _ | refine qk0 ?_ | refine qj0 ?_ _)); exact BK156.out) hb); have n1_ := Aside0.mk (qf0 (by repeat (first | (with_reducible first | exact HB.out | apply qc0 | apply qa0 | apply qb0 | refine qg0 ?_ GE156.out) | exact HB.out)) hb); have n2_ := Aside0.mk (hbox); have n3_ := Aside0.mk ((by rw [hg]; exact (qh0 (by repeat (first | (with_reducible first | exact HB.out | apply qc0 | apply qa0 | apply qb0 | refine qg0 ?_ GE156.out) | exact HB.out))) : w.heap.size ≤ gb157)); have n4_ := Aside0.mk ((by rw [hg]; exact (qh0 (by repeat (first | (with_reducible first | exact HB.out | apply qc0 | apply qa0 | apply qb0 | refine qg0 ?_ GE156.out) | exact HB.out))) : w.heap.size ≤ gb157)); have n5_ := Aside0.mk ((by rw [hg]; exact Nat.ne_of_lt (qg1 (g := gb156) (o := .cells #[.string a0_0, .string a0_1, .string a0_2, .int .i64 a0_3, .int .i64 a0_4, .int .i64 a0_5] 104 (0, 0)) (by (with_reducible repeat (first | refine qi0 ?_ _ | refine qk0 ?_ | refine qj0 ?_ _)); exact BK156.out)) : gb156 ≠ gb157)); have n6_ := Aside0.mk ((by rw [hg]; exact Nat.ne_of_gt (qg1 (g := gb156) (o := .cells #[.string a0_0, .string a0_1, .string a0_2, .int .i64 a0_3, .int .i64 a0_4, .int .i64 a0_5] 104 (0, 0)) (by (with_reducible repeat (first | refine qi0 ?_ _ | refine qk0 ?_ | refine qj0 ?_ _)); exact BK156.out)) : gb157 ≠ gb156)); clear BK156; clear HB; have BK156 := n0_; have HB := n1_; have BK157 := n2_; have GW157 := n3_; have GE157 := n4_; have NB156_157 := n5_; have NB157_156 := n6_; clear n0_ n1_ n2_ n3_ n4_ n5_ n6_; clear hb hbox hg) | ((with_reducible refine qt0 (N := 3) rfl ?_); refine qs0 ?hg (N := 3) ?hd (cs := #[.string (⟨#[]⟩ : ByteArray), .string (⟨#[]⟩ : ByteArray), .string (⟨#[]⟩ : ByteArray), .int .i64 0, .int .i64 0, .int .i64 0]) (t := 106) ?hr ?_; (case hd => rfl); (case hg => rfl); (case hr => first | (go_simp; done) | (go_simp; rfl)); intro gb158 hg w4 hbox hb; have n0_ := Aside0.mk (qb1 (g := gb156) (o := .cells #[.string a0_0, .string a0_1, .string a0_2, .int .i64 a0_3, .int .i64 a0_4, .int .i64 a0_5] 104 (0, 0)) (by (with_reducible repeat (first | refine qi0 ?_ _ | refine qk0 ?_ | refine qj0 ?_ _)); exact BK156.out) hb); have n1_ := Aside0.mk (qb1 (g := gb157) (o := .cells #[.string (⟨#[]⟩ : ByteArray), .string (⟨#[]⟩ : ByteArray), .string (⟨#[]⟩ : ByteArray), .int .i64 0, .int .i64 0, .int .i64 0] 106 (0, 0)) (by (with_reducible repeat (first | refine qi0 ?_ _ | refine qk0 ?_ | refine qj0 ?_ _)); exact BK157.out) hb); have n2_ := Aside0.mk (qf0 (by repeat (first | (with_reducible first | exact HB.out | apply qc0 | apply qa0 | apply qb0 | refine qg0 ?_ GE156.out | refine qg0 ?_ GE157.out) | exact HB.out)) hb); have n3_ := Aside0.mk (hbox); have n4_ := Aside0.mk ((by rw [hg]; exact (qh0 (by repeat (first | (with_reducible first | exact HB.out | apply qc0 | apply qa0 | apply qb0 | refine qg0 ?_ GE156.out | refine qg0 ?_ GE157.out) | exact HB.out))) : w.heap.size ≤ gb158)); have n5_ := Aside0.mk ((by rw [hg]; exact (qh0 (by repeat (first | (with_reducible first | exact HB.out | apply qc0 | apply qa0 | apply qb0 | refine qg0 ?_ GE156.out | refine qg0 ?_ GE157.out) | exact HB.out))) : w.heap.size ≤ gb158)); have n6_ := Aside0.mk ((by rw [hg]; exact Nat.ne_of_lt (qg1 (g := gb156) (o := .cells #[.string a0_0, .string a0_1, .string a0_2, .int .i64 a0_3, .int .i64 a0_4, .int .i64 a0_5] 104 (0, 0)) (by (with_reducible repeat (first | refine qi0 ?_ _ | refine qk0 ?_ | refine qj0 ?_ _)); exact BK156.out)) : gb156 ≠ gb158)); have n7_ := Aside0.mk ((by rw [hg]; exact Nat.ne_of_gt (qg1 (g := gb156) (o := .cells #[.string a0_0, .string a0_1, .string a0_2, .int .i64 a0_3, .int .i64 a0_4, .int .i64 a0_5] 104 (0, 0)) (by (with_reducible repeat (first | refine qi0 ?_ _ | refine qk0 ?_ | refine qj0 ?_ _)); exact BK156.out)) : gb158 ≠ gb156)); have n8_ := Aside0.mk ((by rw [hg]; exact Nat.ne_of_lt (qg1 (g := gb157) (o := .cells #[.string (⟨#[]⟩ : ByteArray), .string (⟨#[]⟩ : ByteArray), .string (⟨#[]⟩ : ByteArray), .int .i64 0, .int .i64 0, .int .i64 0] 106 (0, 0)) (by (with_reducible repeat (first | refine qi0 ?_ _ | refine qk0 ?_ | refine qj0 ?_ _)); exact BK157.out)) : gb157 ≠ gb158)); have n9_ := Aside0.mk ((by rw [hg]; exact Nat.ne_of_gt (qg1 (g := gb157) (o := .cells #[.string (⟨#[]⟩ : ByteArray), .string (⟨#[]⟩ : ByteArray), .string (⟨#[]⟩ : ByteArray), .int .i64 0, .int .i64 0, .int .i64 0] 106 (0, 0)) (by (with_reducible repeat (first | refine qi0 ?_ _ | refine qk0 ?_ | refine qj0 ?_ _)); exact BK157.out)) : gb158 ≠ gb157)); clear BK156; clear BK157; clear HB; have BK156 := n0_; have BK157 := n1_; have HB := n2_; have BK158 := n3_; have GW158 := n4_; have GE158 := n5_; have NB156_158 := n6_; have NB158_156 := n7_; have NB157_158 := n8_; have NB158_157 := n9_; clear n0_ n1_ n2_ n3_ n4_ n5_ n6_ n7_ n8_ n9_; clear hb hbox hg; have hnb5 := NB156_157.out; have hnc5 := NB157_156.out; have hnb6 := NB156_158.out; have hnc6 := NB158_156.out; have hcz7_0 : w4.cell? ⟨gb156, 0, none⟩ = some (.string a0_0) := (qe0 BK156.out 0).trans rfl; have hcz7_1 : w4.cell? ⟨gb156, 1, none⟩ = some (.string a0_1) := (qe0 BK156.out 1).trans rfl; have hcz7_2 : w4.cell? ⟨gb156, 2, none⟩ = some (.string a0_2) := (qe0 BK156.out 2).trans rfl; have hcz7_3 : w4.cell? ⟨gb156, 3, none⟩ = some (.int .i64 a0_3) := (qe0 BK156.out 3).trans rfl; have hcz7_4 : w4.cell? ⟨gb156, 4, none⟩ = some (.int .i64 a0_4) := (qe0 BK156.out 4).trans rfl; have hcz7_5 : w4.cell? ⟨gb156, 5, none⟩ = some (.int .i64 a0_5) := (qe0 BK156.out 5).trans rfl; have hfz7_0 := qd0 BK156.out 0; have hfz7_1 := qd0 BK156.out 1; have hfz7_2 := qd0 BK156.out 2; have hfz7_3 := qd0 BK156.out 3; have hfz7_4 := qd0 BK156.out 4; have hfz7_5 := qd0 BK156.out 5; have hnb8 := NB158_157.out; have hnc8 := NB157_158.out; have hcz9_0 : w4.cell? ⟨gb158, 0, none⟩ = some (.string (⟨#[]⟩ : ByteArray)) := (qe0 BK158.out 0).trans rfl; have hcz9_1 : w4.cell? ⟨gb158, 1, none⟩ = some (.string (⟨#[]⟩ : ByteArray)) := (qe0 BK158.out 1).trans rfl; have hcz9_2 : w4.cell? ⟨gb158, 2, none⟩ = some (.string (⟨#[]⟩ : ByteArray)) := (qe0 BK158.out 2).trans rfl; have hcz9_3 : w4.cell? ⟨gb158, 3, none⟩ = some (.int .i64 0) := (qe0 BK158.out 3).trans rfl; have hcz9_4 : w4.cell? ⟨gb158, 4, none⟩ = some (.int .i64 0) := (qe0 BK158.out 4).trans rfl; have hcz9_5 : w4.cell? ⟨gb158, 5, none⟩ = some (.int .i64 0) := (qe0 BK158.out 5).trans rfl; have hfz9_0 := qd0 BK158.out 0; have hfz9_1 := qd0 BK158.out 1; have hfz9_2 := qd0 BK158.out 2; have hfz9_3 := qd0 BK158.out 3; have hfz9_4 := qd0 BK158.out 4; have hfz9_5 := qd0 BK158.out 5; have hcz10_0 : w4.cell? ⟨gb157, 0, none⟩ = some (.string (⟨#[]⟩ : ByteArray)) := (qe0 BK157.out 0).trans rfl; have hcz10_1 : w4.cell? ⟨gb157, 1, none⟩ = some (.string (⟨#[]⟩ : ByteArray)) := (qe0 BK157.out 1).trans rfl; have hcz10_2 : w4.cell? ⟨gb157, 2, none⟩ = some (.string (⟨#[]⟩ : ByteArray)) := (qe0 BK157.out 2).trans rfl; have hcz10_3 : w4.cell? ⟨gb157, 3, none⟩ = some (.int .i64 0) := (qe0 BK157.out 3).trans rfl; have hcz10_4 : w4.cell? ⟨gb157, 4, none⟩ = some (.int .i64 0) := (qe0 BK157.out 4).trans rfl; have hcz10_5 : w4.cell? ⟨gb157, 5, none⟩ = some (.int .i64 0) := (qe0 BK157.out 5).trans rfl; have hfz10_0 := qd0 BK157.out 0; have hfz10_1 := qd0 BK157.out 1; have hfz10_2 := qd0 BK157.out 2; have hfz10_3 := qd0 BK157.out 3; have hfz10_4 := qd0 BK157.out 4; have hfz10_5 := qd0 BK157.out 5))
 refine bodyPost_ret (results_cell_row rfl _ _ gb157 106 #[.string a0_0, .string a0_1, .string a0_2, .int .i64 a0_3, .int .i64 a0_4, .int .i64 a0_5] (0, 0) _ rfl (by (with_reducible repeat (first | refine qi0 ?_ _ | refine qk0 ?_ | refine qj0 ?_ _)); refine qx0 (cs := #[.string a0_0, .string a0_1, .string a0_2, .int .i64 a0_3, .int .i64 a0_4, .int .i64 0]) ?_ 5 _ rfl; (with_reducible repeat (first | refine qi0 ?_ _ | refine qk0 ?_ | refine qj0 ?_ _)); refine qx0 (cs := #[.string a0_0, .string a0_1, .string a0_2, .int .i64 a0_3, .int .i64 0, .int .i64 0]) ?_ 4 _ rfl; (with_reducible repeat (first | refine qi0 ?_ _ | refine qk0 ?_ | refine qj0 ?_ _)); refine qx0 (cs := #[.string a0_0, .string a0_1, .string a0_2, .int .i64 0, .int .i64 0, .int .i64 0]) ?_ 3 _ rfl; (with_reducible repeat (first | refine qi0 ?_ _ | refine qk0 ?_ | refine qj0 ?_ _)); refine qx0 (cs := #[.string a0_0, .string a0_1, .string (⟨#[]⟩ : ByteArray), .int .i64 0, .int .i64 0, .int .i64 0]) ?_ 2 _ rfl; (with_reducible repeat (first | refine qi0 ?_ _ | refine qk0 ?_ | refine qj0 ?_ _)); refine qx0 (cs := #[.string a0_0, .string (⟨#[]⟩ : ByteArray), .string (⟨#[]⟩ : ByteArray), .int .i64 0, .int .i64 0, .int .i64 0]) ?_ 1 _ rfl; (with_reducible repeat (first | refine qi0 ?_ _ | refine qk0 ?_ | refine qj0 ?_ _)); refine qx0 (cs := #[.string (⟨#[]⟩ : ByteArray), .string (⟨#[]⟩ : ByteArray), .string (⟨#[]⟩ : ByteArray), .int .i64 0, .int .i64 0, .int .i64 0]) ?_ 0 _ rfl; (with_reducible repeat (first | refine qi0 ?_ _ | refine qk0 ?_ | refine qj0 ?_ _)); refine qk1 ?_ NB157_158.out _; (with_reducible repeat (first | refine qi0 ?_ _ | refine qk0 ?_ | refine qj0 ?_ _)); refine qk1 ?_ NB157_158.out _; (with_reducible repeat (first | refine qi0 ?_ _ | refine qk0 ?_ | refine qj0 ?_ _)); refine qk1 ?_ NB157_158.out _; (with_reducible repeat (first | refine qi0 ?_ _ | refine qk0 ?_ | refine qj0 ?_ _)); refine qk1 ?_ NB157_158.out _; (with_reducible repeat (first | refine qi0 ?_ _ | refine qk0 ?_ | refine qj0 ?_ _)); refine qk1 ?_ NB157_158.out _; (with_reducible repeat (first | refine qi0 ?_ _ | refine qk0 ?_ | refine qj0 ?_ _)); refine qk1 ?_ NB157_158.out _; (with_reducible repeat (first | refine qi0 ?_ _ | refine qk0 ?_ | refine qj0 ?_ _)); exact BK157.out) Try.underlying106 rfl (by kernel_rfl)) rfl ?_
 exact ⟨by first | rfl | (simp [errW_none, errW_some] <;> rfl) | (simp [*, errW_none, errW_some] <;> rfl), by repeat (first | (with_reducible first | exact HB.out | apply qc0 | apply qa0 | apply qb0 | refine qg0 ?_ GE156.out | refine qg0 ?_ GE157.out | refine qg0 ?_ GE158.out) | exact HB.out)⟩

/-! ### laws_toCellS: function 23 -/
def laws_toCellS.l0 : Nat → List (S104) → List (S106) → Int → Option ((List (S106)))
 | 0, _, _, _ => none
 | k + 1, x0, x3, x4 => if x4 < (x0.length : Int) then (if 0 ≤ x4 then ((laws_toCell.f ((rd_T104 x0 x4).f0) ((rd_T104 x0 x4).f1) ((rd_T104 x0 x4).f2) ((rd_T104 x0 x4).f3) ((rd_T104 x0 x4).f4) ((rd_T104 x0 x4).f5)).bind fun bt163 => (if x4 < (x3.length : Int) then (laws_toCellS.l0 k x0 (x3.set (x4 : Int).toNat (⟨bt163.1, bt163.2.1, bt163.2.2.1, bt163.2.2.2.1, bt163.2.2.2.2.1, bt163.2.2.2.2.2⟩ : S106)) (wrap64 (x4 + 1))) else (none))) else (none)) else (some x3)
def laws_toCellS.f (k : Nat) (l0 : List (S104)) : Option ((List (S106))) := if 0 ≤ (l0.length : Int) then (if ((l0.length : Int) : Int).toNat ≤ 3909374676536 then (laws_toCellS.l0 k l0 (List.replicate ((l0.length : Int) : Int).toNat z106) 0) else (none)) else (none)
theorem laws_toCellS.mono_l : ∀ k, (∀ y0 y1 y2, LeO (laws_toCellS.l0 k y0 y1 y2) (laws_toCellS.l0 (k + 1) y0 y1 y2))
 | 0 => fun _ _ _ r h => by simp [laws_toCellS.l0] at h
 | k + 1 => by
  have ih0 := laws_toCellS.mono_l k
  ·intro y0 y1 y2
   unfold laws_toCellS.l0
   repeat' first
   | (with_reducible exact ih0 _ _ _)
   | (with_reducible exact LeO.refl _)
   | (with_reducible exact LeO.none _)
   | (with_reducible refine LeO.ite ?_ ?_)
   | (with_reducible refine LeO.bind ?_ (fun _ => ?_))
   | exact ih0 _ _ _
   | exact LeO.none _
   | refine LeO.ite ?_ ?_
   | refine LeO.bind ?_ (fun _ => ?_)
theorem laws_toCellS.mono : ∀ a0 k, LeO (laws_toCellS.f k a0) (laws_toCellS.f (k + 1) a0) := by
 intro a0 k
 have ih0 := laws_toCellS.mono_l k
 unfold laws_toCellS.f
 repeat' first
   | (with_reducible exact ih0 _ _ _)
   | (with_reducible exact LeO.refl _)
   | (with_reducible exact LeO.none _)
   | (with_reducible refine LeO.ite ?_ ?_)
   | (with_reducible refine LeO.bind ?_ (fun _ => ?_))
   | exact ih0 _ _ _
   | exact LeO.none _
   | refine LeO.ite ?_ ?_
   | refine LeO.bind ?_ (fun _ => ?_)
set_option maxHeartbeats 8000000 in
set_option maxRecDepth 100000 in
theorem laws_toCellS.calls (k : Nat) (A0 : Option Addr) (c0 : Nat) (l0 : List (S104)) (r : List (S106)) (w : World) (hr0 : Kd.C k104 w A0 l0.length l0) (hc0 : l0.length ≤ c0) (h : laws_toCellS.f k l0 = some r) :
  Calls Try.prog 23 #[.slice A0 l0.length c0] w fun e w' => ∃ v0_ : Value, e = .returned (v0_) ∧ Kd.R k106 106 w' w.heap.size (fun _ => True) v0_ r ∧ Below w.heap.size w w' := by
 have hu104 := Try.underlying104
 have hu106 := Try.underlying106
 have HR0 := Aside0.mk hr0
 have HC0 := Aside0.mk hc0
 clear hr0 hc0
 have HB := Aside0.mk (Below.refl w.heap.size w)
 have H : (if 0 ≤ (l0.length : Int) then (if ((l0.length : Int) : Int).toNat ≤ 3909374676536 then (laws_toCellS.l0 k l0 (List.replicate ((l0.length : Int) : Int).toNat z106) 0) else (none)) else (none)) = some r := h
 clear h
 by_cases c2 : 0 ≤ (l0.length : Int)
 case neg => rw [if_neg c2] at H; exact absurd H (by simp)
 rw [if_pos c2] at H
 have c2b0 := eq_true c2
 have c2b1 : decide (0 ≤ (l0.length : Int)) = true := decide_eq_true c2
 clear c2
 by_cases c3 : ((l0.length : Int) : Int).toNat ≤ 3909374676536
 case neg => rw [if_neg c3] at H; exact absurd H (by simp)
 rw [if_pos c3] at H
 have c3b0 := eq_true c3
 have c3b1 : decide (((l0.length : Int) : Int).toNat ≤ 3909374676536) = true := decide_eq_true c3
 clear c3
 obtain ⟨y159, hy159⟩ : ∃ y_ : List (S106), y_ = (List.replicate ((l0.length : Int) : Int).toNat z106) := ⟨_, rfl⟩
 replace H : (laws_toCellS.l0 k l0 y159 0) = some r := by first | (rw [hy159]; with_reducible exact H) | (have H2_ := (Option.bind_some _ _).symm.trans H; rw [hy159]; with_reducible exact H2_) | (have H2_ := (Option.bind_some _ _).symm.trans H; with_reducible exact H2_) | with_reducible exact H | (rw [hy159]; exact H) | exact H
 have Ny159 := Aside0.mk hy159
 clear hy159
 have H' := Aside0.mk H
 clear H
 go_enter Try.func23, Try.ntmps23
 go_wp2_with (first | ((with_reducible refine qt0 (N := 7) rfl ?_); refine Kd.R_make k106 _ 106 rfl (N := 7) rfl 43 _ _ rfl (l0.length : Int) rfl rfl Try.underlying43 (.agg #[(.string ⟨#[]⟩), (.string ⟨#[]⟩), (.string ⟨#[]⟩), (.int .i64 0), (.int .i64 0), (.int .i64 0)]) 72 info106 rfl (by decide) (by omega) z106 (ok := fun _ => True) (okp := fun _ => True) (k106_mkM _ _ _ z106 ) (fun _ hk => hk) trivial (of_decide_eq_true (by first | (with_reducible assumption) | assumption)) (Nat.le_trans (Nat.mul_le_mul_right _ (of_decide_eq_true (by first | (with_reducible assumption) | assumption) : (l0.length : Int).toNat ≤ 3909374676536)) (by omega)) (Below.refl _ _) (Nat.le_refl _) ?_; intro v160 w4 ho5 hb hg_ hnew_; clear hg_ hnew_; (first | rw [← Ny159.out] at ho5 | (simp only [Int.reduceToNat] at ho5; rw [← Ny159.out] at ho5)); have n0_ := Aside0.mk (Kd.qi1 ho5 (qh0 (by repeat (first | (with_reducible first | exact HB.out | apply qc0 | apply qa0 | apply qb0) | exact HB.out)))); have n1_ := Aside0.mk (qf0 (by repeat (first | (with_reducible first | exact HB.out | apply qc0 | apply qa0 | apply qb0) | exact HB.out)) hb); clear HB; have HO161 := n0_; have HB := n1_; clear n0_ n1_; clear hb ho5))
 go_loopg [4] k (fun kq v4 w' => ∃ (x3_1 : List (S106)) (x4_1 : Int), v4 = .int .i64 x4_1 ∧ Aside0 (laws_toCellS.l0 kq l0 x3_1 x4_1 = some r) ∧ Aside0 (kq ≤ k) ∧ Aside0 (Kd.R k106 106 w' w.heap.size (fun _ => True) v160 x3_1) ∧ Aside0 (Below w.heap.size w w'))
 case atStart => exact ⟨(y159), (0), (by first | rfl | (simp; done) | (simp [*]; done)), H', ⟨Nat.le_refl _⟩, ⟨by (with_reducible repeat (first | apply Kd.qm0 | apply Kd.ql0 | apply Kd.qo0)); exact HO161.out⟩, ⟨by repeat (first | (with_reducible first | exact HB.out | apply qc0 | apply qa0 | apply qb0) | exact HB.out)⟩⟩
 case round =>
  clear H'
  try clear c2
  try clear c2b0
  try clear c2b1
  try clear p2
  try clear c3
  try clear c3b0
  try clear c3b1
  obtain ⟨x3_1, x4_1, rfl, HA, HK1, HO_3, HB⟩ := hrel
  cases gk with
  | zero => exact absurd HA.out (by simp [laws_toCellS.l0])
  | succ k1 =>
   have H := HA.out
   clear HA
   simp only [laws_toCellS.l0] at H
   by_cases c6 : x4_1 < (l0.length : Int)
   ·rw [if_pos c6] at H
    have c6b0 : decide (x4_1 < (l0.length : Int)) = true := decide_eq_true c6
    clear c6
    by_cases c7 : 0 ≤ x4_1
    case neg => rw [if_neg c7] at H; exact absurd H (by simp)
    rw [if_pos c7] at H
    have c7b0 : decide (0 ≤ x4_1) = true := decide_eq_true c7
    clear c7
    replace H := Option.bind_eq_some_iff.mp H
    obtain ⟨⟨t163, t164, t165, t166, t167, t168⟩, A80, H⟩ := H
    replace H : (if x4_1 < (x3_1.length : Int) then (laws_toCellS.l0 k1 l0 (x3_1.set (x4_1 : Int).toNat (⟨t163, t164, t165, t166, t167, t168⟩ : S106)) (wrap64 (x4_1 + 1))) else (none)) = some r := H
    have A8 := Aside0.mk A80
    clear A80
    by_cases c9 : x4_1 < (x3_1.length : Int)
    case neg => rw [if_neg c9] at H; exact absurd H (by simp)
    rw [if_pos c9] at H
    have c9b0 : decide (x4_1 < (x3_1.length : Int)) = true := decide_eq_true c9
    clear c9
    obtain ⟨y169, hy169⟩ : ∃ y_ : List (S106), y_ = (x3_1.set (x4_1 : Int).toNat (⟨t163, t164, t165, t166, t167, t168⟩ : S106)) := ⟨_, rfl⟩
    replace H : (laws_toCellS.l0 k1 l0 y169 (wrap64 (x4_1 + 1))) = some r := by first | (rw [hy169]; with_reducible exact H) | (have H2_ := (Option.bind_some _ _).symm.trans H; rw [hy169]; with_reducible exact H2_) | (have H2_ := (Option.bind_some _ _).symm.trans H; with_reducible exact H2_) | with_reducible exact H | (rw [hy169]; exact H) | exact H
    have Ny169 := Aside0.mk hy169
    clear hy169
    have H' := Aside0.mk H
    clear H
    have p162 : 0 ≤ (x4_1 : Int) := of_decide_eq_true (by first | (with_reducible assumption) | assumption)
    have q162 : x4_1 < (l0.length : Int) := of_decide_eq_true (by first | (with_reducible assumption) | assumption)
    obtain ⟨ad162, e162, hx162_0, hx162_1, hx162_2, hx162_3, hx162_4, hx162_5⟩ := at_T104 HR0.out x4_1 p162 q162
    cases e162
    replace hx162_0 := (HB.out.cell (World.block_lt_of_cell? w _ hx162_0)).trans hx162_0
    replace hx162_1 := (HB.out.cell (World.block_lt_of_cell? w _ hx162_1)).trans hx162_1
    replace hx162_2 := (HB.out.cell (World.block_lt_of_cell? w _ hx162_2)).trans hx162_2
    replace hx162_3 := (HB.out.cell (World.block_lt_of_cell? w _ hx162_3)).trans hx162_3
    replace hx162_4 := (HB.out.cell (World.block_lt_of_cell? w _ hx162_4)).trans hx162_4
    replace hx162_5 := (HB.out.cell (World.block_lt_of_cell? w _ hx162_5)).trans hx162_5
    replace p162 := eq_true p162
    replace q162 := eq_true q162
    go_wp2_with (first | ((with_reducible refine qn0 (f := 72) rfl ?_); refine qu0 (some 20) rfl rfl Try.func72 (by kernel_rfl) rfl #[.agg #[.string ((rd_T104 l0 x4_1).f0), .string ((rd_T104 l0 x4_1).f1), .string ((rd_T104 l0 x4_1).f2), .int .i64 ((rd_T104 l0 x4_1).f3), .int .i64 ((rd_T104 l0 x4_1).f4), .int .i64 ((rd_T104 l0 x4_1).f5)]] rfl (by (try simp only [List.map_toArray, List.map_cons, List.map_nil]); first | done | rfl | (simp only [List.length_drop, List.length_take]; rfl)) ?_; (with_reducible refine (laws_toCell.calls ((rd_T104 l0 x4_1).f0) ((rd_T104 l0 x4_1).f1) ((rd_T104 l0 x4_1).f2) ((rd_T104 l0 x4_1).f3) ((rd_T104 l0 x4_1).f4) ((rd_T104 l0 x4_1).f5) t163 t164 t165 t166 t167 t168 _ A8.out).mono ?_); rintro e w11 ⟨rfl, hb⟩; refine ⟨_, rfl, ?_⟩; have n0_ := Aside0.mk (Kd.qr0 (by (with_reducible repeat (first | apply Kd.qm0 | apply Kd.ql0 | apply Kd.qo0)); exact HO_3.out) hb); have n1_ := Aside0.mk (qf0 (by repeat (first | (with_reducible first | exact HB.out | apply qc0 | apply qa0 | apply qb0) | exact HB.out)) hb); clear HO_3; clear HB; have HO_3 := n0_; have HB := n1_; clear n0_ n1_; (try clear hb); (try clear hb2); (try clear hk); (try clear hi); have p10 : 0 ≤ (x4_1 : Int) := of_decide_eq_true (by first | (with_reducible assumption) | assumption); have q10 : (x4_1 : Int) < ((x3_1.length : Int) : Int) := of_decide_eq_true (by first | (with_reducible assumption) | assumption); obtain ⟨go10, co10, eo10, gb10, gl10, cl10, HG10⟩ := Kd.R_form HO_3.out (by omega); (first | cases eo10 | (injection eo10 with ea_ en_ ec_; (first | subst ea_ | (injection ea_ with ea_; subst ea_)); subst ec_; clear en_)); have GB10 := Aside0.mk gb10; have GG10 := Aside0.mk HG10; clear gb10 gl10 HG10; obtain ⟨ce10, hcl10, hM10, hcc10, hfr10⟩ := Kd.qo1 HO_3.out z106 (x4_1 : Int) p10 q10; obtain rfl := k106_openM hM10; have hx10_0 : w11.cell? ⟨go10, (x4_1 : Int).toNat * 6, none⟩ = some (.string ((rd_T106 x3_1 x4_1).f0)) := hcc10 0 _ rfl; have hx10_1 : w11.cell? ⟨go10, (x4_1 : Int).toNat * 6 + 1, none⟩ = some (.string ((rd_T106 x3_1 x4_1).f1)) := hcc10 1 _ rfl; have hx10_2 : w11.cell? ⟨go10, (x4_1 : Int).toNat * 6 + 2, none⟩ = some (.string ((rd_T106 x3_1 x4_1).f2)) := hcc10 2 _ rfl; have hx10_3 : w11.cell? ⟨go10, (x4_1 : Int).toNat * 6 + 3, none⟩ = some (.int .i64 ((rd_T106 x3_1 x4_1).f3)) := hcc10 3 _ rfl; have hx10_4 : w11.cell? ⟨go10, (x4_1 : Int).toNat * 6 + 4, none⟩ = some (.int .i64 ((rd_T106 x3_1 x4_1).f4)) := hcc10 4 _ rfl; have hx10_5 : w11.cell? ⟨go10, (x4_1 : Int).toNat * 6 + 5, none⟩ = some (.int .i64 ((rd_T106 x3_1 x4_1).f5)) := hcc10 5 _ rfl; have hf10_0 : w11.frozen? ⟨go10, (x4_1 : Int).toNat * 6, none⟩ = false := hfr10 0; have hf10_1 : w11.frozen? ⟨go10, (x4_1 : Int).toNat * 6 + 1, none⟩ = false := hfr10 1; have hf10_2 : w11.frozen? ⟨go10, (x4_1 : Int).toNat * 6 + 2, none⟩ = false := hfr10 2; have hf10_3 : w11.frozen? ⟨go10, (x4_1 : Int).toNat * 6 + 3, none⟩ = false := hfr10 3; have hf10_4 : w11.frozen? ⟨go10, (x4_1 : Int).toNat * 6 + 4, none⟩ = false := hfr10 4; have hf10_5 : w11.frozen? ⟨go10, (x4_1 : Int).toNat * 6 + 5, none⟩ = false := hfr10 5; clear hcl10 hcc10 hfr10 hM10; replace p10 := eq_true p10; replace q10 := eq_true q10; have HX12 := Aside0.mk (show Kd.R k106 106 w11 w.heap.size (fun _ => True) (.slice (some ⟨go10, 0, none⟩) x3_1.length co10) x3_1 from (by (with_reducible repeat (first | apply Kd.qm0 | apply Kd.ql0 | apply Kd.qo0)); exact HO_3.out)); obtain ⟨ce12, hcl12, hM12, hcc12, hfr12⟩ := Kd.qo1 HX12.out z106 (x4_1 : Int) (of_decide_eq_true (by first | (with_reducible assumption) | assumption)) (by have h_ : (x4_1 : Int) < ((x3_1.length : Int) : Int) := of_decide_eq_true (by first | (with_reducible assumption) | assumption); first | exact h_ | (have e_ := (Kd.qp0 HO_3.out).1; omega) | simpa using h_); obtain rfl := k106_openM hM12; have HP12 := Kd.R_seg HX12.out (x4_1 : Int) (of_decide_eq_true (by first | (with_reducible assumption) | assumption)) (by have h_ : (x4_1 : Int) < ((x3_1.length : Int) : Int) := of_decide_eq_true (by first | (with_reducible assumption) | assumption); first | exact h_ | (have e_ := (Kd.qp0 HO_3.out).1; omega) | simpa using h_) (seg := [.string t163, .string t164, .string t165, .int .i64 t166, .int .i64 t167, .int .i64 t168]) (j := 0) hcl12 hcc12 (show 6 ≤ 6 from by decide) (x' := (⟨t163, t164, t165, t166, t167, t168⟩ : S106)) (k106_mkM _ _ _ (⟨t163, t164, t165, t166, t167, t168⟩ : S106) ) (fun _ hk => hk); have hx12_0 := hcc12 0 _ rfl; (try simp only [show (k106).sz = 6 from rfl, Nat.mul_one, Nat.add_zero] at hx12_0); have hf12_0 := hfr12 0; (try simp only [show (k106).sz = 6 from rfl, Nat.mul_one, Nat.add_zero] at hf12_0); have hx12_1 := hcc12 1 _ rfl; (try simp only [show (k106).sz = 6 from rfl, Nat.mul_one, Nat.add_zero] at hx12_1); have hf12_1 := hfr12 1; (try simp only [show (k106).sz = 6 from rfl, Nat.mul_one, Nat.add_zero] at hf12_1); have hx12_2 := hcc12 2 _ rfl; (try simp only [show (k106).sz = 6 from rfl, Nat.mul_one, Nat.add_zero] at hx12_2); have hf12_2 := hfr12 2; (try simp only [show (k106).sz = 6 from rfl, Nat.mul_one, Nat.add_zero] at hf12_2); have hx12_3 := hcc12 3 _ rfl; (try simp only [show (k106).sz = 6 from rfl, Nat.mul_one, Nat.add_zero] at hx12_3); have hf12_3 := hfr12 3; (try simp only [show (k106).sz = 6 from rfl, Nat.mul_one, Nat.add_zero] at hf12_3); have hx12_4 := hcc12 4 _ rfl; (try simp only [show (k106).sz = 6 from rfl, Nat.mul_one, Nat.add_zero] at hx12_4); have hf12_4 := hfr12 4; (try simp only [show (k106).sz = 6 from rfl, Nat.mul_one, Nat.add_zero] at hf12_4); have hx12_5 := hcc12 5 _ rfl; (try simp only [show (k106).sz = 6 from rfl, Nat.mul_one, Nat.add_zero] at hx12_5); have hf12_5 := hfr12 5; (try simp only [show (k106).sz = 6 from rfl, Nat.mul_one, Nat.add_zero] at hf12_5); clear hcl12 hcc12 hfr12 hM12) | ((with_reducible refine gate_store (t := 106) (p := 21) rfl ?_); refine store_event (t := 106) (p := 21) (v := ?vo_w13) (w1 := ((((((w11.setCell ⟨go10, (x4_1 : Int).toNat * 6, none⟩ (.string t163)).setCell ⟨go10, (x4_1 : Int).toNat * 6 + 1, none⟩ (.string t164)).setCell ⟨go10, (x4_1 : Int).toNat * 6 + 2, none⟩ (.string t165)).setCell ⟨go10, (x4_1 : Int).toNat * 6 + 3, none⟩ (.int .i64 t166)).setCell ⟨go10, (x4_1 : Int).toNat * 6 + 4, none⟩ (.int .i64 t167)).setCell ⟨go10, (x4_1 : Int).toNat * 6 + 5, none⟩ (.int .i64 t168))) ?hg ?ho ?hn ?hr ?_; (case ho => rfl); (case hg => rfl); (case hn => rfl); (case hr => first | (go_simp; done) | (go_simp; rfl)); intro w13 hw; have hg : w11.grownBy w13 (some go10) := (by rw [hw]; exact HP12.2); have hp_ : Kd.R k106 106 w13 w.heap.size (fun _ => True) (.slice (some ⟨go10, 0, none⟩) x3_1.length co10) y169 := (by rw [hw, Ny169.out]; exact HP12.1); clear HP12; have n0_ := Aside0.mk (hp_); have n1_ := Aside0.mk ((by rw [hw]; exact qg0 (qg0 (qg0 (qg0 (qg0 (qg0 (HB.out) GB10.out) GB10.out) GB10.out) GB10.out) GB10.out) GB10.out : Below w.heap.size w w13)); clear HO_3; clear HB; have HO_3 := n0_; have HB := n1_; clear n0_ n1_; clear hg hw hp_))
    go_roundg k1
    case measure => have := HK1.out; omega
    case rel => exact ⟨(y169), (wrap64 (x4_1 + 1)), (by first | rfl | (simp; done) | (simp [*]; done)), H', ⟨by have := HK1.out; omega⟩, ⟨by (with_reducible repeat (first | apply Kd.qm0 | apply Kd.ql0 | apply Kd.qo0)); exact HO_3.out⟩, ⟨by repeat (first | (with_reducible first | exact HB.out | apply qc0 | apply qa0 | apply qb0) | exact HB.out)⟩⟩
   rw [if_neg c6] at H
   have c6b0 : decide (x4_1 < (l0.length : Int)) = false := decide_eq_false c6
   clear c6
   obtain rfl := Option.some.inj H
   go_wp2
   go_ret
   exact ⟨_, by first | rfl | (simp [errW_none, errW_some] <;> rfl) | (simp [*, errW_none, errW_some] <;> rfl), by (with_reducible repeat (first | apply Kd.qm0 | apply Kd.ql0 | apply Kd.qo0)); exact HO_3.out, by repeat (first | (with_reducible first | exact HB.out | apply qc0 | apply qa0 | apply qb0) | exact HB.out)⟩

/-! ### laws_toPick: function 73 -/
def laws_toPick.f (a0_0 : Int) (a0_1 : Int) : Option (Int × Int) := some (a0_0, a0_1)
set_option maxHeartbeats 8000000 in
set_option maxRecDepth 100000 in
theorem laws_toPick.calls (a0_0 : Int) (a0_1 : Int) (r1 : Int) (r2 : Int) (w : World) (h : laws_toPick.f a0_0 a0_1 = some (r1, r2)) :
  Calls Try.prog 73 #[.agg #[.int .i64 a0_0, .int .i64 a0_1]] w fun e w' => e = .returned (.agg #[.int .i64 r1, .int .i64 r2]) ∧ Below w.heap.size w w' := by
 have hu111 := Try.underlying111
 have hu109 := Try.underlying109
 have HB := Aside0.mk (Below.refl w.heap.size w)
 have H : (some (a0_0, a0_1)) = some (r1, r2) := h
 clear h
 simp only [Option.some.injEq, Prod.mk.injEq] at H
 obtain ⟨rfl, rfl⟩ := H
 go_enter Try.func73, Try.ntmps73
 go_wp2_with (first | ((with_reducible refine qt0 (N := 1) rfl ?_); refine qs0 ?hg (N := 1) ?hd (cs := #[.int .i64 a0_0, .int .i64 a0_1]) (t := 111) ?hr ?_; (case hd => rfl); (case hg => rfl); (case hr => first | (go_simp; done) | (go_simp; rfl)); intro gb170 hg w2 hbox hb; have n0_ := Aside0.mk (qf0 (by repeat (first | (with_reducible first | exact HB.out | apply qc0 | apply qa0 | apply qb0) | exact HB.out)) hb); have n1_ := Aside0.mk (hbox); have n2_ := Aside0.mk ((by rw [hg]; exact (qh0 (by repeat (first | (with_reducible first | exact HB.out | apply qc0 | apply qa0 | apply qb0) | exact HB.out))) : w.heap.size ≤ gb170)); have n3_ := Aside0.mk ((by rw [hg]; exact (qh0 (by repeat (first | (with_reducible first | exact HB.out | apply qc0 | apply qa0 | apply qb0) | exact HB.out))) : w.heap.size ≤ gb170)); clear HB; have HB := n0_; have BK170 := n1_; have GW170 := n2_; have GE170 := n3_; clear n0_ n1_ n2_ n3_; clear hb hbox hg) | ((with_reducible refine qt0 (N := 2) rfl ?_); refine qs0 ?hg (N := 2) ?hd (cs := #[.int .i64 0, .int .i64 0]) (t := 109) ?hr ?_; (case hd => rfl); (case hg => rfl); (case hr => first | (go_simp; done) | (go_simp; rfl)); intro gb171 hg w3 hbox hb; have n0_ := Aside0.mk (qb1 (g := gb170) (o := .cells #[.int .i64 a0_0, .int .i64 a0_1] 111 (0, 0)) (by (with_reducible repeat (first | refine qi0 ?_ _ | refine qk0 ?_ | refine qj0 ?_ _)); exact BK170.out) hb); have n1_ := Aside0.mk (qf0 (by repeat (first | (with_reducible first | exact HB.out | apply qc0 | apply qa0 | apply qb0 | refine qg0 ?_ GE170.out) | exact HB.out)) hb); have n2_ := Aside0.mk (hbox); have n3_ := Aside0.mk ((by rw [hg]; exact (qh0 (by repeat (first | (with_reducible first | exact HB.out | apply qc0 | apply qa0 | apply qb0 | refine qg0 ?_ GE170.out) | exact HB.out))) : w.heap.size ≤ gb171)); have n4_ := Aside0.mk ((by rw [hg]; exact (qh0 (by repeat (first | (with_reducible first | exact HB.out | apply qc0 | apply qa0 | apply qb0 | refine qg0 ?_ GE170.out) | exact HB.out))) : w.heap.size ≤ gb171)); have n5_ := Aside0.mk ((by rw [hg]; exact Nat.ne_of_lt (qg1 (g := gb170) (o := .cells #[.int .i64 a0_0, .int .i64 a0_1] 111 (0, 0)) (by (with_reducible repeat (first | refine qi0 ?_ _ | refine qk0 ?_ | refine qj0 ?_ _)); exact BK170.out)) : gb170 ≠ gb171)); have n6_ := Aside0.mk ((by rw [hg]; exact Nat.ne_of_gt (qg1 (g := gb170) (o := .cells #[.int .i64 a0_0, .int .i64 a0_1] 111 (0, 0)) (by (with_reducible repeat (first | refine qi0 ?_ _ | refine qk0 ?_ | refine qj0 ?_ _)); exact BK170.out)) : gb171 ≠ gb170)); clear BK170; clear HB; have BK170 := n0_; have HB := n1_; have BK171 := n2_; have GW171 := n3_; have GE171 := n4_; have NB170_171 := n5_; have NB171_170 := n6_; clear n0_ n1_ n2_ n3_ n4_ n5_ n6_; clear hb hbox hg) | ((with_reducible refine qt0 (N := 3) rfl ?_); refine qs0 ?hg (N := 3) ?hd (cs := #[.int .i64 0, .int .i64 0]) (t := 109) ?hr ?_; (case hd => rfl); (case hg => rfl); (case hr => first | (go_simp; done) | (go_simp; rfl)); intro gb172 hg w4 hbox hb; have n0_ := Aside0.mk (qb1 (g := gb170) (o := .cells #[.int .i64 a0_0, .int .i64 a0_1] 111 (0, 0)) (by (with_reducible repeat (first | refine qi0 ?_ _ | refine qk0 ?_ | refine qj0 ?_ _)); exact BK170.out) hb); have n1_ := Aside0.mk (qb1 (g := gb171) (o := .cells #[.int .i64 0, .int .i64 0] 109 (0, 0)) (by (with_reducible repeat (first | refine qi0 ?_ _ | refine qk0 ?_ | refine qj0 ?_ _)); exact BK171.out) hb); have n2_ := Aside0.mk (qf0 (by repeat (first | (with_reducible first | exact HB.out | apply qc0 | apply qa0 | apply qb0 | refine qg0 ?_ GE170.out | refine qg0 ?_ GE171.out) | exact HB.out)) hb); have n3_ := Aside0.mk (hbox); have n4_ := Aside0.mk ((by rw [hg]; exact (qh0 (by repeat (first | (with_reducible first | exact HB.out | apply qc0 | apply qa0 | apply qb0 | refine qg0 ?_ GE170.out | refine qg0 ?_ GE171.out) | exact HB.out))) : w.heap.size ≤ gb172)); have n5_ := Aside0.mk ((by rw [hg]; exact (qh0 (by repeat (first | (with_reducible first | exact HB.out | apply qc0 | apply qa0 | apply qb0 | refine qg0 ?_ GE170.out | refine qg0 ?_ GE171.out) | exact HB.out))) : w.heap.size ≤ gb172)); have n6_ := Aside0.mk ((by rw [hg]; exact Nat.ne_of_lt (qg1 (g := gb170) (o := .cells #[.int .i64 a0_0, .int .i64 a0_1] 111 (0, 0)) (by (with_reducible repeat (first | refine qi0 ?_ _ | refine qk0 ?_ | refine qj0 ?_ _)); exact BK170.out)) : gb170 ≠ gb172)); have n7_ := Aside0.mk ((by rw [hg]; exact Nat.ne_of_gt (qg1 (g := gb170) (o := .cells #[.int .i64 a0_0, .int .i64 a0_1] 111 (0, 0)) (by (with_reducible repeat (first | refine qi0 ?_ _ | refine qk0 ?_ | refine qj0 ?_ _)); exact BK170.out)) : gb172 ≠ gb170)); have n8_ := Aside0.mk ((by rw [hg]; exact Nat.ne_of_lt (qg1 (g := gb171) (o := .cells #[.int .i64 0, .int .i64 0] 109 (0, 0)) (by (with_reducible repeat (first | refine qi0 ?_ _ | refine qk0 ?_ | refine qj0 ?_ _)); exact BK171.out)) : gb171 ≠ gb172)); have n9_ := Aside0.mk ((by rw [hg]; exact Nat.ne_of_gt (qg1 (g := gb171) (o := .cells #[.int .i64 0, .int .i64 0] 109 (0, 0)) (by (with_reducible repeat (first | refine qi0 ?_ _ | refine qk0 ?_ | refine qj0 ?_ _)); exact BK171.out)) : gb172 ≠ gb171)); clear BK170; clear BK171; clear HB; have BK170 := n0_; have BK171 := n1_; have HB := n2_; have BK172 := n3_; have GW172 := n4_; have GE172 := n5_; have NB170_172 := n6_; have NB172_170 := n7_; have NB171_172 := n8_; have NB172_171 := n9_; clear n0_ n1_ n2_ n3_ n4_ n5_ n6_ n7_ n8_ n9_; clear hb hbox hg; have hnb5 := NB170_171.out; have hnc5 := NB171_170.out; have hnb6 := NB170_172.out; have hnc6 := NB172_170.out; have hcz7_0 : w4.cell? ⟨gb170, 0, none⟩ = some (.int .i64 a0_0) := (qe0 BK170.out 0).trans rfl; have hcz7_1 : w4.cell? ⟨gb170, 1, none⟩ = some (.int .i64 a0_1) := (qe0 BK170.out 1).trans rfl; have hfz7_0 := qd0 BK170.out 0; have hfz7_1 := qd0 BK170.out 1; have hnb8 := NB172_171.out; have hnc8 := NB171_172.out; have hcz9_0 : w4.cell? ⟨gb172, 0, none⟩ = some (.int .i64 0) := (qe0 BK172.out 0).trans rfl; have hcz9_1 : w4.cell? ⟨gb172, 1, none⟩ = some (.int .i64 0) := (qe0 BK172.out 1).trans rfl; have hfz9_0 := qd0 BK172.out 0; have hfz9_1 := qd0 BK172.out 1; have hcz10_0 : w4.cell? ⟨gb171, 0, none⟩ = some (.int .i64 0) := (qe0 BK171.out 0).trans rfl; have hcz10_1 : w4.cell? ⟨gb171, 1, none⟩ = some (.int .i64 0) := (qe0 BK171.out 1).trans rfl; have hfz10_0 := qd0 BK171.out 0; have hfz10_1 := qd0 BK171.out 1))
 refine bodyPost_ret (results_cell_row rfl _ _ gb171 109 #[.int .i64 a0_0, .int .i64 a0_1] (0, 0) _ rfl (by (with_reducible repeat (first | refine qi0 ?_ _ | refine qk0 ?_ | refine qj0 ?_ _)); refine qx0 (cs := #[.int .i64 a0_0, .int .i64 0]) ?_ 1 _ rfl; (with_reducible repeat (first | refine qi0 ?_ _ | refine qk0 ?_ | refine qj0 ?_ _)); refine qx0 (cs := #[.int .i64 0, .int .i64 0]) ?_ 0 _ rfl; (with_reducible repeat (first | refine qi0 ?_ _ | refine qk0 ?_ | refine qj0 ?_ _)); refine qk1 ?_ NB171_172.out _; (with_reducible repeat (first | refine qi0 ?_ _ | refine qk0 ?_ | refine qj0 ?_ _)); refine qk1 ?_ NB171_172.out _; (with_reducible repeat (first | refine qi0 ?_ _ | refine qk0 ?_ | refine qj0 ?_ _)); exact BK171.out) Try.underlying109 rfl (by kernel_rfl)) rfl ?_
 exact ⟨by first | rfl | (simp [errW_none, errW_some] <;> rfl) | (simp [*, errW_none, errW_some] <;> rfl), by repeat (first | (with_reducible first | exact HB.out | apply qc0 | apply qa0 | apply qb0 | refine qg0 ?_ GE170.out | refine qg0 ?_ GE171.out | refine qg0 ?_ GE172.out) | exact HB.out)⟩

end Go.Proofs.Ytdnenglafphkbaa.PFnExactHold
