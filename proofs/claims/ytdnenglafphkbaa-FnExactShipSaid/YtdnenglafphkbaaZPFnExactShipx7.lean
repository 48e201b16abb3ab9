/- Lines by a program (a changed copy of the kit's print: this repo's wip/tools): Go functions as Lean functions, and proofs that the calls answer so. -/
import Derived.Test.YtdnenglafphkbaaZPFnExactShipx0
import Derived.Test.YtdnenglafphkbaaZPFnExactShipx5
import Derived.Test.YtdnenglafphkbaaZPFnExactShipx6
namespace Go.Proofs.Ytdnenglafphkbaa.PFnExactShip
open Go.RowKit Go.Proofs.YtdnenglafphkbaaW.PrintWords Go.Proofs.YtdnenglafphkbaaW.PrintLast Go.Proofs.YtdnenglafphkbaaW.PrintMore
attribute [local go_sem] max2_int min2_int max_two min_two max_three min_three max_four min_four   -- for this text's walks alone
set_option linter.unusedVariables false
set_option linter.unusedSimpArgs false

/-! ### spec_l15Each: function 71 -/
mutual
def spec_l15Each.l0 : Nat → List (S106) → List (S109) → Bool → List (S106) → Int → Option ((List (S106)) × Int)
 | 0, _, _, _, _, _ => none
 | k + 1, x0, x1, x2, x8, x9 => if x9 < (x1.length : Int) then (if 0 ≤ x9 then ((spec_l1In.f ((rd_T109 x1 x9).f0) 0 (wrap64 ((x0.length : Int) - 1))).bind fun t197 => (if t197 = true then ((spec_l1In.f ((rd_T109 x1 x9).f1) 1 1000000).bind fun t198 => (spec_l15Each.j1 k x0 x1 x2 x8 x9 (!t198) ((rd_T109 x1 x9).f0) ((rd_T109 x1 x9).f1))) else (spec_l15Each.j1 k x0 x1 x2 x8 x9 true ((rd_T109 x1 x9).f0) ((rd_T109 x1 x9).f1)))) else (none)) else (some (x8, 0))
def spec_l15Each.j1 : Nat → List (S106) → List (S109) → Bool → List (S106) → Int → Bool → Int → Int → Option ((List (S106)) × Int)
 | 0, _, _, _, _, _, _, _, _ => none
 | k + 1, x0, x1, x2, x8, x9, x44, x197000, x197001 => if x44 = true then ((spec_l15Copy.f x0).bind fun t199 => (some (t199, 2))) else (if 0 ≤ x197000 then (if x197000 < (x8.length : Int) then (if x2 = true then (if ((rd_T106 x8 x197000).f5) < x197001 then (spec_l15Each.j2 k x0 x1 x2 x8 x9 true x197000 x197001 ((rd_T106 x8 x197000).f0) ((rd_T106 x8 x197000).f1) ((rd_T106 x8 x197000).f2) ((rd_T106 x8 x197000).f3) ((rd_T106 x8 x197000).f4) ((rd_T106 x8 x197000).f5)) else (spec_l15Each.j2 k x0 x1 x2 x8 x9 false x197000 x197001 ((rd_T106 x8 x197000).f0) ((rd_T106 x8 x197000).f1) ((rd_T106 x8 x197000).f2) ((rd_T106 x8 x197000).f3) ((rd_T106 x8 x197000).f4) ((rd_T106 x8 x197000).f5))) else (spec_l15Each.j2 k x0 x1 x2 x8 x9 (decide ((wrap64 (((rd_T106 x8 x197000).f4) - ((rd_T106 x8 x197000).f5))) < x197001)) x197000 x197001 ((rd_T106 x8 x197000).f0) ((rd_T106 x8 x197000).f1) ((rd_T106 x8 x197000).f2) ((rd_T106 x8 x197000).f3) ((rd_T106 x8 x197000).f4) ((rd_T106 x8 x197000).f5))) else (none)) else (none))
def spec_l15Each.j2 : Nat → List (S106) → List (S109) → Bool → List (S106) → Int → Bool → Int → Int → ByteArray → ByteArray → ByteArray → Int → Int → Int → Option ((List (S106)) × Int)
 | 0, _, _, _, _, _, _, _, _, _, _, _, _, _, _ => none
 | k + 1, x0, x1, x2, x8, x9, x73, x197000, x197001, x204000, x204001, x204002, x204003, x204004, x204005 => if x73 = true then ((spec_l15Copy.f x0).bind fun t204 => (some (t204, 3))) else (if x2 = true then (if 0 ≤ x197000 then (if x197000 < (x8.length : Int) then (spec_l15Each.l0 k x0 x1 x2 (x8.set (x197000 : Int).toNat (⟨x204000, x204001, x204002, x204003, wrap64 (x204004 - x197001), wrap64 (x204005 - x197001)⟩ : S106)) (wrap64 (x9 + 1))) else (none)) else (none)) else (if 0 ≤ x197000 then (if x197000 < (x8.length : Int) then (spec_l15Each.l0 k x0 x1 x2 (x8.set (x197000 : Int).toNat (⟨x204000, x204001, x204002, x204003, x204004, wrap64 (x204005 + x197001)⟩ : S106)) (wrap64 (x9 + 1))) else (none)) else (none)))
end
def spec_l15Each.f (k : Nat) (l0 : List (S106)) (l1 : List (S109)) (a2 : Bool) : Option ((List (S106)) × Int) := (spec_StockOk.f k l0).bind fun t188 => (if t188 = true then ((spec_l15Copy.f l0).bind fun t192 => (if (l1.length : Int) > 100 then (some (t192, 2)) else (spec_l15Each.l0 k l0 l1 a2 t192 0))) else (some ((([] : List (S106))), 1)))
theorem spec_l15Each.mono_l : ∀ k, (∀ y0 y1 y2 y3 y4, LeO (spec_l15Each.l0 k y0 y1 y2 y3 y4) (spec_l15Each.l0 (k + 1) y0 y1 y2 y3 y4)) ∧ (∀ y0 y1 y2 y3 y4 y5 y6 y7, LeO (spec_l15Each.j1 k y0 y1 y2 y3 y4 y5 y6 y7) (spec_l15Each.j1 (k + 1) y0 y1 y2 y3 y4 y5 y6 y7)) ∧ (∀ y0 y1 y2 y3 y4 y5 y6 y7 y8 y9 y10 y11 y12 y13, LeO (spec_l15Each.j2 k y0 y1 y2 y3 y4 y5 y6 y7 y8 y9 y10 y11 y12 y13) (spec_l15Each.j2 (k + 1) y0 y1 y2 y3 y4 y5 y6 y7 y8 y9 y10 y11 y12 y13))
 | 0 => ⟨fun _ _ _ _ _ r h => by simp [spec_l15Each.l0] at h, fun _ _ _ _ _ _ _ _ r h => by simp [spec_l15Each.j1] at h, fun _ _ _ _ _ _ _ _ _ _ _ _ _ _ r h => by simp [spec_l15Each.j2] at h⟩
 | k + 1 => by
  obtain ⟨ih0, ih1, ih2⟩ := spec_l15Each.mono_l k
  refine ⟨?_, ?_, ?_⟩
  ·intro y0 y1 y2 y3 y4
   unfold spec_l15Each.l0
   repeat' first
   | (with_reducible exact ih0 _ _ _ _ _)
   | (with_reducible exact ih1 _ _ _ _ _ _ _ _)
   | (with_reducible exact ih2 _ _ _ _ _ _ _ _ _ _ _ _ _ _)
   | (with_reducible exact spec_StockOk.mono _ _)
   | (with_reducible exact LeO.refl _)
   | (with_reducible exact LeO.none _)
   | (with_reducible refine LeO.ite ?_ ?_)
   | (with_reducible refine LeO.bind ?_ (fun _ => ?_))
   | exact ih0 _ _ _ _ _
   | exact ih1 _ _ _ _ _ _ _ _
   | exact ih2 _ _ _ _ _ _ _ _ _ _ _ _ _ _
   | exact spec_StockOk.mono _ _
   | exact LeO.none _
   | refine LeO.ite ?_ ?_
   | refine LeO.bind ?_ (fun _ => ?_)
  ·intro y0 y1 y2 y3 y4 y5 y6 y7
   unfold spec_l15Each.j1
   repeat' first
   | (with_reducible exact ih0 _ _ _ _ _)
   | (with_reducible exact ih1 _ _ _ _ _ _ _ _)
   | (with_reducible exact ih2 _ _ _ _ _ _ _ _ _ _ _ _ _ _)
   | (with_reducible exact spec_StockOk.mono _ _)
   | (with_reducible exact LeO.refl _)
   | (with_reducible exact LeO.none _)
   | (with_reducible refine LeO.ite ?_ ?_)
   | (with_reducible refine LeO.bind ?_ (fun _ => ?_))
   | exact ih0 _ _ _ _ _
   | exact ih1 _ _ _ _ _ _ _ _
   | exact ih2 _ _ _ _ _ _ _ _ _ _ _ _ _ _
   | exact spec_StockOk.mono _ _
   | exact LeO.none _
   | refine LeO.ite ?_ ?_
   | refine LeO.bind ?_ (fun _ => ?_)
  ·intro y0 y1 y2 y3 y4 y5 y6 y7 y8 y9 y10 y11 y12 y13
   unfold spec_l15Each.j2
   repeat' first
   | (with_reducible exact ih0 _ _ _ _ _)
   | (with_reducible exact ih1 _ _ _ _ _ _ _ _)
   | (with_reducible exact ih2 _ _ _ _ _ _ _ _ _ _ _ _ _ _)
   | (with_reducible exact spec_StockOk.mono _ _)
   | (with_reducible exact LeO.refl _)
   | (with_reducible exact LeO.none _)
   | (with_reducible refine LeO.ite ?_ ?_)
   | (with_reducible refine LeO.bind ?_ (fun _ => ?_))
   | exact ih0 _ _ _ _ _
   | exact ih1 _ _ _ _ _ _ _ _
   | exact ih2 _ _ _ _ _ _ _ _ _ _ _ _ _ _
   | exact spec_StockOk.mono _ _
   | exact LeO.none _
   | refine LeO.ite ?_ ?_
   | refine LeO.bind ?_ (fun _ => ?_)
theorem spec_l15Each.mono : ∀ a0 a1 a2 k, LeO (spec_l15Each.f k a0 a1 a2) (spec_l15Each.f (k + 1) a0 a1 a2) := by
 intro a0 a1 a2 k
 obtain ⟨ih0, ih1, ih2⟩ := spec_l15Each.mono_l k
 unfold spec_l15Each.f
 repeat' first
   | (with_reducible exact ih0 _ _ _ _ _)
   | (with_reducible exact ih1 _ _ _ _ _ _ _ _)
   | (with_reducible exact ih2 _ _ _ _ _ _ _ _ _ _ _ _ _ _)
   | (with_reducible exact spec_StockOk.mono _ _)
   | (with_reducible exact LeO.refl _)
   | (with_reducible exact LeO.none _)
   | (with_reducible refine LeO.ite ?_ ?_)
   | (with_reducible refine LeO.bind ?_ (fun _ => ?_))
   | exact ih0 _ _ _ _ _
   | exact ih1 _ _ _ _ _ _ _ _
   | exact ih2 _ _ _ _ _ _ _ _ _ _ _ _ _ _
   | exact spec_StockOk.mono _ _
   | exact LeO.none _
   | refine LeO.ite ?_ ?_
   | refine LeO.bind ?_ (fun _ => ?_)
set_option maxHeartbeats 8000000 in
set_option maxRecDepth 100000 in
theorem spec_l15Each.calls (k : Nat) (A0 : Option Addr) (c0 : Nat) (l0 : List (S106)) (A1 : Option Addr) (c1 : Nat) (l1 : List (S109)) (a2 : Bool) (r1 : List (S106)) (r2 : Int) (w : World) (hr0 : Kd.C k106 w A0 l0.length l0) (hc0 : l0.length ≤ c0) (hr1 : Kd.C k109 w A1 l1.length l1) (hc1 : l1.length ≤ c1) (h : spec_l15Each.f k l0 l1 a2 = some (r1, r2)) :
  Calls Try.prog 71 #[.slice A0 l0.length c0, .slice A1 l1.length c1, .bool a2] w fun e w' => ∃ v0_ : Value, e = .returned (.tuple #[v0_, .int .i64 r2]) ∧ Kd.R k106 106 w' w.heap.size (fun _ => True) v0_ r1 ∧ Below w.heap.size w w' := by
 have hu109 := Try.underlying109
 have hu106 := Try.underlying106
 have HR0 := Aside0.mk hr0
 have HC0 := Aside0.mk hc0
 clear hr0 hc0
 have HR1 := Aside0.mk hr1
 have HC1 := Aside0.mk hc1
 clear hr1 hc1
 have HB := Aside0.mk (Below.refl w.heap.size w)
 have H : ((spec_StockOk.f k l0).bind fun t188 => (if t188 = true then ((spec_l15Copy.f l0).bind fun t192 => (if (l1.length : Int) > 100 then (some (t192, 2)) else (spec_l15Each.l0 k l0 l1 a2 t192 0))) else (some ((([] : List (S106))), 1)))) = some (r1, r2) := h
 clear h
 replace H := Option.bind_eq_some_iff.mp H
 obtain ⟨t188, A40, H⟩ := H
 replace H : (if t188 = true then ((spec_l15Copy.f l0).bind fun t192 => (if (l1.length : Int) > 100 then (some (t192, 2)) else (spec_l15Each.l0 k l0 l1 a2 t192 0))) else (some ((([] : List (S106))), 1))) = some (r1, r2) := H
 have A4 := Aside0.mk A40
 clear A40
 by_cases c5 : t188 = true
 ·subst c5
  have H1 : ((spec_l15Copy.f l0).bind fun t192 => (if (l1.length : Int) > 100 then (some (t192, 2)) else (spec_l15Each.l0 k l0 l1 a2 t192 0))) = some (r1, r2) := by rw [if_pos rfl] at H; exact H
  clear H
  have H := H1
  clear H1
  replace H := Option.bind_eq_some_iff.mp H
  obtain ⟨t192, A60, H⟩ := H
  replace H : (if (l1.length : Int) > 100 then (some (t192, 2)) else (spec_l15Each.l0 k l0 l1 a2 t192 0)) = some (r1, r2) := H
  have A6 := Aside0.mk A60
  clear A60
  by_cases c7 : (l1.length : Int) > 100
  ·rw [if_pos c7] at H
   have c7b0 : decide (100 < (l1.length : Int)) = true := decide_eq_true c7
   have c7b1 : decide (100 < l1.length) = true := decide_eq_true (by omega)
   clear c7
   simp only [Option.some.injEq, Prod.mk.injEq] at H
   obtain ⟨rfl, rfl⟩ := H
   go_enter Try.func71, Try.ntmps71
   go_wp2_with (first | ((with_reducible refine qn0 (f := 105) rfl ?_); refine qu0 (some 13) rfl rfl Try.func105 (by kernel_rfl) rfl #[.slice A0 l0.length c0] rfl (by (try simp only [List.map_toArray, List.map_cons, List.map_nil]); first | done | rfl | (simp only [List.length_drop, List.length_take]; rfl)) ?_; (with_reducible refine (spec_StockOk.calls k _ _ l0 true _ ?side1 ?side2 A4.out).mono ?_); (case side1 => repeat (first | exact HR0.out | (with_reducible refine Kd.qw0 ?_ _) | (with_reducible refine Kd.qv0 ?_ _) | (with_reducible refine Kd.qy0 ?_))); (case side2 => exact HC0.out); rintro e w8 ⟨rfl, hb⟩; refine ⟨_, rfl, ?_⟩; have n0_ := Aside0.mk (qf0 (by repeat (first | (with_reducible first | exact HB.out | apply qc0 | apply qa0 | apply qb0) | exact HB.out)) hb); clear HB; have HB := n0_; clear n0_; (try clear hb); (try clear hb2); (try clear hk); (try clear hi)) | ((with_reducible refine qn0 (f := 106) rfl ?_); refine qu0 (some 17) rfl rfl Try.func106 (by kernel_rfl) rfl #[.slice A0 l0.length c0] rfl (by (try simp only [List.map_toArray, List.map_cons, List.map_nil]); first | done | rfl | (simp only [List.length_drop, List.length_take]; rfl)) ?_; (with_reducible refine (spec_l15Copy.calls _ _ l0 t192 _ ?side1 ?side2 A6.out).mono ?_); (case side1 => repeat (first | exact (Kd.qf1 HR0.out HB.out) | (with_reducible refine Kd.qw0 ?_ _) | (with_reducible refine Kd.qv0 ?_ _) | (with_reducible refine Kd.qy0 ?_))); (case side2 => exact HC0.out); rintro e w9 ⟨v193, rfl, ho0, hb⟩; refine ⟨_, rfl, ?_⟩; have n0_ := Aside0.mk (Kd.qi1 ho0 (qh0 (by repeat (first | (with_reducible first | exact HB.out | apply qc0 | apply qa0 | apply qb0) | exact HB.out)))); have n1_ := Aside0.mk (qf0 (by repeat (first | (with_reducible first | exact HB.out | apply qc0 | apply qa0 | apply qb0) | exact HB.out)) hb); clear HB; have HO194 := n0_; have HB := n1_; clear n0_ n1_; (try clear hb); (try clear hb2); (try clear hk); (try clear hi); (try clear ho0)))
   go_ret2
   exact ⟨_, by first | rfl | (simp [errW_none, errW_some] <;> rfl) | (simp [*, errW_none, errW_some] <;> rfl), by (with_reducible repeat (first | apply Kd.qm0 | apply Kd.ql0 | apply Kd.qo0)); exact HO194.out, by repeat (first | (with_reducible first | exact HB.out | apply qc0 | apply qa0 | apply qb0) | exact HB.out)⟩
  rw [if_neg c7] at H
  have c7b0 : decide (100 < (l1.length : Int)) = false := decide_eq_false c7
  have c7b1 : decide (100 < l1.length) = false := decide_eq_false (by omega)
  clear c7
  have H' := Aside0.mk H
  clear H
  go_enter Try.func71, Try.ntmps71
  go_wp2_with (first | ((with_reducible refine qn0 (f := 105) rfl ?_); refine qu0 (some 13) rfl rfl Try.func105 (by kernel_rfl) rfl #[.slice A0 l0.length c0] rfl (by (try simp only [List.map_toArray, List.map_cons, List.map_nil]); first | done | rfl | (simp only [List.length_drop, List.length_take]; rfl)) ?_; (with_reducible refine (spec_StockOk.calls k _ _ l0 true _ ?side1 ?side2 A4.out).mono ?_); (case side1 => repeat (first | exact HR0.out | (with_reducible refine Kd.qw0 ?_ _) | (with_reducible refine Kd.qv0 ?_ _) | (with_reducible refine Kd.qy0 ?_))); (case side2 => exact HC0.out); rintro e w10 ⟨rfl, hb⟩; refine ⟨_, rfl, ?_⟩; have n0_ := Aside0.mk (qf0 (by repeat (first | (with_reducible first | exact HB.out | apply qc0 | apply qa0 | apply qb0) | exact HB.out)) hb); clear HB; have HB := n0_; clear n0_; (try clear hb); (try clear hb2); (try clear hk); (try clear hi)) | ((with_reducible refine qn0 (f := 106) rfl ?_); refine qu0 (some 17) rfl rfl Try.func106 (by kernel_rfl) rfl #[.slice A0 l0.length c0] rfl (by (try simp only [List.map_toArray, List.map_cons, List.map_nil]); first | done | rfl | (simp only [List.length_drop, List.length_take]; rfl)) ?_; (with_reducible refine (spec_l15Copy.calls _ _ l0 t192 _ ?side1 ?side2 A6.out).mono ?_); (case side1 => repeat (first | exact (Kd.qf1 HR0.out HB.out) | (with_reducible refine Kd.qw0 ?_ _) | (with_reducible refine Kd.qv0 ?_ _) | (with_reducible refine Kd.qy0 ?_))); (case side2 => exact HC0.out); rintro e w11 ⟨v193, rfl, ho0, hb⟩; refine ⟨_, rfl, ?_⟩; have n0_ := Aside0.mk (Kd.qi1 ho0 (qh0 (by repeat (first | (with_reducible first | exact HB.out | apply qc0 | apply qa0 | apply qb0) | exact HB.out)))); have n1_ := Aside0.mk (qf0 (by repeat (first | (with_reducible first | exact HB.out | apply qc0 | apply qa0 | apply qb0) | exact HB.out)) hb); clear HB; have HO194 := n0_; have HB := n1_; clear n0_ n1_; (try clear hb); (try clear hb2); (try clear hk); (try clear hi); (try clear ho0)))
  go_loopg [9] k (fun kq v9 w' => ∃ (x8_1 : List (S106)) (x9_1 : Int), v9 = .int .i64 x9_1 ∧ Aside0 (spec_l15Each.l0 kq l0 l1 a2 x8_1 x9_1 = some (r1, r2)) ∧ Aside0 (kq ≤ k) ∧ Aside0 (Kd.R k106 106 w' w.heap.size (fun _ => True) v193 x8_1) ∧ Aside0 (Below w.heap.size w w'))
  case atStart => exact ⟨(t192), (0), (by first | rfl | (simp; done) | (simp [*]; done)), H', ⟨Nat.le_refl _⟩, ⟨by (with_reducible repeat (first | apply Kd.qm0 | apply Kd.ql0 | apply Kd.qo0)); exact HO194.out⟩, ⟨by repeat (first | (with_reducible first | exact HB.out | apply qc0 | apply qa0 | apply qb0) | exact HB.out)⟩⟩
  case round =>
   clear H'
   try clear c1
   try clear p2
   try clear c5
   try clear c7
   try clear c7b0
   try clear c7b1
   try clear c10
   obtain ⟨x8_1, x9_1, rfl, HA, HK1, HO_8, HB⟩ := hrel
   cases gk with
   | zero => exact absurd HA.out (by simp [spec_l15Each.l0])
   | succ k1 =>
    have H := HA.out
    clear HA
    simp only [spec_l15Each.l0] at H
    by_cases c12 : x9_1 < (l1.length : Int)
    ·rw [if_pos c12] at H
     have c12b0 : decide (x9_1 < (l1.length : Int)) = true := decide_eq_true c12
     clear c12
     by_cases c13 : 0 ≤ x9_1
     case neg => rw [if_neg c13] at H; exact absurd H (by simp)
     rw [if_pos c13] at H
     have c13b0 : decide (0 ≤ x9_1) = true := decide_eq_true c13
     clear c13
     have HC14 := Aside0.mk H
     clear H
     have p195 : 0 ≤ (x9_1 : Int) := of_decide_eq_true (by first | (with_reducible assumption) | assumption)
     have q195 : x9_1 < (l1.length : Int) := of_decide_eq_true (by first | (with_reducible assumption) | assumption)
     obtain ⟨ad195, e195, hx195_0, hx195_1⟩ := at_T109 HR1.out x9_1 p195 q195
     cases e195
     replace hx195_0 := (HB.out.cell (World.block_lt_of_cell? w _ hx195_0)).trans hx195_0
     replace hx195_1 := (HB.out.cell (World.block_lt_of_cell? w _ hx195_1)).trans hx195_1
     replace p195 := eq_true p195
     replace q195 := eq_true q195
     go_upto_region 10 with (first | ((with_reducible refine qt0 (N := 10) rfl ?_); refine qs0 ?hg (N := 10) ?hd (cs := #[.int .i64 0, .int .i64 0]) (t := 109) ?hr ?_; (case hd => rfl); (case hg => rfl); (case hr => first | (go_simp; done) | (go_simp; rfl)); intro gb196 hg w15 hbox hb; have n0_ := Aside0.mk (Kd.qr0 (by (with_reducible repeat (first | apply Kd.qm0 | apply Kd.ql0 | apply Kd.qo0)); exact HO_8.out) hb); have n1_ := Aside0.mk (qf0 (by repeat (first | (with_reducible first | exact HB.out | apply qc0 | apply qa0 | apply qb0) | exact HB.out)) hb); have n2_ := Aside0.mk (hbox); have n3_ := Aside0.mk ((by rw [hg]; exact (qh0 (by repeat (first | (with_reducible first | exact HB.out | apply qc0 | apply qa0 | apply qb0) | exact HB.out))) : w.heap.size ≤ gb196)); have n4_ := Aside0.mk ((by rw [hg]; exact (qh0 (by repeat (first | (with_reducible first | exact HB.out | apply qc0 | apply qa0 | apply qb0) | exact HB.out))) : w.heap.size ≤ gb196)); clear HO_8; clear HB; have HO_8 := n0_; have HB := n1_; have BK196 := n2_; have GW196 := n3_; have GE196 := n4_; clear n0_ n1_ n2_ n3_ n4_; clear hb hbox hg; have hcz16_0 : w15.cell? ⟨gb196, 0, none⟩ = some (.int .i64 0) := (qe0 BK196.out 0).trans rfl; have hcz16_1 : w15.cell? ⟨gb196, 1, none⟩ = some (.int .i64 0) := (qe0 BK196.out 1).trans rfl; have hfz16_0 := qd0 BK196.out 0; have hfz16_1 := qd0 BK196.out 1))
     (try simp only [Act.put, List.setIfInBounds_toArray, List.set_cons_zero, List.set_cons_succ])
     go_cut [44] (fun v44 wc => ∃ (kq : Nat) (x44_13 : Bool), v44 = .bool x44_13 ∧ Aside0 (spec_l15Each.j1 kq l0 l1 a2 x8_1 x9_1 x44_13 ((rd_T109 l1 x9_1).f0) ((rd_T109 l1 x9_1).f1) = some (r1, r2)) ∧ Aside0 (kq ≤ k1) ∧ Aside0 (Kd.R k106 106 wc w.heap.size (fun _ => True) v193 x8_1) ∧ Aside0 (wc.heap[gb196]? = some (.cells #[.int .i64 ((rd_T109 l1 x9_1).f0), .int .i64 ((rd_T109 l1 x9_1).f1)] 109 (0, 0))) ∧ Aside0 (Below w.heap.size w wc))
     case first =>
      have H := HC14.out
      clear HC14
      replace H := Option.bind_eq_some_iff.mp H
      obtain ⟨t197, A170, H⟩ := H
      replace H : (if t197 = true then ((spec_l1In.f ((rd_T109 l1 x9_1).f1) 1 1000000).bind fun t198 => (spec_l15Each.j1 k1 l0 l1 a2 x8_1 x9_1 (!t198) ((rd_T109 l1 x9_1).f0) ((rd_T109 l1 x9_1).f1))) else (spec_l15Each.j1 k1 l0 l1 a2 x8_1 x9_1 true ((rd_T109 l1 x9_1).f0) ((rd_T109 l1 x9_1).f1))) = some (r1, r2) := H
      have A17 := Aside0.mk A170
      clear A170
      by_cases c18 : t197 = true
      ·subst c18
       have H1 : ((spec_l1In.f ((rd_T109 l1 x9_1).f1) 1 1000000).bind fun t198 => (spec_l15Each.j1 k1 l0 l1 a2 x8_1 x9_1 (!t198) ((rd_T109 l1 x9_1).f0) ((rd_T109 l1 x9_1).f1))) = some (r1, r2) := by rw [if_pos rfl] at H; exact H
       clear H
       have H := H1
       clear H1
       replace H := Option.bind_eq_some_iff.mp H
       obtain ⟨t198, A190, H⟩ := H
       replace H : (spec_l15Each.j1 k1 l0 l1 a2 x8_1 x9_1 (!t198) ((rd_T109 l1 x9_1).f0) ((rd_T109 l1 x9_1).f1)) = some (r1, r2) := H
       have A19 := Aside0.mk A190
       clear A190
       have H' := Aside0.mk H
       clear H
       have hcz20_0 : w15.cell? ⟨gb196, 0, none⟩ = some (.int .i64 0) := (qe0 BK196.out 0).trans rfl
       have hcz20_1 : w15.cell? ⟨gb196, 1, none⟩ = some (.int .i64 0) := (qe0 BK196.out 1).trans rfl
       have hfz20_0 := qd0 BK196.out 0
       have hfz20_1 := qd0 BK196.out 1
       go_wp2_with (first | ((with_reducible refine qn0 (f := 58) rfl ?_); refine qu0 (some 37) rfl rfl Try.func58 (by kernel_rfl) rfl #[.int .i64 ((rd_T109 l1 x9_1).f0), .int .i64 0, .int .i64 (wrap64 ((l0.length : Int) - 1))] rfl (by (try simp only [List.map_toArray, List.map_cons, List.map_nil]); first | done | rfl | (simp only [List.length_drop, List.length_take]; rfl)) ?_; (with_reducible refine (spec_l1In.calls ((rd_T109 l1 x9_1).f0) 0 (wrap64 ((l0.length : Int) - 1)) true _ A17.out).mono ?_); rintro e w' ⟨rfl, ⟨nd, rfl⟩⟩; refine ⟨_, rfl, ?_⟩) | (go_at_call 58; (with_reducible refine (spec_l1In.calls ((rd_T109 l1 x9_1).f1) 1 1000000 t198 _ A19.out).mono ?_); rintro e w' ⟨rfl, ⟨nd, rfl⟩⟩))
       go_meet
       case rel => exact ⟨_, (!t198), (by first | rfl | (simp; done) | (simp [*]; done)), H', ⟨by have := HK1.out; first | omega | exact Nat.le_refl _⟩, ⟨by (with_reducible repeat (first | apply Kd.qm0 | apply Kd.ql0 | apply Kd.qo0)); exact Kd.qz0 (Kd.R_far (p := ⟨gb196, 1, none⟩) (Kd.R_far (p := ⟨gb196, 0, none⟩) (Kd.R_types HO_8.out BK196.out (by decide)) (fun _ hk => hk.2) (.int .i64 ((rd_T109 l1 x9_1).f0))) (fun _ hk => hk.2) (.int .i64 ((rd_T109 l1 x9_1).f1))) (fun _ hk => trivial)⟩, ⟨by (with_reducible repeat (first | refine qi0 ?_ _ | refine qk0 ?_ | refine qj0 ?_ _)); refine qx0 (cs := #[.int .i64 ((rd_T109 l1 x9_1).f0), .int .i64 0]) ?_ 1 _ rfl; (with_reducible repeat (first | refine qi0 ?_ _ | refine qk0 ?_ | refine qj0 ?_ _)); refine qx0 (cs := #[.int .i64 0, .int .i64 0]) ?_ 0 _ rfl; (with_reducible repeat (first | refine qi0 ?_ _ | refine qk0 ?_ | refine qj0 ?_ _)); exact BK196.out⟩, ⟨by repeat (first | (with_reducible first | exact HB.out | apply qc0 | apply qa0 | apply qb0 | refine qg0 ?_ GE196.out) | exact HB.out)⟩⟩
      replace c18 := Bool.eq_false_iff.mpr c18
      subst c18
      have H1 : (spec_l15Each.j1 k1 l0 l1 a2 x8_1 x9_1 true ((rd_T109 l1 x9_1).f0) ((rd_T109 l1 x9_1).f1)) = some (r1, r2) := by rw [if_neg (show ¬ (false = true) by decide)] at H; exact H
      clear H
      have H := H1
      clear H1
      have H' := Aside0.mk H
      clear H
      have hcz21_0 : w15.cell? ⟨gb196, 0, none⟩ = some (.int .i64 0) := (qe0 BK196.out 0).trans rfl
      have hcz21_1 : w15.cell? ⟨gb196, 1, none⟩ = some (.int .i64 0) := (qe0 BK196.out 1).trans rfl
      have hfz21_0 := qd0 BK196.out 0
      have hfz21_1 := qd0 BK196.out 1
      go_wp2_with (first | ((with_reducible refine qn0 (f := 58) rfl ?_); refine qu0 (some 37) rfl rfl Try.func58 (by kernel_rfl) rfl #[.int .i64 ((rd_T109 l1 x9_1).f0), .int .i64 0, .int .i64 (wrap64 ((l0.length : Int) - 1))] rfl (by (try simp only [List.map_toArray, List.map_cons, List.map_nil]); first | done | rfl | (simp only [List.length_drop, List.length_take]; rfl)) ?_; (with_reducible refine (spec_l1In.calls ((rd_T109 l1 x9_1).f0) 0 (wrap64 ((l0.length : Int) - 1)) false _ A17.out).mono ?_); rintro e w' ⟨rfl, ⟨nd, rfl⟩⟩; refine ⟨_, rfl, ?_⟩))
      go_meet
      case rel => exact ⟨_, (true), (by first | rfl | (simp; done) | (simp [*]; done)), H', ⟨by have := HK1.out; first | omega | exact Nat.le_refl _⟩, ⟨by (with_reducible repeat (first | apply Kd.qm0 | apply Kd.ql0 | apply Kd.qo0)); exact Kd.qz0 (Kd.R_far (p := ⟨gb196, 1, none⟩) (Kd.R_far (p := ⟨gb196, 0, none⟩) (Kd.R_types HO_8.out BK196.out (by decide)) (fun _ hk => hk.2) (.int .i64 ((rd_T109 l1 x9_1).f0))) (fun _ hk => hk.2) (.int .i64 ((rd_T109 l1 x9_1).f1))) (fun _ hk => trivial)⟩, ⟨by (with_reducible repeat (first | refine qi0 ?_ _ | refine qk0 ?_ | refine qj0 ?_ _)); refine qx0 (cs := #[.int .i64 ((rd_T109 l1 x9_1).f0), .int .i64 0]) ?_ 1 _ rfl; (with_reducible repeat (first | refine qi0 ?_ _ | refine qk0 ?_ | refine qj0 ?_ _)); refine qx0 (cs := #[.int .i64 0, .int .i64 0]) ?_ 0 _ rfl; (with_reducible repeat (first | refine qi0 ?_ _ | refine qk0 ?_ | refine qj0 ?_ _)); exact BK196.out⟩, ⟨by repeat (first | (with_reducible first | exact HB.out | apply qc0 | apply qa0 | apply qb0 | refine qg0 ?_ GE196.out) | exact HB.out)⟩⟩
     case rest =>
      clear HC14
      try clear c1
      try clear p1
      try clear q1
      try clear hx1
      try clear p2
      try clear c5
      try clear p6
      try clear c7
      try clear c7b0
      try clear c7b1
      try clear c10
      try clear c12
      try clear c12b0
      try clear c13
      try clear c13b0
      try clear c18
      try clear p19
      try clear q19
      try clear hx19
      try clear hcz16_0
      try clear hcz16_1
      try clear hcz20_0
      try clear hcz20_1
      try clear hcz21_0
      try clear hcz21_1
      try clear hfz16_0
      try clear hfz16_1
      try clear hfz20_0
      try clear hfz20_1
      try clear hfz21_0
      try clear hfz21_1
      try clear hx195_0
      try clear hx195_1
      try clear p195
      try clear p2
      try clear q195
      obtain ⟨kq, x44_13, rfl, HA, HJ13, HO_8, BK196, HB⟩ := hcut
      cases kq with
      | zero => exact absurd HA.out (by simp [spec_l15Each.j1])
      | succ kj13 =>
       have H := HA.out
       clear HA
       simp only [spec_l15Each.j1] at H
       by_cases c22 : x44_13 = true
       ·subst c22
        have H1 : ((spec_l15Copy.f l0).bind fun t199 => (some (t199, 2))) = some (r1, r2) := by rw [if_pos rfl] at H; exact H
        clear H
        have H := H1
        clear H1
        replace H := Option.bind_eq_some_iff.mp H
        obtain ⟨t199, A230, H⟩ := H
        replace H : (some (t199, 2)) = some (r1, r2) := H
        have A23 := Aside0.mk A230
        clear A230
        simp only [Option.some.injEq, Prod.mk.injEq] at H
        obtain ⟨rfl, rfl⟩ := H
        go_wp2_with (first | ((with_reducible refine qn0 (f := 106) rfl ?_); refine qu0 (some 46) rfl rfl Try.func106 (by kernel_rfl) rfl #[.slice A0 l0.length c0] rfl (by (try simp only [List.map_toArray, List.map_cons, List.map_nil]); first | done | rfl | (simp only [List.length_drop, List.length_take]; rfl)) ?_; (with_reducible refine (spec_l15Copy.calls _ _ l0 t199 _ ?side1 ?side2 A23.out).mono ?_); (case side1 => repeat (first | exact (Kd.qf1 HR0.out HB.out) | (with_reducible refine Kd.qw0 ?_ _) | (with_reducible refine Kd.qv0 ?_ _) | (with_reducible refine Kd.qy0 ?_))); (case side2 => exact HC0.out); rintro e w24 ⟨v200, rfl, ho0, hb⟩; refine ⟨_, rfl, ?_⟩; have n0_ := Aside0.mk (Kd.qj1 (by (with_reducible repeat (first | apply Kd.qm0 | apply Kd.ql0 | apply Kd.qo0)); exact HO_8.out) (Kd.qr1 ho0) hb); have n1_ := Aside0.mk (Kd.qi1 (Kd.qq1 ho0 (Kd.R_lt (by (with_reducible repeat (first | apply Kd.qm0 | apply Kd.ql0 | apply Kd.qo0)); exact HO_8.out))) (qh0 (by repeat (first | (with_reducible first | exact HB.out | apply qc0 | apply qa0 | apply qb0 | refine qg0 ?_ GE196.out) | exact HB.out)))); have n2_ := Aside0.mk (qb1 (g := gb196) (o := .cells #[.int .i64 ((rd_T109 l1 x9_1).f0), .int .i64 ((rd_T109 l1 x9_1).f1)] 109 (0, 0)) (by (with_reducible repeat (first | refine qi0 ?_ _ | refine qk0 ?_ | refine qj0 ?_ _)); exact BK196.out) hb); have n3_ := Aside0.mk (qf0 (by repeat (first | (with_reducible first | exact HB.out | apply qc0 | apply qa0 | apply qb0 | refine qg0 ?_ GE196.out) | exact HB.out)) hb); clear HO_8; clear BK196; clear HB; have HO_8 := n0_; have HO201 := n1_; have BK196 := n2_; have HB := n3_; clear n0_ n1_ n2_ n3_; (try clear hb); (try clear hb2); (try clear hk); (try clear hi); (try clear ho0)))
        go_ret2
        exact ⟨_, by first | rfl | (simp [errW_none, errW_some] <;> rfl) | (simp [*, errW_none, errW_some] <;> rfl), by (with_reducible repeat (first | apply Kd.qm0 | apply Kd.ql0 | apply Kd.qo0)); exact Kd.qz0 HO201.out (fun _ hk => trivial), by repeat (first | (with_reducible first | exact HB.out | apply qc0 | apply qa0 | apply qb0 | refine qg0 ?_ GE196.out) | exact HB.out)⟩
       replace c22 := Bool.eq_false_iff.mpr c22
       subst c22
       have H1 : (if 0 ≤ ((rd_T109 l1 x9_1).f0) then (if ((rd_T109 l1 x9_1).f0) < (x8_1.length : Int) then (if a2 = true then (if ((rd_T106 x8_1 ((rd_T109 l1 x9_1).f0)).f5) < ((rd_T109 l1 x9_1).f1) then (spec_l15Each.j2 kj13 l0 l1 a2 x8_1 x9_1 true ((rd_T109 l1 x9_1).f0) ((rd_T109 l1 x9_1).f1) ((rd_T106 x8_1 ((rd_T109 l1 x9_1).f0)).f0) ((rd_T106 x8_1 ((rd_T109 l1 x9_1).f0)).f1) ((rd_T106 x8_1 ((rd_T109 l1 x9_1).f0)).f2) ((rd_T106 x8_1 ((rd_T109 l1 x9_1).f0)).f3) ((rd_T106 x8_1 ((rd_T109 l1 x9_1).f0)).f4) ((rd_T106 x8_1 ((rd_T109 l1 x9_1).f0)).f5)) else (spec_l15Each.j2 kj13 l0 l1 a2 x8_1 x9_1 false ((rd_T109 l1 x9_1).f0) ((rd_T109 l1 x9_1).f1) ((rd_T106 x8_1 ((rd_T109 l1 x9_1).f0)).f0) ((rd_T106 x8_1 ((rd_T109 l1 x9_1).f0)).f1) ((rd_T106 x8_1 ((rd_T109 l1 x9_1).f0)).f2) ((rd_T106 x8_1 ((rd_T109 l1 x9_1).f0)).f3) ((rd_T106 x8_1 ((rd_T109 l1 x9_1).f0)).f4) ((rd_T106 x8_1 ((rd_T109 l1 x9_1).f0)).f5))) else (spec_l15Each.j2 kj13 l0 l1 a2 x8_1 x9_1 (decide ((wrap64 (((rd_T106 x8_1 ((rd_T109 l1 x9_1).f0)).f4) - ((rd_T106 x8_1 ((rd_T109 l1 x9_1).f0)).f5))) < ((rd_T109 l1 x9_1).f1))) ((rd_T109 l1 x9_1).f0) ((rd_T109 l1 x9_1).f1) ((rd_T106 x8_1 ((rd_T109 l1 x9_1).f0)).f0) ((rd_T106 x8_1 ((rd_T109 l1 x9_1).f0)).f1) ((rd_T106 x8_1 ((rd_T109 l1 x9_1).f0)).f2) ((rd_T106 x8_1 ((rd_T109 l1 x9_1).f0)).f3) ((rd_T106 x8_1 ((rd_T109 l1 x9_1).f0)).f4) ((rd_T106 x8_1 ((rd_T109 l1 x9_1).f0)).f5))) else (none)) else (none)) = some (r1, r2) := by rw [if_neg (show ¬ (false = true) by decide)] at H; exact H
       clear H
       have H := H1
       clear H1
       by_cases c25 : 0 ≤ ((rd_T109 l1 x9_1).f0)
       case neg => rw [if_neg c25] at H; exact absurd H (by simp)
       rw [if_pos c25] at H
       have c25b0 : decide (0 ≤ ((rd_T109 l1 x9_1).f0)) = true := decide_eq_true c25
       clear c25
       by_cases c26 : ((rd_T109 l1 x9_1).f0) < (x8_1.length : Int)
       case neg => rw [if_neg c26] at H; exact absurd H (by simp)
       rw [if_pos c26] at H
       have c26b0 : decide (((rd_T109 l1 x9_1).f0) < (x8_1.length : Int)) = true := decide_eq_true c26
       clear c26
       have HC27 := Aside0.mk H
       clear H
       have hcz28_0 : wc.cell? ⟨gb196, 0, none⟩ = some (.int .i64 ((rd_T109 l1 x9_1).f0)) := (qe0 BK196.out 0).trans rfl
       have hcz28_1 : wc.cell? ⟨gb196, 1, none⟩ = some (.int .i64 ((rd_T109 l1 x9_1).f1)) := (qe0 BK196.out 1).trans rfl
       have hfz28_0 := qd0 BK196.out 0
       have hfz28_1 := qd0 BK196.out 1
       obtain ⟨Ao29, co29, eo29⟩ := Kd.qh1 HO_8.out
       subst eo29
       have p202 : 0 ≤ (((rd_T109 l1 x9_1).f0) : Int) := of_decide_eq_true (by first | (with_reducible assumption) | assumption)
       have q202 : ((rd_T109 l1 x9_1).f0) < (x8_1.length : Int) := of_decide_eq_true (by first | (with_reducible assumption) | assumption)
       obtain ⟨ad202, e202, hx202_0, hx202_1, hx202_2, hx202_3, hx202_4, hx202_5⟩ := at_T106 (Kd.qp0 HO_8.out).2.2 ((rd_T109 l1 x9_1).f0) p202 q202
       cases e202
       replace p202 := eq_true p202
       replace q202 := eq_true q202
       go_upto_region 13 with (first | ((with_reducible refine qt0 (N := 11) rfl ?_); refine qs0 ?hg (N := 11) ?hd (cs := #[.string (⟨#[]⟩ : ByteArray), .string (⟨#[]⟩ : ByteArray), .string (⟨#[]⟩ : ByteArray), .int .i64 0, .int .i64 0, .int .i64 0]) (t := 106) ?hr ?_; (case hd => rfl); (case hg => rfl); (case hr => first | (go_simp; done) | (go_simp; rfl)); intro gb203 hg w30 hbox hb; have n0_ := Aside0.mk (Kd.qr0 (Kd.R_elderB (by (with_reducible repeat (first | apply Kd.qm0 | apply Kd.ql0 | apply Kd.qo0)); exact HO_8.out) gb203 (Nat.le_of_eq hg.symm)) hb); have n1_ := Aside0.mk (qb1 (g := gb196) (o := .cells #[.int .i64 ((rd_T109 l1 x9_1).f0), .int .i64 ((rd_T109 l1 x9_1).f1)] 109 (0, 0)) (by (with_reducible repeat (first | refine qi0 ?_ _ | refine qk0 ?_ | refine qj0 ?_ _)); exact BK196.out) hb); have n2_ := Aside0.mk (qf0 (by repeat (first | (with_reducible first | exact HB.out | apply qc0 | apply qa0 | apply qb0 | refine qg0 ?_ GE196.out) | exact HB.out)) hb); have n3_ := Aside0.mk (hbox); have n4_ := Aside0.mk ((by rw [hg]; exact (qh0 (by repeat (first | (with_reducible first | exact HB.out | apply qc0 | apply qa0 | apply qb0 | refine qg0 ?_ GE196.out) | exact HB.out))) : w.heap.size ≤ gb203)); have n5_ := Aside0.mk ((by rw [hg]; exact (qh0 (by repeat (first | (with_reducible first | exact HB.out | apply qc0 | apply qa0 | apply qb0 | refine qg0 ?_ GE196.out) | exact HB.out))) : w.heap.size ≤ gb203)); have n6_ := Aside0.mk ((by rw [hg]; exact Nat.ne_of_lt (qg1 (g := gb196) (o := .cells #[.int .i64 ((rd_T109 l1 x9_1).f0), .int .i64 ((rd_T109 l1 x9_1).f1)] 109 (0, 0)) (by (with_reducible repeat (first | refine qi0 ?_ _ | refine qk0 ?_ | refine qj0 ?_ _)); exact BK196.out)) : gb196 ≠ gb203)); have n7_ := Aside0.mk ((by rw [hg]; exact Nat.ne_of_gt (qg1 (g := gb196) (o := .cells #[.int .i64 ((rd_T109 l1 x9_1).f0), .int .i64 ((rd_T109 l1 x9_1).f1)] 109 (0, 0)) (by (with_reducible repeat (first | refine qi0 ?_ _ | refine qk0 ?_ | refine qj0 ?_ _)); exact BK196.out)) : gb203 ≠ gb196)); clear HO_8; clear BK196; clear HB; have HO_8 := n0_; have BK196 := n1_; have HB := n2_; have BK203 := n3_; have GW203 := n4_; have GE203 := n5_; have NB196_203 := n6_; have NB203_196 := n7_; clear n0_ n1_ n2_ n3_ n4_ n5_ n6_ n7_; clear hb hbox hg; have hnb31 := NB203_196.out; have hnc31 := NB196_203.out; have hcz32_0 : w30.cell? ⟨gb203, 0, none⟩ = some (.string (⟨#[]⟩ : ByteArray)) := (qe0 BK203.out 0).trans rfl; have hcz32_1 : w30.cell? ⟨gb203, 1, none⟩ = some (.string (⟨#[]⟩ : ByteArray)) := (qe0 BK203.out 1).trans rfl; have hcz32_2 : w30.cell? ⟨gb203, 2, none⟩ = some (.string (⟨#[]⟩ : ByteArray)) := (qe0 BK203.out 2).trans rfl; have hcz32_3 : w30.cell? ⟨gb203, 3, none⟩ = some (.int .i64 0) := (qe0 BK203.out 3).trans rfl; have hcz32_4 : w30.cell? ⟨gb203, 4, none⟩ = some (.int .i64 0) := (qe0 BK203.out 4).trans rfl; have hcz32_5 : w30.cell? ⟨gb203, 5, none⟩ = some (.int .i64 0) := (qe0 BK203.out 5).trans rfl; have hfz32_0 := qd0 BK203.out 0; have hfz32_1 := qd0 BK203.out 1; have hfz32_2 := qd0 BK203.out 2; have hfz32_3 := qd0 BK203.out 3; have hfz32_4 := qd0 BK203.out 4; have hfz32_5 := qd0 BK203.out 5))
       (try simp only [Act.put, List.setIfInBounds_toArray, List.set_cons_zero, List.set_cons_succ])
       go_cut [73] (fun v73 wc => ∃ (kq : Nat) (x73_26 : Bool), v73 = .bool x73_26 ∧ Aside0 (spec_l15Each.j2 kq l0 l1 a2 x8_1 x9_1 x73_26 ((rd_T109 l1 x9_1).f0) ((rd_T109 l1 x9_1).f1) ((rd_T106 x8_1 ((rd_T109 l1 x9_1).f0)).f0) ((rd_T106 x8_1 ((rd_T109 l1 x9_1).f0)).f1) ((rd_T106 x8_1 ((rd_T109 l1 x9_1).f0)).f2) ((rd_T106 x8_1 ((rd_T109 l1 x9_1).f0)).f3) ((rd_T106 x8_1 ((rd_T109 l1 x9_1).f0)).f4) ((rd_T106 x8_1 ((rd_T109 l1 x9_1).f0)).f5) = some (r1, r2)) ∧ Aside0 (kq ≤ kj13) ∧ Aside0 (Kd.R k106 106 wc w.heap.size (fun k_ => k_ ≠ gb203) (.slice (some ad202) x8_1.length co29) x8_1) ∧ Aside0 (wc.heap[gb196]? = some (.cells #[.int .i64 ((rd_T109 l1 x9_1).f0), .int .i64 ((rd_T109 l1 x9_1).f1)] 109 (0, 0))) ∧ Aside0 (wc.heap[gb203]? = some (.cells #[.string ((rd_T106 x8_1 ((rd_T109 l1 x9_1).f0)).f0), .string ((rd_T106 x8_1 ((rd_T109 l1 x9_1).f0)).f1), .string ((rd_T106 x8_1 ((rd_T109 l1 x9_1).f0)).f2), .int .i64 ((rd_T106 x8_1 ((rd_T109 l1 x9_1).f0)).f3), .int .i64 ((rd_T106 x8_1 ((rd_T109 l1 x9_1).f0)).f4), .int .i64 ((rd_T106 x8_1 ((rd_T109 l1 x9_1).f0)).f5)] 106 (0, 0))) ∧ Aside0 (Below w.heap.size w wc))
       case first =>
        have H := HC27.out
        clear HC27
        by_cases c33 : a2 = true
        ·subst c33
         have H1 : (if ((rd_T106 x8_1 ((rd_T109 l1 x9_1).f0)).f5) < ((rd_T109 l1 x9_1).f1) then (spec_l15Each.j2 kj13 l0 l1 true x8_1 x9_1 true ((rd_T109 l1 x9_1).f0) ((rd_T109 l1 x9_1).f1) ((rd_T106 x8_1 ((rd_T109 l1 x9_1).f0)).f0) ((rd_T106 x8_1 ((rd_T109 l1 x9_1).f0)).f1) ((rd_T106 x8_1 ((rd_T109 l1 x9_1).f0)).f2) ((rd_T106 x8_1 ((rd_T109 l1 x9_1).f0)).f3) ((rd_T106 x8_1 ((rd_T109 l1 x9_1).f0)).f4) ((rd_T106 x8_1 ((rd_T109 l1 x9_1).f0)).f5)) else (spec_l15Each.j2 kj13 l0 l1 true x8_1 x9_1 false ((rd_T109 l1 x9_1).f0) ((rd_T109 l1 x9_1).f1) ((rd_T106 x8_1 ((rd_T109 l1 x9_1).f0)).f0) ((rd_T106 x8_1 ((rd_T109 l1 x9_1).f0)).f1) ((rd_T106 x8_1 ((rd_T109 l1 x9_1).f0)).f2) ((rd_T106 x8_1 ((rd_T109 l1 x9_1).f0)).f3) ((rd_T106 x8_1 ((rd_T109 l1 x9_1).f0)).f4) ((rd_T106 x8_1 ((rd_T109 l1 x9_1).f0)).f5))) = some (r1, r2) := by rw [if_pos rfl] at H; exact H
         clear H
         have H := H1
         clear H1
         by_cases c34 : ((rd_T106 x8_1 ((rd_T109 l1 x9_1).f0)).f5) < ((rd_T109 l1 x9_1).f1)
         ·rw [if_pos c34] at H
          have c34b0 : decide (((rd_T106 x8_1 ((rd_T109 l1 x9_1).f0)).f5) < ((rd_T109 l1 x9_1).f1)) = true := decide_eq_true c34
          clear c34
          (first | rw [c34b0] | (simp only [i64_w, i32_w]; rw [c34b0]) | skip)
          have H' := Aside0.mk H
          clear H
          have hnb35 := NB203_196.out
          have hnc35 := NB196_203.out
          have hcz36_0 : w30.cell? ⟨gb203, 0, none⟩ = some (.string (⟨#[]⟩ : ByteArray)) := (qe0 BK203.out 0).trans rfl
          have hcz36_1 : w30.cell? ⟨gb203, 1, none⟩ = some (.string (⟨#[]⟩ : ByteArray)) := (qe0 BK203.out 1).trans rfl
          have hcz36_2 : w30.cell? ⟨gb203, 2, none⟩ = some (.string (⟨#[]⟩ : ByteArray)) := (qe0 BK203.out 2).trans rfl
          have hcz36_3 : w30.cell? ⟨gb203, 3, none⟩ = some (.int .i64 0) := (qe0 BK203.out 3).trans rfl
          have hcz36_4 : w30.cell? ⟨gb203, 4, none⟩ = some (.int .i64 0) := (qe0 BK203.out 4).trans rfl
          have hcz36_5 : w30.cell? ⟨gb203, 5, none⟩ = some (.int .i64 0) := (qe0 BK203.out 5).trans rfl
          have hfz36_0 := qd0 BK203.out 0
          have hfz36_1 := qd0 BK203.out 1
          have hfz36_2 := qd0 BK203.out 2
          have hfz36_3 := qd0 BK203.out 3
          have hfz36_4 := qd0 BK203.out 4
          have hfz36_5 := qd0 BK203.out 5
          have hcz37_0 : w30.cell? ⟨gb196, 0, none⟩ = some (.int .i64 ((rd_T109 l1 x9_1).f0)) := (qe0 BK196.out 0).trans rfl
          have hcz37_1 : w30.cell? ⟨gb196, 1, none⟩ = some (.int .i64 ((rd_T109 l1 x9_1).f1)) := (qe0 BK196.out 1).trans rfl
          have hfz37_0 := qd0 BK196.out 0
          have hfz37_1 := qd0 BK196.out 1
          go_wp2
          go_meet
          case rel => exact ⟨_, (true), (by first | rfl | (simp; done) | (simp [*]; done)), H', ⟨by have := HK1.out; have := HJ13.out; first | omega | exact Nat.le_refl _⟩, ⟨by (with_reducible repeat (first | apply Kd.qm0 | apply Kd.ql0 | apply Kd.qo0)); exact Kd.qz0 (Kd.R_far (p := ⟨gb203, 5, none⟩) (Kd.R_far (p := ⟨gb203, 4, none⟩) (Kd.R_far (p := ⟨gb203, 3, none⟩) (Kd.R_far (p := ⟨gb203, 2, none⟩) (Kd.R_far (p := ⟨gb203, 1, none⟩) (Kd.R_far (p := ⟨gb203, 0, none⟩) (Kd.qz0 HO_8.out (fun k_ hk => (⟨hk, hk.2⟩ : _ ∧ k_ ≠ gb203))) (fun _ hk => hk.2) (.string ((rd_T106 x8_1 ((rd_T109 l1 x9_1).f0)).f0))) (fun _ hk => hk.2) (.string ((rd_T106 x8_1 ((rd_T109 l1 x9_1).f0)).f1))) (fun _ hk => hk.2) (.string ((rd_T106 x8_1 ((rd_T109 l1 x9_1).f0)).f2))) (fun _ hk => hk.2) (.int .i64 ((rd_T106 x8_1 ((rd_T109 l1 x9_1).f0)).f3))) (fun _ hk => hk.2) (.int .i64 ((rd_T106 x8_1 ((rd_T109 l1 x9_1).f0)).f4))) (fun _ hk => hk.2) (.int .i64 ((rd_T106 x8_1 ((rd_T109 l1 x9_1).f0)).f5))) (fun _ hk => hk.1.2)⟩, ⟨by (with_reducible repeat (first | refine qi0 ?_ _ | refine qk0 ?_ | refine qj0 ?_ _)); refine qk1 ?_ NB196_203.out _; (with_reducible repeat (first | refine qi0 ?_ _ | refine qk0 ?_ | refine qj0 ?_ _)); refine qk1 ?_ NB196_203.out _; (with_reducible repeat (first | refine qi0 ?_ _ | refine qk0 ?_ | refine qj0 ?_ _)); refine qk1 ?_ NB196_203.out _; (with_reducible repeat (first | refine qi0 ?_ _ | refine qk0 ?_ | refine qj0 ?_ _)); refine qk1 ?_ NB196_203.out _; (with_reducible repeat (first | refine qi0 ?_ _ | refine qk0 ?_ | refine qj0 ?_ _)); refine qk1 ?_ NB196_203.out _; (with_reducible repeat (first | refine qi0 ?_ _ | refine qk0 ?_ | refine qj0 ?_ _)); refine qk1 ?_ NB196_203.out _; (with_reducible repeat (first | refine qi0 ?_ _ | refine qk0 ?_ | refine qj0 ?_ _)); exact BK196.out⟩, ⟨by (with_reducible repeat (first | refine qi0 ?_ _ | refine qk0 ?_ | refine qj0 ?_ _)); refine qx0 (cs := #[.string ((rd_T106 x8_1 ((rd_T109 l1 x9_1).f0)).f0), .string ((rd_T106 x8_1 ((rd_T109 l1 x9_1).f0)).f1), .string ((rd_T106 x8_1 ((rd_T109 l1 x9_1).f0)).f2), .int .i64 ((rd_T106 x8_1 ((rd_T109 l1 x9_1).f0)).f3), .int .i64 ((rd_T106 x8_1 ((rd_T109 l1 x9_1).f0)).f4), .int .i64 0]) ?_ 5 _ rfl; (with_reducible repeat (first | refine qi0 ?_ _ | refine qk0 ?_ | refine qj0 ?_ _)); refine qx0 (cs := #[.string ((rd_T106 x8_1 ((rd_T109 l1 x9_1).f0)).f0), .string ((rd_T106 x8_1 ((rd_T109 l1 x9_1).f0)).f1), .string ((rd_T106 x8_1 ((rd_T109 l1 x9_1).f0)).f2), .int .i64 ((rd_T106 x8_1 ((rd_T109 l1 x9_1).f0)).f3), .int .i64 0, .int .i64 0]) ?_ 4 _ rfl; (with_reducible repeat (first | refine qi0 ?_ _ | refine qk0 ?_ | refine qj0 ?_ _)); refine qx0 (cs := #[.string ((rd_T106 x8_1 ((rd_T109 l1 x9_1).f0)).f0), .string ((rd_T106 x8_1 ((rd_T109 l1 x9_1).f0)).f1), .string ((rd_T106 x8_1 ((rd_T109 l1 x9_1).f0)).f2), .int .i64 0, .int .i64 0, .int .i64 0]) ?_ 3 _ rfl; (with_reducible repeat (first | refine qi0 ?_ _ | refine qk0 ?_ | refine qj0 ?_ _)); refine qx0 (cs := #[.string ((rd_T106 x8_1 ((rd_T109 l1 x9_1).f0)).f0), .string ((rd_T106 x8_1 ((rd_T109 l1 x9_1).f0)).f1), .string (⟨#[]⟩ : ByteArray), .int .i64 0, .int .i64 0, .int .i64 0]) ?_ 2 _ rfl; (with_reducible repeat (first | refine qi0 ?_ _ | refine qk0 ?_ | refine qj0 ?_ _)); refine qx0 (cs := #[.string ((rd_T106 x8_1 ((rd_T109 l1 x9_1).f0)).f0), .string (⟨#[]⟩ : ByteArray), .string (⟨#[]⟩ : ByteArray), .int .i64 0, .int .i64 0, .int .i64 0]) ?_ 1 _ rfl; (with_reducible repeat (first | refine qi0 ?_ _ | refine qk0 ?_ | refine qj0 ?_ _)); refine qx0 (cs := #[.string (⟨#[]⟩ : ByteArray), .string (⟨#[]⟩ : ByteArray), .string (⟨#[]⟩ : ByteArray), .int .i64 0, .int .i64 0, .int .i64 0]) ?_ 0 _ rfl; (with_reducible repeat (first | refine qi0 ?_ _ | refine qk0 ?_ | refine qj0 ?_ _)); exact BK203.out⟩, ⟨by repeat (first | (with_reducible first | exact HB.out | apply qc0 | apply qa0 | apply qb0 | refine qg0 ?_ GE196.out | refine qg0 ?_ GE203.out) | exact HB.out)⟩⟩
         rw [if_neg c34] at H
         have c34b0 : decide (((rd_T106 x8_1 ((rd_T109 l1 x9_1).f0)).f5) < ((rd_T109 l1 x9_1).f1)) = false := decide_eq_false c34
         clear c34
         (first | rw [c34b0] | (simp only [i64_w, i32_w]; rw [c34b0]) | skip)
         have H' := Aside0.mk H
         clear H
         have hnb38 := NB203_196.out
         have hnc38 := NB196_203.out
         have hcz39_0 : w30.cell? ⟨gb203, 0, none⟩ = some (.string (⟨#[]⟩ : ByteArray)) := (qe0 BK203.out 0).trans rfl
         have hcz39_1 : w30.cell? ⟨gb203, 1, none⟩ = some (.string (⟨#[]⟩ : ByteArray)) := (qe0 BK203.out 1).trans rfl
         have hcz39_2 : w30.cell? ⟨gb203, 2, none⟩ = some (.string (⟨#[]⟩ : ByteArray)) := (qe0 BK203.out 2).trans rfl
         have hcz39_3 : w30.cell? ⟨gb203, 3, none⟩ = some (.int .i64 0) := (qe0 BK203.out 3).trans rfl
         have hcz39_4 : w30.cell? ⟨gb203, 4, none⟩ = some (.int .i64 0) := (qe0 BK203.out 4).trans rfl
         have hcz39_5 : w30.cell? ⟨gb203, 5, none⟩ = some (.int .i64 0) := (qe0 BK203.out 5).trans rfl
         have hfz39_0 := qd0 BK203.out 0
         have hfz39_1 := qd0 BK203.out 1
         have hfz39_2 := qd0 BK203.out 2
         have hfz39_3 := qd0 BK203.out 3
         have hfz39_4 := qd0 BK203.out 4
         have hfz39_5 := qd0 BK203.out 5
         have hcz40_0 : w30.cell? ⟨gb196, 0, none⟩ = some (.int .i64 ((rd_T109 l1 x9_1).f0)) := (qe0 BK196.out 0).trans rfl
         have hcz40_1 : w30.cell? ⟨gb196, 1, none⟩ = some (.int .i64 ((rd_T109 l1 x9_1).f1)) := (qe0 BK196.out 1).trans rfl
         have hfz40_0 := qd0 BK196.out 0
         have hfz40_1 := qd0 BK196.out 1
         go_wp2
         go_meet
         case rel => exact ⟨_, (false), (by first | rfl | (simp; done) | (simp [*]; done)), H', ⟨by have := HK1.out; have := HJ13.out; first | omega | exact Nat.le_refl _⟩, ⟨by (with_reducible repeat (first | apply Kd.qm0 | apply Kd.ql0 | apply Kd.qo0)); exact Kd.qz0 (Kd.R_far (p := ⟨gb203, 5, none⟩) (Kd.R_far (p := ⟨gb203, 4, none⟩) (Kd.R_far (p := ⟨gb203, 3, none⟩) (Kd.R_far (p := ⟨gb203, 2, none⟩) (Kd.R_far (p := ⟨gb203, 1, none⟩) (Kd.R_far (p := ⟨gb203, 0, none⟩) (Kd.qz0 HO_8.out (fun k_ hk => (⟨hk, hk.2⟩ : _ ∧ k_ ≠ gb203))) (fun _ hk => hk.2) (.string ((rd_T106 x8_1 ((rd_T109 l1 x9_1).f0)).f0))) (fun _ hk => hk.2) (.string ((rd_T106 x8_1 ((rd_T109 l1 x9_1).f0)).f1))) (fun _ hk => hk.2) (.string ((rd_T106 x8_1 ((rd_T109 l1 x9_1).f0)).f2))) (fun _ hk => hk.2) (.int .i64 ((rd_T106 x8_1 ((rd_T109 l1 x9_1).f0)).f3))) (fun _ hk => hk.2) (.int .i64 ((rd_T106 x8_1 ((rd_T109 l1 x9_1).f0)).f4))) (fun _ hk => hk.2) (.int .i64 ((rd_T106 x8_1 ((rd_T109 l1 x9_1).f0)).f5))) (fun _ hk => hk.1.2)⟩, ⟨by (with_reducible repeat (first | refine qi0 ?_ _ | refine qk0 ?_ | refine qj0 ?_ _)); refine qk1 ?_ NB196_203.out _; (with_reducible repeat (first | refine qi0 ?_ _ | refine qk0 ?_ | refine qj0 ?_ _)); refine qk1 ?_ NB196_203.out _; (with_reducible repeat (first | refine qi0 ?_ _ | refine qk0 ?_ | refine qj0 ?_ _)); refine qk1 ?_ NB196_203.out _; (with_reducible repeat (first | refine qi0 ?_ _ | refine qk0 ?_ | refine qj0 ?_ _)); refine qk1 ?_ NB196_203.out _; (with_reducible repeat (first | refine qi0 ?_ _ | refine qk0 ?_ | refine qj0 ?_ _)); refine qk1 ?_ NB196_203.out _; (with_reducible repeat (first | refine qi0 ?_ _ | refine qk0 ?_ | refine qj0 ?_ _)); refine qk1 ?_ NB196_203.out _; (with_reducible repeat (first | refine qi0 ?_ _ | refine qk0 ?_ | refine qj0 ?_ _)); exact BK196.out⟩, ⟨by (with_reducible repeat (first | refine qi0 ?_ _ | refine qk0 ?_ | refine qj0 ?_ _)); refine qx0 (cs := #[.string ((rd_T106 x8_1 ((rd_T109 l1 x9_1).f0)).f0), .string ((rd_T106 x8_1 ((rd_T109 l1 x9_1).f0)).f1), .string ((rd_T106 x8_1 ((rd_T109 l1 x9_1).f0)).f2), .int .i64 ((rd_T106 x8_1 ((rd_T109 l1 x9_1).f0)).f3), .int .i64 ((rd_T106 x8_1 ((rd_T109 l1 x9_1).f0)).f4), .int .i64 0]) ?_ 5 _ rfl; (with_reducible repeat (first | refine qi0 ?_ _ | refine qk0 ?_ | refine qj0 ?_ _)); refine qx0 (cs := #[.string ((rd_T106 x8_1 ((rd_T109 l1 x9_1).f0)).f0), .string ((rd_T106 x8_1 ((rd_T109 l1 x9_1).f0)).f1), .string ((rd_T106 x8_1 ((rd_T109 l1 x9_1).f0)).f2), .int .i64 ((rd_T106 x8_1 ((rd_T109 l1 x9_1).f0)).f3), .int .i64 0, .int .i64 0]) ?_ 4 _ rfl; (with_reducible repeat (first | refine qi0 ?_ _ | refine qk0 ?_ | refine qj0 ?_ _)); refine qx0 (cs := #[.string ((rd_T106 x8_1 ((rd_T109 l1 x9_1).f0)).f0), .string ((rd_T106 x8_1 ((rd_T109 l1 x9_1).f0)).f1), .string ((rd_T106 x8_1 ((rd_T109 l1 x9_1).f0)).f2), .int .i64 0, .int .i64 0, .int .i64 0]) ?_ 3 _ rfl; (with_reducible repeat (first | refine qi0 ?_ _ | refine qk0 ?_ | refine qj0 ?_ _)); refine qx0 (cs := #[.string ((rd_T106 x8_1 ((rd_T109 l1 x9_1).f0)).f0), .string ((rd_T106 x8_1 ((rd_T109 l1 x9_1).f0)).f1), .string (⟨#[]⟩ : ByteArray), .int .i64 0, .int .i64 0, .int .i64 0]) ?_ 2 _ rfl; (with_reducible repeat (first | refine qi0 ?_ _ | refine qk0 ?_ | refine qj0 ?_ _)); refine qx0 (cs := #[.string ((rd_T106 x8_1 ((rd_T109 l1 x9_1).f0)).f0), .string (⟨#[]⟩ : ByteArray), .string (⟨#[]⟩ : ByteArray), .int .i64 0, .int .i64 0, .int .i64 0]) ?_ 1 _ rfl; (with_reducible repeat (first | refine qi0 ?_ _ | refine qk0 ?_ | refine qj0 ?_ _)); refine qx0 (cs := #[.string (⟨#[]⟩ : ByteArray), .string (⟨#[]⟩ : ByteArray), .string (⟨#[]⟩ : ByteArray), .int .i64 0, .int .i64 0, .int .i64 0]) ?_ 0 _ rfl; (with_reducible repeat (first | refine qi0 ?_ _ | refine qk0 ?_ | refine qj0 ?_ _)); exact BK203.out⟩, ⟨by repeat (first | (with_reducible first | exact HB.out | apply qc0 | apply qa0 | apply qb0 | refine qg0 ?_ GE196.out | refine qg0 ?_ GE203.out) | exact HB.out)⟩⟩
        replace c33 := Bool.eq_false_iff.mpr c33
        subst c33
        have H1 : (spec_l15Each.j2 kj13 l0 l1 false x8_1 x9_1 (decide ((wrap64 (((rd_T106 x8_1 ((rd_T109 l1 x9_1).f0)).f4) - ((rd_T106 x8_1 ((rd_T109 l1 x9_1).f0)).f5))) < ((rd_T109 l1 x9_1).f1))) ((rd_T109 l1 x9_1).f0) ((rd_T109 l1 x9_1).f1) ((rd_T106 x8_1 ((rd_T109 l1 x9_1).f0)).f0) ((rd_T106 x8_1 ((rd_T109 l1 x9_1).f0)).f1) ((rd_T106 x8_1 ((rd_T109 l1 x9_1).f0)).f2) ((rd_T106 x8_1 ((rd_T109 l1 x9_1).f0)).f3) ((rd_T106 x8_1 ((rd_T109 l1 x9_1).f0)).f4) ((rd_T106 x8_1 ((rd_T109 l1 x9_1).f0)).f5)) = some (r1, r2) := by rw [if_neg (show ¬ (false = true) by decide)] at H; exact H
        clear H
        have H := H1
        clear H1
        have H' := Aside0.mk H
        clear H
        have hnb41 := NB203_196.out
        have hnc41 := NB196_203.out
        have hcz42_0 : w30.cell? ⟨gb203, 0, none⟩ = some (.string (⟨#[]⟩ : ByteArray)) := (qe0 BK203.out 0).trans rfl
        have hcz42_1 : w30.cell? ⟨gb203, 1, none⟩ = some (.string (⟨#[]⟩ : ByteArray)) := (qe0 BK203.out 1).trans rfl
        have hcz42_2 : w30.cell? ⟨gb203, 2, none⟩ = some (.string (⟨#[]⟩ : ByteArray)) := (qe0 BK203.out 2).trans rfl
        have hcz42_3 : w30.cell? ⟨gb203, 3, none⟩ = some (.int .i64 0) := (qe0 BK203.out 3).trans rfl
        have hcz42_4 : w30.cell? ⟨gb203, 4, none⟩ = some (.int .i64 0) := (qe0 BK203.out 4).trans rfl
        have hcz42_5 : w30.cell? ⟨gb203, 5, none⟩ = some (.int .i64 0) := (qe0 BK203.out 5).trans rfl
        have hfz42_0 := qd0 BK203.out 0
        have hfz42_1 := qd0 BK203.out 1
        have hfz42_2 := qd0 BK203.out 2
        have hfz42_3 := qd0 BK203.out 3
        have hfz42_4 := qd0 BK203.out 4
        have hfz42_5 := qd0 BK203.out 5
        have hcz43_0 : w30.cell? ⟨gb196, 0, none⟩ = some (.int .i64 ((rd_T109 l1 x9_1).f0)) := (qe0 BK196.out 0).trans rfl
        have hcz43_1 : w30.cell? ⟨gb196, 1, none⟩ = some (.int .i64 ((rd_T109 l1 x9_1).f1)) := (qe0 BK196.out 1).trans rfl
        have hfz43_0 := qd0 BK196.out 0
        have hfz43_1 := qd0 BK196.out 1
        go_wp2
        go_meet
        case rel => exact ⟨_, (decide ((wrap64 (((rd_T106 x8_1 ((rd_T109 l1 x9_1).f0)).f4) - ((rd_T106 x8_1 ((rd_T109 l1 x9_1).f0)).f5))) < ((rd_T109 l1 x9_1).f1))), (by first | rfl | (simp; done) | (simp [*]; done)), H', ⟨by have := HK1.out; have := HJ13.out; first | omega | exact Nat.le_refl _⟩, ⟨by (with_reducible repeat (first | apply Kd.qm0 | apply Kd.ql0 | apply Kd.qo0)); exact Kd.qz0 (Kd.R_far (p := ⟨gb203, 5, none⟩) (Kd.R_far (p := ⟨gb203, 4, none⟩) (Kd.R_far (p := ⟨gb203, 3, none⟩) (Kd.R_far (p := ⟨gb203, 2, none⟩) (Kd.R_far (p := ⟨gb203, 1, none⟩) (Kd.R_far (p := ⟨gb203, 0, none⟩) (Kd.qz0 HO_8.out (fun k_ hk => (⟨hk, hk.2⟩ : _ ∧ k_ ≠ gb203))) (fun _ hk => hk.2) (.string ((rd_T106 x8_1 ((rd_T109 l1 x9_1).f0)).f0))) (fun _ hk => hk.2) (.string ((rd_T106 x8_1 ((rd_T109 l1 x9_1).f0)).f1))) (fun _ hk => hk.2) (.string ((rd_T106 x8_1 ((rd_T109 l1 x9_1).f0)).f2))) (fun _ hk => hk.2) (.int .i64 ((rd_T106 x8_1 ((rd_T109 l1 x9_1).f0)).f3))) (fun _ hk => hk.2) (.int .i64 ((rd_T106 x8_1 ((rd_T109 l1 x9_1).f0)).f4))) (fun _ hk => hk.2) (.int .i64 ((rd_T106 x8_1 ((rd_T109 l1 x9_1).f0)).f5))) (fun _ hk => hk.1.2)⟩, ⟨by (with_reducible repeat (first | refine qi0 ?_ _ | refine qk0 ?_ | refine qj0 ?_ _)); refine qk1 ?_ NB196_203.out _; (with_reducible repeat (first | refine qi0 ?_ _ | refine qk0 ?_ | refine qj0 ?_ _)); refine qk1 ?_ NB196_203.out _; (with_reducible repeat (first | refine qi0 ?_ _ | refine qk0 ?_ | refine qj0 ?_ _)); refine qk1 ?_ NB196_203.out _; (with_reducible repeat (first | refine qi0 ?_ _ | refine qk0 ?_ | refine qj0 ?_ _)); refine qk1 ?_ NB196_203.out _; (with_reducible repeat (first | refine qi0 ?_ _ | refine qk0 ?_ | refine qj0 ?_ _)); refine qk1 ?_ NB196_203.out _; (with_reducible repeat (first | refine qi0 ?_ _ | refine qk0 ?_ | refine qj0 ?_ _)); refine qk1 ?_ NB196_203.out _; (with_reducible repeat (first | refine qi0 ?_ _ | refine qk0 ?_ | refine qj0 ?_ _)); exact BK196.out⟩, ⟨by (with_reducible repeat (first | refine qi0 ?_ _ | refine qk0 ?_ | refine qj0 ?_ _)); refine qx0 (cs := #[.string ((rd_T106 x8_1 ((rd_T109 l1 x9_1).f0)).f0), .string ((rd_T106 x8_1 ((rd_T109 l1 x9_1).f0)).f1), .string ((rd_T106 x8_1 ((rd_T109 l1 x9_1).f0)).f2), .int .i64 ((rd_T106 x8_1 ((rd_T109 l1 x9_1).f0)).f3), .int .i64 ((rd_T106 x8_1 ((rd_T109 l1 x9_1).f0)).f4), .int .i64 0]) ?_ 5 _ rfl; (with_reducible repeat (first | refine qi0 ?_ _ | refine qk0 ?_ | refine qj0 ?_ _)); refine qx0 (cs := #[.string ((rd_T106 x8_1 ((rd_T109 l1 x9_1).f0)).f0), .string ((rd_T106 x8_1 ((rd_T109 l1 x9_1).f0)).f1), .string ((rd_T106 x8_1 ((rd_T109 l1 x9_1).f0)).f2), .int .i64 ((rd_T106 x8_1 ((rd_T109 l1 x9_1).f0)).f3), .int .i64 0, .int .i64 0]) ?_ 4 _ rfl; (with_reducible repeat (first | refine qi0 ?_ _ | refine qk0 ?_ | refine qj0 ?_ _)); refine qx0 (cs := #[.string ((rd_T106 x8_1 ((rd_T109 l1 x9_1).f0)).f0), .string ((rd_T106 x8_1 ((rd_T109 l1 x9_1).f0)).f1), .string ((rd_T106 x8_1 ((rd_T109 l1 x9_1).f0)).f2), .int .i64 0, .int .i64 0, .int .i64 0]) ?_ 3 _ rfl; (with_reducible repeat (first | refine qi0 ?_ _ | refine qk0 ?_ | refine qj0 ?_ _)); refine qx0 (cs := #[.string ((rd_T106 x8_1 ((rd_T109 l1 x9_1).f0)).f0), .string ((rd_T106 x8_1 ((rd_T109 l1 x9_1).f0)).f1), .string (⟨#[]⟩ : ByteArray), .int .i64 0, .int .i64 0, .int .i64 0]) ?_ 2 _ rfl; (with_reducible repeat (first | refine qi0 ?_ _ | refine qk0 ?_ | refine qj0 ?_ _)); refine qx0 (cs := #[.string ((rd_T106 x8_1 ((rd_T109 l1 x9_1).f0)).f0), .string (⟨#[]⟩ : ByteArray), .string (⟨#[]⟩ : ByteArray), .int .i64 0, .int .i64 0, .int .i64 0]) ?_ 1 _ rfl; (with_reducible repeat (first | refine qi0 ?_ _ | refine qk0 ?_ | refine qj0 ?_ _)); refine qx0 (cs := #[.string (⟨#[]⟩ : ByteArray), .string (⟨#[]⟩ : ByteArray), .string (⟨#[]⟩ : ByteArray), .int .i64 0, .int .i64 0, .int .i64 0]) ?_ 0 _ rfl; (with_reducible repeat (first | refine qi0 ?_ _ | refine qk0 ?_ | refine qj0 ?_ _)); exact BK203.out⟩, ⟨by repeat (first | (with_reducible first | exact HB.out | apply qc0 | apply qa0 | apply qb0 | refine qg0 ?_ GE196.out | refine qg0 ?_ GE203.out) | exact HB.out)⟩⟩
       case rest =>
        clear HC27
        try clear c1
        try clear p1
        try clear q1
        try clear hx1
        try clear c2
        try clear p2
        try clear q2
        try clear hx2
        try clear c3
        try clear c4
        try clear c5
        try clear p6
        try clear c7
        try clear c7b0
        try clear c7b1
        try clear c10
        try clear c12
        try clear c12b0
        try clear c13
        try clear c13b0
        try clear c18
        try clear p19
        try clear q19
        try clear hx19
        try clear p20
        try clear q20
        try clear hx20
        try clear c22
        try clear c25
        try clear c25b0
        try clear c26
        try clear c26b0
        try clear c31
        try clear c33
        try clear c34
        try clear c34b0
        try clear c35
        try clear c38
        try clear c41
        try clear hcz16_0
        try clear hcz16_1
        try clear hcz20_0
        try clear hcz20_1
        try clear hcz21_0
        try clear hcz21_1
        try clear hcz28_0
        try clear hcz28_1
        try clear hcz32_0
        try clear hcz32_1
        try clear hcz32_2
        try clear hcz32_3
        try clear hcz32_4
        try clear hcz32_5
        try clear hcz36_0
        try clear hcz36_1
        try clear hcz36_2
        try clear hcz36_3
        try clear hcz36_4
        try clear hcz36_5
        try clear hcz37_0
        try clear hcz37_1
        try clear hcz39_0
        try clear hcz39_1
        try clear hcz39_2
        try clear hcz39_3
        try clear hcz39_4
        try clear hcz39_5
        try clear hcz40_0
        try clear hcz40_1
        try clear hcz42_0
        try clear hcz42_1
        try clear hcz42_2
        try clear hcz42_3
        try clear hcz42_4
        try clear hcz42_5
        try clear hcz43_0
        try clear hcz43_1
        try clear hfz16_0
        try clear hfz16_1
        try clear hfz20_0
        try clear hfz20_1
        try clear hfz21_0
        try clear hfz21_1
        try clear hfz28_0
        try clear hfz28_1
        try clear hfz32_0
        try clear hfz32_1
        try clear hfz32_2
        try clear hfz32_3
        try clear hfz32_4
        try clear hfz32_5
        try clear hfz36_0
        try clear hfz36_1
        try clear hfz36_2
        try clear hfz36_3
        try clear hfz36_4
        try clear hfz36_5
        try clear hfz37_0
        try clear hfz37_1
        try clear hfz39_0
        try clear hfz39_1
        try clear hfz39_2
        try clear hfz39_3
        try clear hfz39_4
        try clear hfz39_5
        try clear hfz40_0
        try clear hfz40_1
        try clear hfz42_0
        try clear hfz42_1
        try clear hfz42_2
        try clear hfz42_3
        try clear hfz42_4
        try clear hfz42_5
        try clear hfz43_0
        try clear hfz43_1
        try clear hx195_0
        try clear hx195_1
        try clear hx202_0
        try clear hx202_1
        try clear hx202_2
        try clear hx202_3
        try clear hx202_4
        try clear hx202_5
        try clear p1
        try clear p19
        try clear p195
        try clear p2
        try clear p202
        try clear p6
        try clear q1
        try clear q19
        try clear q195
        try clear q202
        obtain ⟨kq, x73_26, rfl, HA, HJ26, HO_8, BK196, BK203, HB⟩ := hcut
        cases kq with
        | zero => exact absurd HA.out (by simp [spec_l15Each.j2])
        | succ kj26 =>
         have H := HA.out
         clear HA
         simp only [spec_l15Each.j2] at H
         by_cases c44 : x73_26 = true
         ·subst c44
          have H1 : ((spec_l15Copy.f l0).bind fun t204 => (some (t204, 3))) = some (r1, r2) := by rw [if_pos rfl] at H; exact H
          clear H
          have H := H1
          clear H1
          replace H := Option.bind_eq_some_iff.mp H
          obtain ⟨t204, A450, H⟩ := H
          replace H : (some (t204, 3)) = some (r1, r2) := H
          have A45 := Aside0.mk A450
          clear A450
          simp only [Option.some.injEq, Prod.mk.injEq] at H
          obtain ⟨rfl, rfl⟩ := H
          go_wp2_with (first | ((with_reducible refine qn0 (f := 106) rfl ?_); refine qu0 (some 75) rfl rfl Try.func106 (by kernel_rfl) rfl #[.slice A0 l0.length c0] rfl (by (try simp only [List.map_toArray, List.map_cons, List.map_nil]); first | done | rfl | (simp only [List.length_drop, List.length_take]; rfl)) ?_; (with_reducible refine (spec_l15Copy.calls _ _ l0 t204 _ ?side1 ?side2 A45.out).mono ?_); (case side1 => repeat (first | exact (Kd.qf1 HR0.out HB.out) | (with_reducible refine Kd.qw0 ?_ _) | (with_reducible refine Kd.qv0 ?_ _) | (with_reducible refine Kd.qy0 ?_))); (case side2 => exact HC0.out); rintro e w46 ⟨v205, rfl, ho0, hb⟩; refine ⟨_, rfl, ?_⟩; have n0_ := Aside0.mk (Kd.qj1 (by (with_reducible repeat (first | apply Kd.qm0 | apply Kd.ql0 | apply Kd.qo0)); exact HO_8.out) (Kd.qr1 ho0) hb); have n1_ := Aside0.mk (Kd.qi1 (Kd.R_newB (Kd.qq1 ho0 (Kd.R_lt (by (with_reducible repeat (first | apply Kd.qm0 | apply Kd.ql0 | apply Kd.qo0)); exact HO_8.out))) (g := gb203) (o := .cells #[.string ((rd_T106 x8_1 ((rd_T109 l1 x9_1).f0)).f0), .string ((rd_T106 x8_1 ((rd_T109 l1 x9_1).f0)).f1), .string ((rd_T106 x8_1 ((rd_T109 l1 x9_1).f0)).f2), .int .i64 ((rd_T106 x8_1 ((rd_T109 l1 x9_1).f0)).f3), .int .i64 ((rd_T106 x8_1 ((rd_T109 l1 x9_1).f0)).f4), .int .i64 ((rd_T106 x8_1 ((rd_T109 l1 x9_1).f0)).f5)] 106 (0, 0)) (by (with_reducible repeat (first | refine qi0 ?_ _ | refine qk0 ?_ | refine qj0 ?_ _)); exact BK203.out)) (qh0 (by repeat (first | (with_reducible first | exact HB.out | apply qc0 | apply qa0 | apply qb0 | refine qg0 ?_ GE196.out | refine qg0 ?_ GE203.out) | exact HB.out)))); have n2_ := Aside0.mk (qb1 (g := gb196) (o := .cells #[.int .i64 ((rd_T109 l1 x9_1).f0), .int .i64 ((rd_T109 l1 x9_1).f1)] 109 (0, 0)) (by (with_reducible repeat (first | refine qi0 ?_ _ | refine qk0 ?_ | refine qj0 ?_ _)); exact BK196.out) hb); have n3_ := Aside0.mk (qb1 (g := gb203) (o := .cells #[.string ((rd_T106 x8_1 ((rd_T109 l1 x9_1).f0)).f0), .string ((rd_T106 x8_1 ((rd_T109 l1 x9_1).f0)).f1), .string ((rd_T106 x8_1 ((rd_T109 l1 x9_1).f0)).f2), .int .i64 ((rd_T106 x8_1 ((rd_T109 l1 x9_1).f0)).f3), .int .i64 ((rd_T106 x8_1 ((rd_T109 l1 x9_1).f0)).f4), .int .i64 ((rd_T106 x8_1 ((rd_T109 l1 x9_1).f0)).f5)] 106 (0, 0)) (by (with_reducible repeat (first | refine qi0 ?_ _ | refine qk0 ?_ | refine qj0 ?_ _)); exact BK203.out) hb); have n4_ := Aside0.mk (qf0 (by repeat (first | (with_reducible first | exact HB.out | apply qc0 | apply qa0 | apply qb0 | refine qg0 ?_ GE196.out | refine qg0 ?_ GE203.out) | exact HB.out)) hb); clear HO_8; clear BK196; clear BK203; clear HB; have HO_8 := n0_; have HO206 := n1_; have BK196 := n2_; have BK203 := n3_; have HB := n4_; clear n0_ n1_ n2_ n3_ n4_; (try clear hb); (try clear hb2); (try clear hk); (try clear hi); (try clear ho0)))
          go_ret2
          exact ⟨_, by first | rfl | (simp [errW_none, errW_some] <;> rfl) | (simp [*, errW_none, errW_some] <;> rfl), by (with_reducible repeat (first | apply Kd.qm0 | apply Kd.ql0 | apply Kd.qo0)); exact Kd.qz0 HO206.out (fun _ hk => trivial), by repeat (first | (with_reducible first | exact HB.out | apply qc0 | apply qa0 | apply qb0 | refine qg0 ?_ GE196.out | refine qg0 ?_ GE203.out) | exact HB.out)⟩
         replace c44 := Bool.eq_false_iff.mpr c44
         subst c44
         have H1 : (if a2 = true then (if 0 ≤ ((rd_T109 l1 x9_1).f0) then (if ((rd_T109 l1 x9_1).f0) < (x8_1.length : Int) then (spec_l15Each.l0 kj26 l0 l1 a2 (x8_1.set (((rd_T109 l1 x9_1).f0) : Int).toNat (⟨((rd_T106 x8_1 ((rd_T109 l1 x9_1).f0)).f0), ((rd_T106 x8_1 ((rd_T109 l1 x9_1).f0)).f1), ((rd_T106 x8_1 ((rd_T109 l1 x9_1).f0)).f2), ((rd_T106 x8_1 ((rd_T109 l1 x9_1).f0)).f3), wrap64 (((rd_T106 x8_1 ((rd_T109 l1 x9_1).f0)).f4) - ((rd_T109 l1 x9_1).f1)), wrap64 (((rd_T106 x8_1 ((rd_T109 l1 x9_1).f0)).f5) - ((rd_T109 l1 x9_1).f1))⟩ : S106)) (wrap64 (x9_1 + 1))) else (none)) else (none)) else (if 0 ≤ ((rd_T109 l1 x9_1).f0) then (if ((rd_T109 l1 x9_1).f0) < (x8_1.length : Int) then (spec_l15Each.l0 kj26 l0 l1 a2 (x8_1.set (((rd_T109 l1 x9_1).f0) : Int).toNat (⟨((rd_T106 x8_1 ((rd_T109 l1 x9_1).f0)).f0), ((rd_T106 x8_1 ((rd_T109 l1 x9_1).f0)).f1), ((rd_T106 x8_1 ((rd_T109 l1 x9_1).f0)).f2), ((rd_T106 x8_1 ((rd_T109 l1 x9_1).f0)).f3), ((rd_T106 x8_1 ((rd_T109 l1 x9_1).f0)).f4), wrap64 (((rd_T106 x8_1 ((rd_T109 l1 x9_1).f0)).f5) + ((rd_T109 l1 x9_1).f1))⟩ : S106)) (wrap64 (x9_1 + 1))) else (none)) else (none))) = some (r1, r2) := by rw [if_neg (show ¬ (false = true) by decide)] at H; exact H
         clear H
         have H := H1
         clear H1
         by_cases c47 : a2 = true
         ·subst c47
          have H1 : (if 0 ≤ ((rd_T109 l1 x9_1).f0) then (if ((rd_T109 l1 x9_1).f0) < (x8_1.length : Int) then (spec_l15Each.l0 kj26 l0 l1 true (x8_1.set (((rd_T109 l1 x9_1).f0) : Int).toNat (⟨((rd_T106 x8_1 ((rd_T109 l1 x9_1).f0)).f0), ((rd_T106 x8_1 ((rd_T109 l1 x9_1).f0)).f1), ((rd_T106 x8_1 ((rd_T109 l1 x9_1).f0)).f2), ((rd_T106 x8_1 ((rd_T109 l1 x9_1).f0)).f3), wrap64 (((rd_T106 x8_1 ((rd_T109 l1 x9_1).f0)).f4) - ((rd_T109 l1 x9_1).f1)), wrap64 (((rd_T106 x8_1 ((rd_T109 l1 x9_1).f0)).f5) - ((rd_T109 l1 x9_1).f1))⟩ : S106)) (wrap64 (x9_1 + 1))) else (none)) else (none)) = some (r1, r2) := by rw [if_pos rfl] at H; exact H
          clear H
          have H := H1
          clear H1
          by_cases c48 : 0 ≤ ((rd_T109 l1 x9_1).f0)
          case neg => rw [if_neg c48] at H; exact absurd H (by simp)
          rw [if_pos c48] at H
          have c48b0 : decide (0 ≤ ((rd_T109 l1 x9_1).f0)) = true := decide_eq_true c48
          clear c48
          by_cases c49 : ((rd_T109 l1 x9_1).f0) < (x8_1.length : Int)
          case neg => rw [if_neg c49] at H; exact absurd H (by simp)
          rw [if_pos c49] at H
          have c49b0 : decide (((rd_T109 l1 x9_1).f0) < (x8_1.length : Int)) = true := decide_eq_true c49
          clear c49
          obtain ⟨y207, hy207⟩ : ∃ y_ : List (S106), y_ = (x8_1.set (((rd_T109 l1 x9_1).f0) : Int).toNat (⟨((rd_T106 x8_1 ((rd_T109 l1 x9_1).f0)).f0), ((rd_T106 x8_1 ((rd_T109 l1 x9_1).f0)).f1), ((rd_T106 x8_1 ((rd_T109 l1 x9_1).f0)).f2), ((rd_T106 x8_1 ((rd_T109 l1 x9_1).f0)).f3), wrap64 (((rd_T106 x8_1 ((rd_T109 l1 x9_1).f0)).f4) - ((rd_T109 l1 x9_1).f1)), wrap64 (((rd_T106 x8_1 ((rd_T109 l1 x9_1).f0)).f5) - ((rd_T109 l1 x9_1).f1))⟩ : S106)) := ⟨_, rfl⟩
          replace H : (spec_l15Each.l0 kj26 l0 l1 true y207 (wrap64 (x9_1 + 1))) = some (r1, r2) := by first | (rw [hy207]; with_reducible exact H) | (have H2_ := (Option.bind_some _ _).symm.trans H; rw [hy207]; with_reducible exact H2_) | (have H2_ := (Option.bind_some _ _).symm.trans H; with_reducible exact H2_) | with_reducible exact H | (rw [hy207]; exact H) | exact H
          have Ny207 := Aside0.mk hy207
          clear hy207
          have H' := Aside0.mk H
          clear H
          have hnb51 := NB203_196.out
          have hnc51 := NB196_203.out
          have hcz52_0 : wc.cell? ⟨gb203, 0, none⟩ = some (.string ((rd_T106 x8_1 ((rd_T109 l1 x9_1).f0)).f0)) := (qe0 BK203.out 0).trans rfl
          have hcz52_1 : wc.cell? ⟨gb203, 1, none⟩ = some (.string ((rd_T106 x8_1 ((rd_T109 l1 x9_1).f0)).f1)) := (qe0 BK203.out 1).trans rfl
          have hcz52_2 : wc.cell? ⟨gb203, 2, none⟩ = some (.string ((rd_T106 x8_1 ((rd_T109 l1 x9_1).f0)).f2)) := (qe0 BK203.out 2).trans rfl
          have hcz52_3 : wc.cell? ⟨gb203, 3, none⟩ = some (.int .i64 ((rd_T106 x8_1 ((rd_T109 l1 x9_1).f0)).f3)) := (qe0 BK203.out 3).trans rfl
          have hcz52_4 : wc.cell? ⟨gb203, 4, none⟩ = some (.int .i64 ((rd_T106 x8_1 ((rd_T109 l1 x9_1).f0)).f4)) := (qe0 BK203.out 4).trans rfl
          have hcz52_5 : wc.cell? ⟨gb203, 5, none⟩ = some (.int .i64 ((rd_T106 x8_1 ((rd_T109 l1 x9_1).f0)).f5)) := (qe0 BK203.out 5).trans rfl
          have hfz52_0 := qd0 BK203.out 0
          have hfz52_1 := qd0 BK203.out 1
          have hfz52_2 := qd0 BK203.out 2
          have hfz52_3 := qd0 BK203.out 3
          have hfz52_4 := qd0 BK203.out 4
          have hfz52_5 := qd0 BK203.out 5
          have hcz53_0 : wc.cell? ⟨gb196, 0, none⟩ = some (.int .i64 ((rd_T109 l1 x9_1).f0)) := (qe0 BK196.out 0).trans rfl
          have hcz53_1 : wc.cell? ⟨gb196, 1, none⟩ = some (.int .i64 ((rd_T109 l1 x9_1).f1)) := (qe0 BK196.out 1).trans rfl
          have hfz53_0 := qd0 BK196.out 0
          have hfz53_1 := qd0 BK196.out 1
          go_wp2_with (first | ((with_reducible refine gate_store (t := 3) (p := 82) rfl ?_); refine store_event (t := 3) (p := 82) (v := ?vo_w54) (w1 := (wc.setCell ⟨gb203, 5, none⟩ (.int .i64 (wrap64 (((rd_T106 x8_1 ((rd_T109 l1 x9_1).f0)).f5) - ((rd_T109 l1 x9_1).f1)))))) ?hg ?ho ?hn ?hr ?_; (case ho => rfl); (case hg => rfl); (case hn => rfl); (case hr => first | (go_simp; done) | (go_simp; rfl)); intro w54 hw; have n0_ : Aside0 (Kd.R k106 106 w54 w.heap.size (fun k_ => k_ ≠ gb203) (.slice (some ad202) x8_1.length co29) x8_1) := ⟨(by rw [hw]; exact (by (with_reducible repeat (first | apply Kd.qm0 | apply Kd.ql0 | apply Kd.qo0)); exact Kd.qz0 (Kd.R_far (p := ⟨gb203, 5, none⟩) (Kd.qz0 HO_8.out (fun k_ hk => (⟨hk, hk⟩ : _ ∧ k_ ≠ gb203))) (fun _ hk => hk.2) (.int .i64 (wrap64 (((rd_T106 x8_1 ((rd_T109 l1 x9_1).f0)).f5) - ((rd_T109 l1 x9_1).f1))))) (fun _ hk => hk.1)))⟩; have n1_ : Aside0 (w54.heap[gb196]? = some (.cells #[.int .i64 ((rd_T109 l1 x9_1).f0), .int .i64 ((rd_T109 l1 x9_1).f1)] 109 (0, 0))) := ⟨(by rw [hw]; exact (by (with_reducible repeat (first | refine qi0 ?_ _ | refine qk0 ?_ | refine qj0 ?_ _)); refine qk1 ?_ NB196_203.out _; (with_reducible repeat (first | refine qi0 ?_ _ | refine qk0 ?_ | refine qj0 ?_ _)); exact BK196.out))⟩; have n2_ : Aside0 (w54.heap[gb203]? = some (.cells #[.string ((rd_T106 x8_1 ((rd_T109 l1 x9_1).f0)).f0), .string ((rd_T106 x8_1 ((rd_T109 l1 x9_1).f0)).f1), .string ((rd_T106 x8_1 ((rd_T109 l1 x9_1).f0)).f2), .int .i64 ((rd_T106 x8_1 ((rd_T109 l1 x9_1).f0)).f3), .int .i64 ((rd_T106 x8_1 ((rd_T109 l1 x9_1).f0)).f4), .int .i64 (wrap64 (((rd_T106 x8_1 ((rd_T109 l1 x9_1).f0)).f5) - ((rd_T109 l1 x9_1).f1)))] 106 (0, 0))) := ⟨(by rw [hw]; exact (by (with_reducible repeat (first | refine qi0 ?_ _ | refine qk0 ?_ | refine qj0 ?_ _)); refine qx0 (cs := #[.string ((rd_T106 x8_1 ((rd_T109 l1 x9_1).f0)).f0), .string ((rd_T106 x8_1 ((rd_T109 l1 x9_1).f0)).f1), .string ((rd_T106 x8_1 ((rd_T109 l1 x9_1).f0)).f2), .int .i64 ((rd_T106 x8_1 ((rd_T109 l1 x9_1).f0)).f3), .int .i64 ((rd_T106 x8_1 ((rd_T109 l1 x9_1).f0)).f4), .int .i64 ((rd_T106 x8_1 ((rd_T109 l1 x9_1).f0)).f5)]) ?_ 5 _ rfl; (with_reducible repeat (first | refine qi0 ?_ _ | refine qk0 ?_ | refine qj0 ?_ _)); exact BK203.out))⟩; have n3_ : Aside0 (Below w.heap.size w w54) := ⟨(by rw [hw]; exact (by repeat (first | (with_reducible first | exact HB.out | apply qc0 | apply qa0 | apply qb0 | refine qg0 ?_ GE196.out | refine qg0 ?_ GE203.out) | exact HB.out)))⟩; clear hw; clear HO_8; clear BK196; clear BK203; clear HB; have HO_8 := n0_; have BK196 := n1_; have BK203 := n2_; have HB := n3_; clear n0_ n1_ n2_ n3_; have hcz55_0 : w54.cell? ⟨gb203, 0, none⟩ = some (.string ((rd_T106 x8_1 ((rd_T109 l1 x9_1).f0)).f0)) := (qe0 BK203.out 0).trans rfl; have hcz55_1 : w54.cell? ⟨gb203, 1, none⟩ = some (.string ((rd_T106 x8_1 ((rd_T109 l1 x9_1).f0)).f1)) := (qe0 BK203.out 1).trans rfl; have hcz55_2 : w54.cell? ⟨gb203, 2, none⟩ = some (.string ((rd_T106 x8_1 ((rd_T109 l1 x9_1).f0)).f2)) := (qe0 BK203.out 2).trans rfl; have hcz55_3 : w54.cell? ⟨gb203, 3, none⟩ = some (.int .i64 ((rd_T106 x8_1 ((rd_T109 l1 x9_1).f0)).f3)) := (qe0 BK203.out 3).trans rfl; have hcz55_4 : w54.cell? ⟨gb203, 4, none⟩ = some (.int .i64 ((rd_T106 x8_1 ((rd_T109 l1 x9_1).f0)).f4)) := (qe0 BK203.out 4).trans rfl; have hcz55_5 : w54.cell? ⟨gb203, 5, none⟩ = some (.int .i64 (wrap64 (((rd_T106 x8_1 ((rd_T109 l1 x9_1).f0)).f5) - ((rd_T109 l1 x9_1).f1)))) := (qe0 BK203.out 5).trans rfl; have hfz55_0 := qd0 BK203.out 0; have hfz55_1 := qd0 BK203.out 1; have hfz55_2 := qd0 BK203.out 2; have hfz55_3 := qd0 BK203.out 3; have hfz55_4 := qd0 BK203.out 4; have hfz55_5 := qd0 BK203.out 5; have hcz56_0 : w54.cell? ⟨gb196, 0, none⟩ = some (.int .i64 ((rd_T109 l1 x9_1).f0)) := (qe0 BK196.out 0).trans rfl; have hcz56_1 : w54.cell? ⟨gb196, 1, none⟩ = some (.int .i64 ((rd_T109 l1 x9_1).f1)) := (qe0 BK196.out 1).trans rfl; have hfz56_0 := qd0 BK196.out 0; have hfz56_1 := qd0 BK196.out 1) | ((with_reducible refine gate_store (t := 3) (p := 88) rfl ?_); refine store_event (t := 3) (p := 88) (v := ?vo_w57) (w1 := (w54.setCell ⟨gb203, 4, none⟩ (.int .i64 (wrap64 (((rd_T106 x8_1 ((rd_T109 l1 x9_1).f0)).f4) - ((rd_T109 l1 x9_1).f1)))))) ?hg ?ho ?hn ?hr ?_; (case ho => rfl); (case hg => rfl); (case hn => rfl); (case hr => first | (go_simp; done) | (go_simp; rfl)); intro w57 hw; have n0_ : Aside0 (Kd.R k106 106 w57 w.heap.size (fun k_ => k_ ≠ gb203) (.slice (some ad202) x8_1.length co29) x8_1) := ⟨(by rw [hw]; exact (by (with_reducible repeat (first | apply Kd.qm0 | apply Kd.ql0 | apply Kd.qo0)); exact Kd.qz0 (Kd.R_far (p := ⟨gb203, 4, none⟩) (Kd.qz0 HO_8.out (fun k_ hk => (⟨hk, hk⟩ : _ ∧ k_ ≠ gb203))) (fun _ hk => hk.2) (.int .i64 (wrap64 (((rd_T106 x8_1 ((rd_T109 l1 x9_1).f0)).f4) - ((rd_T109 l1 x9_1).f1))))) (fun _ hk => hk.1)))⟩; have n1_ : Aside0 (w57.heap[gb196]? = some (.cells #[.int .i64 ((rd_T109 l1 x9_1).f0), .int .i64 ((rd_T109 l1 x9_1).f1)] 109 (0, 0))) := ⟨(by rw [hw]; exact (by (with_reducible repeat (first | refine qi0 ?_ _ | refine qk0 ?_ | refine qj0 ?_ _)); refine qk1 ?_ NB196_203.out _; (with_reducible repeat (first | refine qi0 ?_ _ | refine qk0 ?_ | refine qj0 ?_ _)); exact BK196.out))⟩; have n2_ : Aside0 (w57.heap[gb203]? = some (.cells #[.string ((rd_T106 x8_1 ((rd_T109 l1 x9_1).f0)).f0), .string ((rd_T106 x8_1 ((rd_T109 l1 x9_1).f0)).f1), .string ((rd_T106 x8_1 ((rd_T109 l1 x9_1).f0)).f2), .int .i64 ((rd_T106 x8_1 ((rd_T109 l1 x9_1).f0)).f3), .int .i64 (wrap64 (((rd_T106 x8_1 ((rd_T109 l1 x9_1).f0)).f4) - ((rd_T109 l1 x9_1).f1))), .int .i64 (wrap64 (((rd_T106 x8_1 ((rd_T109 l1 x9_1).f0)).f5) - ((rd_T109 l1 x9_1).f1)))] 106 (0, 0))) := ⟨(by rw [hw]; exact (by (with_reducible repeat (first | refine qi0 ?_ _ | refine qk0 ?_ | refine qj0 ?_ _)); refine qx0 (cs := #[.string ((rd_T106 x8_1 ((rd_T109 l1 x9_1).f0)).f0), .string ((rd_T106 x8_1 ((rd_T109 l1 x9_1).f0)).f1), .string ((rd_T106 x8_1 ((rd_T109 l1 x9_1).f0)).f2), .int .i64 ((rd_T106 x8_1 ((rd_T109 l1 x9_1).f0)).f3), .int .i64 ((rd_T106 x8_1 ((rd_T109 l1 x9_1).f0)).f4), .int .i64 (wrap64 (((rd_T106 x8_1 ((rd_T109 l1 x9_1).f0)).f5) - ((rd_T109 l1 x9_1).f1)))]) ?_ 4 _ rfl; (with_reducible repeat (first | refine qi0 ?_ _ | refine qk0 ?_ | refine qj0 ?_ _)); exact BK203.out))⟩; have n3_ : Aside0 (Below w.heap.size w w57) := ⟨(by rw [hw]; exact (by repeat (first | (with_reducible first | exact HB.out | apply qc0 | apply qa0 | apply qb0 | refine qg0 ?_ GE196.out | refine qg0 ?_ GE203.out) | exact HB.out)))⟩; clear hw; clear HO_8; clear BK196; clear BK203; clear HB; have HO_8 := n0_; have BK196 := n1_; have BK203 := n2_; have HB := n3_; clear n0_ n1_ n2_ n3_; have hcz58_0 : w57.cell? ⟨gb196, 0, none⟩ = some (.int .i64 ((rd_T109 l1 x9_1).f0)) := (qe0 BK196.out 0).trans rfl; have hcz58_1 : w57.cell? ⟨gb196, 1, none⟩ = some (.int .i64 ((rd_T109 l1 x9_1).f1)) := (qe0 BK196.out 1).trans rfl; have hfz58_0 := qd0 BK196.out 0; have hfz58_1 := qd0 BK196.out 1; have hcz59_0 : w57.cell? ⟨gb203, 0, none⟩ = some (.string ((rd_T106 x8_1 ((rd_T109 l1 x9_1).f0)).f0)) := (qe0 BK203.out 0).trans rfl; have hcz59_1 : w57.cell? ⟨gb203, 1, none⟩ = some (.string ((rd_T106 x8_1 ((rd_T109 l1 x9_1).f0)).f1)) := (qe0 BK203.out 1).trans rfl; have hcz59_2 : w57.cell? ⟨gb203, 2, none⟩ = some (.string ((rd_T106 x8_1 ((rd_T109 l1 x9_1).f0)).f2)) := (qe0 BK203.out 2).trans rfl; have hcz59_3 : w57.cell? ⟨gb203, 3, none⟩ = some (.int .i64 ((rd_T106 x8_1 ((rd_T109 l1 x9_1).f0)).f3)) := (qe0 BK203.out 3).trans rfl; have hcz59_4 : w57.cell? ⟨gb203, 4, none⟩ = some (.int .i64 (wrap64 (((rd_T106 x8_1 ((rd_T109 l1 x9_1).f0)).f4) - ((rd_T109 l1 x9_1).f1)))) := (qe0 BK203.out 4).trans rfl; have hcz59_5 : w57.cell? ⟨gb203, 5, none⟩ = some (.int .i64 (wrap64 (((rd_T106 x8_1 ((rd_T109 l1 x9_1).f0)).f5) - ((rd_T109 l1 x9_1).f1)))) := (qe0 BK203.out 5).trans rfl; have hfz59_0 := qd0 BK203.out 0; have hfz59_1 := qd0 BK203.out 1; have hfz59_2 := qd0 BK203.out 2; have hfz59_3 := qd0 BK203.out 3; have hfz59_4 := qd0 BK203.out 4; have hfz59_5 := qd0 BK203.out 5; have p50 : 0 ≤ (((rd_T109 l1 x9_1).f0) : Int) := of_decide_eq_true (by first | (with_reducible assumption) | assumption); have q50 : (((rd_T109 l1 x9_1).f0) : Int) < ((x8_1.length : Int) : Int) := of_decide_eq_true (by first | (with_reducible assumption) | assumption); obtain ⟨go50, co50, eo50, gb50, gl50, cl50, HG50⟩ := Kd.R_form HO_8.out (by omega); (first | cases eo50 | (injection eo50 with ea_ en_ ec_; (first | subst ea_ | (injection ea_ with ea_; subst ea_)); subst ec_; clear en_)); have GB50 := Aside0.mk gb50; have GG50 := Aside0.mk HG50; clear gb50 gl50 HG50; (first | simp only [add_plain] at hx202_0 | skip); (first | simp only [add_plain] at hx202_1 | skip); (first | simp only [add_plain] at hx202_2 | skip); (first | simp only [add_plain] at hx202_3 | skip); (first | simp only [add_plain] at hx202_4 | skip); (first | simp only [add_plain] at hx202_5 | skip); obtain ⟨ce50, hcl50, hM50, hcc50, hfr50⟩ := Kd.qo1 HO_8.out z106 (((rd_T109 l1 x9_1).f0) : Int) p50 q50; obtain rfl := k106_openM hM50; have hx50_0 : w57.cell? ⟨go50, (((rd_T109 l1 x9_1).f0) : Int).toNat * 6, none⟩ = some (.string ((rd_T106 x8_1 ((rd_T109 l1 x9_1).f0)).f0)) := hcc50 0 _ rfl; have hx50_1 : w57.cell? ⟨go50, (((rd_T109 l1 x9_1).f0) : Int).toNat * 6 + 1, none⟩ = some (.string ((rd_T106 x8_1 ((rd_T109 l1 x9_1).f0)).f1)) := hcc50 1 _ rfl; have hx50_2 : w57.cell? ⟨go50, (((rd_T109 l1 x9_1).f0) : Int).toNat * 6 + 2, none⟩ = some (.string ((rd_T106 x8_1 ((rd_T109 l1 x9_1).f0)).f2)) := hcc50 2 _ rfl; have hx50_3 : w57.cell? ⟨go50, (((rd_T109 l1 x9_1).f0) : Int).toNat * 6 + 3, none⟩ = some (.int .i64 ((rd_T106 x8_1 ((rd_T109 l1 x9_1).f0)).f3)) := hcc50 3 _ rfl; have hx50_4 : w57.cell? ⟨go50, (((rd_T109 l1 x9_1).f0) : Int).toNat * 6 + 4, none⟩ = some (.int .i64 ((rd_T106 x8_1 ((rd_T109 l1 x9_1).f0)).f4)) := hcc50 4 _ rfl; have hx50_5 : w57.cell? ⟨go50, (((rd_T109 l1 x9_1).f0) : Int).toNat * 6 + 5, none⟩ = some (.int .i64 ((rd_T106 x8_1 ((rd_T109 l1 x9_1).f0)).f5)) := hcc50 5 _ rfl; have hf50_0 : w57.frozen? ⟨go50, (((rd_T109 l1 x9_1).f0) : Int).toNat * 6, none⟩ = false := hfr50 0; have hf50_1 : w57.frozen? ⟨go50, (((rd_T109 l1 x9_1).f0) : Int).toNat * 6 + 1, none⟩ = false := hfr50 1; have hf50_2 : w57.frozen? ⟨go50, (((rd_T109 l1 x9_1).f0) : Int).toNat * 6 + 2, none⟩ = false := hfr50 2; have hf50_3 : w57.frozen? ⟨go50, (((rd_T109 l1 x9_1).f0) : Int).toNat * 6 + 3, none⟩ = false := hfr50 3; have hf50_4 : w57.frozen? ⟨go50, (((rd_T109 l1 x9_1).f0) : Int).toNat * 6 + 4, none⟩ = false := hfr50 4; have hf50_5 : w57.frozen? ⟨go50, (((rd_T109 l1 x9_1).f0) : Int).toNat * 6 + 5, none⟩ = false := hfr50 5; clear hcl50 hcc50 hfr50 hM50; replace p50 := eq_true p50; replace q50 := eq_true q50; have HX60 := Aside0.mk (show Kd.R k106 106 w57 w.heap.size (fun k_ => k_ ≠ gb203) (.slice (some ⟨go50, 0, none⟩) x8_1.length co29) x8_1 from (by (with_reducible repeat (first | apply Kd.qm0 | apply Kd.ql0 | apply Kd.qo0)); exact HO_8.out)); obtain ⟨ce60, hcl60, hM60, hcc60, hfr60⟩ := Kd.qo1 HX60.out z106 (((rd_T109 l1 x9_1).f0) : Int) (of_decide_eq_true (by first | (with_reducible assumption) | assumption)) (by have h_ : (((rd_T109 l1 x9_1).f0) : Int) < ((x8_1.length : Int) : Int) := of_decide_eq_true (by first | (with_reducible assumption) | assumption); first | exact h_ | (have e_ := (Kd.qp0 HO_8.out).1; omega) | simpa using h_); obtain rfl := k106_openM hM60; have HP60 := Kd.R_seg HX60.out (((rd_T109 l1 x9_1).f0) : Int) (of_decide_eq_true (by first | (with_reducible assumption) | assumption)) (by have h_ : (((rd_T109 l1 x9_1).f0) : Int) < ((x8_1.length : Int) : Int) := of_decide_eq_true (by first | (with_reducible assumption) | assumption); first | exact h_ | (have e_ := (Kd.qp0 HO_8.out).1; omega) | simpa using h_) (seg := [.string ((rd_T106 x8_1 ((rd_T109 l1 x9_1).f0)).f0), .string ((rd_T106 x8_1 ((rd_T109 l1 x9_1).f0)).f1), .string ((rd_T106 x8_1 ((rd_T109 l1 x9_1).f0)).f2), .int .i64 ((rd_T106 x8_1 ((rd_T109 l1 x9_1).f0)).f3), .int .i64 (wrap64 (((rd_T106 x8_1 ((rd_T109 l1 x9_1).f0)).f4) - ((rd_T109 l1 x9_1).f1))), .int .i64 (wrap64 (((rd_T106 x8_1 ((rd_T109 l1 x9_1).f0)).f5) - ((rd_T109 l1 x9_1).f1)))]) (j := 0) hcl60 hcc60 (show 6 ≤ 6 from by decide) (x' := (⟨((rd_T106 x8_1 ((rd_T109 l1 x9_1).f0)).f0), ((rd_T106 x8_1 ((rd_T109 l1 x9_1).f0)).f1), ((rd_T106 x8_1 ((rd_T109 l1 x9_1).f0)).f2), ((rd_T106 x8_1 ((rd_T109 l1 x9_1).f0)).f3), wrap64 (((rd_T106 x8_1 ((rd_T109 l1 x9_1).f0)).f4) - ((rd_T109 l1 x9_1).f1)), wrap64 (((rd_T106 x8_1 ((rd_T109 l1 x9_1).f0)).f5) - ((rd_T109 l1 x9_1).f1))⟩ : S106)) (k106_mkM _ _ _ (⟨((rd_T106 x8_1 ((rd_T109 l1 x9_1).f0)).f0), ((rd_T106 x8_1 ((rd_T109 l1 x9_1).f0)).f1), ((rd_T106 x8_1 ((rd_T109 l1 x9_1).f0)).f2), ((rd_T106 x8_1 ((rd_T109 l1 x9_1).f0)).f3), wrap64 (((rd_T106 x8_1 ((rd_T109 l1 x9_1).f0)).f4) - ((rd_T109 l1 x9_1).f1)), wrap64 (((rd_T106 x8_1 ((rd_T109 l1 x9_1).f0)).f5) - ((rd_T109 l1 x9_1).f1))⟩ : S106) ) (fun _ hk => hk); have hx60_0 := hcc60 0 _ rfl; (try simp only [show (k106).sz = 6 from rfl, Nat.mul_one, Nat.add_zero] at hx60_0); have hf60_0 := hfr60 0; (try simp only [show (k106).sz = 6 from rfl, Nat.mul_one, Nat.add_zero] at hf60_0); have hx60_1 := hcc60 1 _ rfl; (try simp only [show (k106).sz = 6 from rfl, Nat.mul_one, Nat.add_zero] at hx60_1); have hf60_1 := hfr60 1; (try simp only [show (k106).sz = 6 from rfl, Nat.mul_one, Nat.add_zero] at hf60_1); have hx60_2 := hcc60 2 _ rfl; (try simp only [show (k106).sz = 6 from rfl, Nat.mul_one, Nat.add_zero] at hx60_2); have hf60_2 := hfr60 2; (try simp only [show (k106).sz = 6 from rfl, Nat.mul_one, Nat.add_zero] at hf60_2); have hx60_3 := hcc60 3 _ rfl; (try simp only [show (k106).sz = 6 from rfl, Nat.mul_one, Nat.add_zero] at hx60_3); have hf60_3 := hfr60 3; (try simp only [show (k106).sz = 6 from rfl, Nat.mul_one, Nat.add_zero] at hf60_3); have hx60_4 := hcc60 4 _ rfl; (try simp only [show (k106).sz = 6 from rfl, Nat.mul_one, Nat.add_zero] at hx60_4); have hf60_4 := hfr60 4; (try simp only [show (k106).sz = 6 from rfl, Nat.mul_one, Nat.add_zero] at hf60_4); have hx60_5 := hcc60 5 _ rfl; (try simp only [show (k106).sz = 6 from rfl, Nat.mul_one, Nat.add_zero] at hx60_5); have hf60_5 := hfr60 5; (try simp only [show (k106).sz = 6 from rfl, Nat.mul_one, Nat.add_zero] at hf60_5); clear hcl60 hcc60 hfr60 hM60) | ((with_reducible refine gate_store (t := 106) (p := 99) rfl ?_); refine store_event (t := 106) (p := 99) (v := ?vo_w61) (w1 := ((((((w57.setCell ⟨go50, (((rd_T109 l1 x9_1).f0) : Int).toNat * 6, none⟩ (.string ((rd_T106 x8_1 ((rd_T109 l1 x9_1).f0)).f0))).setCell ⟨go50, (((rd_T109 l1 x9_1).f0) : Int).toNat * 6 + 1, none⟩ (.string ((rd_T106 x8_1 ((rd_T109 l1 x9_1).f0)).f1))).setCell ⟨go50, (((rd_T109 l1 x9_1).f0) : Int).toNat * 6 + 2, none⟩ (.string ((rd_T106 x8_1 ((rd_T109 l1 x9_1).f0)).f2))).setCell ⟨go50, (((rd_T109 l1 x9_1).f0) : Int).toNat * 6 + 3, none⟩ (.int .i64 ((rd_T106 x8_1 ((rd_T109 l1 x9_1).f0)).f3))).setCell ⟨go50, (((rd_T109 l1 x9_1).f0) : Int).toNat * 6 + 4, none⟩ (.int .i64 (wrap64 (((rd_T106 x8_1 ((rd_T109 l1 x9_1).f0)).f4) - ((rd_T109 l1 x9_1).f1))))).setCell ⟨go50, (((rd_T109 l1 x9_1).f0) : Int).toNat * 6 + 5, none⟩ (.int .i64 (wrap64 (((rd_T106 x8_1 ((rd_T109 l1 x9_1).f0)).f5) - ((rd_T109 l1 x9_1).f1)))))) ?hg ?ho ?hn ?hr ?_; (case ho => rfl); (case hg => rfl); (case hn => rfl); (case hr => first | (go_simp; done) | (go_simp; rfl)); intro w61 hw; have hg : w57.grownBy w61 (some go50) := (by rw [hw]; exact HP60.2); have hp_ : Kd.R k106 106 w61 w.heap.size (fun k_ => k_ ≠ gb203) (.slice (some ⟨go50, 0, none⟩) x8_1.length co29) y207 := (by rw [hw, Ny207.out]; exact HP60.1); clear HP60; have n0_ := Aside0.mk (hp_); have n1_ := Aside0.mk (blk_grown (g := gb196) (o := .cells #[.int .i64 ((rd_T109 l1 x9_1).f0), .int .i64 ((rd_T109 l1 x9_1).f1)] 109 (0, 0)) (by (with_reducible repeat (first | refine qi0 ?_ _ | refine qk0 ?_ | refine qj0 ?_ _)); exact BK196.out) hg (Kd.R_ne HO_8.out BK196.out (by decide))); have n2_ := Aside0.mk (blk_grown (g := gb203) (o := .cells #[.string ((rd_T106 x8_1 ((rd_T109 l1 x9_1).f0)).f0), .string ((rd_T106 x8_1 ((rd_T109 l1 x9_1).f0)).f1), .string ((rd_T106 x8_1 ((rd_T109 l1 x9_1).f0)).f2), .int .i64 ((rd_T106 x8_1 ((rd_T109 l1 x9_1).f0)).f3), .int .i64 (wrap64 (((rd_T106 x8_1 ((rd_T109 l1 x9_1).f0)).f4) - ((rd_T109 l1 x9_1).f1))), .int .i64 (wrap64 (((rd_T106 x8_1 ((rd_T109 l1 x9_1).f0)).f5) - ((rd_T109 l1 x9_1).f1)))] 106 (0, 0)) (by (with_reducible repeat (first | refine qi0 ?_ _ | refine qk0 ?_ | refine qj0 ?_ _)); exact BK203.out) hg (Kd.R_away HO_8.out (fun _ hk => hk))); have n3_ := Aside0.mk ((by rw [hw]; exact qg0 (qg0 (qg0 (qg0 (qg0 (qg0 (HB.out) GB50.out) GB50.out) GB50.out) GB50.out) GB50.out) GB50.out : Below w.heap.size w w61)); clear HO_8; clear BK196; clear BK203; clear HB; have HO_8 := n0_; have BK196 := n1_; have BK203 := n2_; have HB := n3_; clear n0_ n1_ n2_ n3_; clear hg hw hp_))
          go_roundg kj26
          case measure => have := HK1.out; have := HJ13.out; have := HJ26.out; omega
          case rel => exact ⟨(y207), (wrap64 (x9_1 + 1)), (by first | rfl | (simp; done) | (simp [*]; done)), H', ⟨by have := HK1.out; have := HJ13.out; have := HJ26.out; omega⟩, ⟨by (with_reducible repeat (first | apply Kd.qm0 | apply Kd.ql0 | apply Kd.qo0)); exact Kd.qz0 HO_8.out (fun _ hk => trivial)⟩, ⟨by repeat (first | (with_reducible first | exact HB.out | apply qc0 | apply qa0 | apply qb0 | refine qg0 ?_ GE196.out | refine qg0 ?_ GE203.out) | exact HB.out)⟩⟩
         replace c47 := Bool.eq_false_iff.mpr c47
         subst c47
         have H1 : (if 0 ≤ ((rd_T109 l1 x9_1).f0) then (if ((rd_T109 l1 x9_1).f0) < (x8_1.length : Int) then (spec_l15Each.l0 kj26 l0 l1 false (x8_1.set (((rd_T109 l1 x9_1).f0) : Int).toNat (⟨((rd_T106 x8_1 ((rd_T109 l1 x9_1).f0)).f0), ((rd_T106 x8_1 ((rd_T109 l1 x9_1).f0)).f1), ((rd_T106 x8_1 ((rd_T109 l1 x9_1).f0)).f2), ((rd_T106 x8_1 ((rd_T109 l1 x9_1).f0)).f3), ((rd_T106 x8_1 ((rd_T109 l1 x9_1).f0)).f4), wrap64 (((rd_T106 x8_1 ((rd_T109 l1 x9_1).f0)).f5) + ((rd_T109 l1 x9_1).f1))⟩ : S106)) (wrap64 (x9_1 + 1))) else (none)) else (none)) = some (r1, r2) := by rw [if_neg (show ¬ (false = true) by decide)] at H; exact H
         clear H
         have H := H1
         clear H1
         by_cases c62 : 0 ≤ ((rd_T109 l1 x9_1).f0)
         case neg => rw [if_neg c62] at H; exact absurd H (by simp)
         rw [if_pos c62] at H
         have c62b0 : decide (0 ≤ ((rd_T109 l1 x9_1).f0)) = true := decide_eq_true c62
         clear c62
         by_cases c63 : ((rd_T109 l1 x9_1).f0) < (x8_1.length : Int)
         case neg => rw [if_neg c63] at H; exact absurd H (by simp)
         rw [if_pos c63] at H
         have c63b0 : decide (((rd_T109 l1 x9_1).f0) < (x8_1.length : Int)) = true := decide_eq_true c63
         clear c63
         obtain ⟨y208, hy208⟩ : ∃ y_ : List (S106), y_ = (x8_1.set (((rd_T109 l1 x9_1).f0) : Int).toNat (⟨((rd_T106 x8_1 ((rd_T109 l1 x9_1).f0)).f0), ((rd_T106 x8_1 ((rd_T109 l1 x9_1).f0)).f1), ((rd_T106 x8_1 ((rd_T109 l1 x9_1).f0)).f2), ((rd_T106 x8_1 ((rd_T109 l1 x9_1).f0)).f3), ((rd_T106 x8_1 ((rd_T109 l1 x9_1).f0)).f4), wrap64 (((rd_T106 x8_1 ((rd_T109 l1 x9_1).f0)).f5) + ((rd_T109 l1 x9_1).f1))⟩ : S106)) := ⟨_, rfl⟩
         replace H : (spec_l15Each.l0 kj26 l0 l1 false y208 (wrap64 (x9_1 + 1))) = some (r1, r2) := by first | (rw [hy208]; with_reducible exact H) | (have H2_ := (Option.bind_some _ _).symm.trans H; rw [hy208]; with_reducible exact H2_) | (have H2_ := (Option.bind_some _ _).symm.trans H; with_reducible exact H2_) | with_reducible exact H | (rw [hy208]; exact H) | exact H
         have Ny208 := Aside0.mk hy208
         clear hy208
         have H' := Aside0.mk H
         clear H
         have hnb65 := NB203_196.out
         have hnc65 := NB196_203.out
         have hcz66_0 : wc.cell? ⟨gb203, 0, none⟩ = some (.string ((rd_T106 x8_1 ((rd_T109 l1 x9_1).f0)).f0)) := (qe0 BK203.out 0).trans rfl
         have hcz66_1 : wc.cell? ⟨gb203, 1, none⟩ = some (.string ((rd_T106 x8_1 ((rd_T109 l1 x9_1).f0)).f1)) := (qe0 BK203.out 1).trans rfl
         have hcz66_2 : wc.cell? ⟨gb203, 2, none⟩ = some (.string ((rd_T106 x8_1 ((rd_T109 l1 x9_1).f0)).f2)) := (qe0 BK203.out 2).trans rfl
         have hcz66_3 : wc.cell? ⟨gb203, 3, none⟩ = some (.int .i64 ((rd_T106 x8_1 ((rd_T109 l1 x9_1).f0)).f3)) := (qe0 BK203.out 3).trans rfl
         have hcz66_4 : wc.cell? ⟨gb203, 4, none⟩ = some (.int .i64 ((rd_T106 x8_1 ((rd_T109 l1 x9_1).f0)).f4)) := (qe0 BK203.out 4).trans rfl
         have hcz66_5 : wc.cell? ⟨gb203, 5, none⟩ = some (.int .i64 ((rd_T106 x8_1 ((rd_T109 l1 x9_1).f0)).f5)) := (qe0 BK203.out 5).trans rfl
         have hfz66_0 := qd0 BK203.out 0
         have hfz66_1 := qd0 BK203.out 1
         have hfz66_2 := qd0 BK203.out 2
         have hfz66_3 := qd0 BK203.out 3
         have hfz66_4 := qd0 BK203.out 4
         have hfz66_5 := qd0 BK203.out 5
         have hcz67_0 : wc.cell? ⟨gb196, 0, none⟩ = some (.int .i64 ((rd_T109 l1 x9_1).f0)) := (qe0 BK196.out 0).trans rfl
         have hcz67_1 : wc.cell? ⟨gb196, 1, none⟩ = some (.int .i64 ((rd_T109 l1 x9_1).f1)) := (qe0 BK196.out 1).trans rfl
         have hfz67_0 := qd0 BK196.out 0
         have hfz67_1 := qd0 BK196.out 1
         go_wp2_with (first | ((with_reducible refine gate_store (t := 3) (p := 94) rfl ?_); refine store_event (t := 3) (p := 94) (v := ?vo_w68) (w1 := (wc.setCell ⟨gb203, 5, none⟩ (.int .i64 (wrap64 (((rd_T106 x8_1 ((rd_T109 l1 x9_1).f0)).f5) + ((rd_T109 l1 x9_1).f1)))))) ?hg ?ho ?hn ?hr ?_; (case ho => rfl); (case hg => rfl); (case hn => rfl); (case hr => first | (go_simp; done) | (go_simp; rfl)); intro w68 hw; have n0_ : Aside0 (Kd.R k106 106 w68 w.heap.size (fun k_ => k_ ≠ gb203) (.slice (some ad202) x8_1.length co29) x8_1) := ⟨(by rw [hw]; exact (by (with_reducible repeat (first | apply Kd.qm0 | apply Kd.ql0 | apply Kd.qo0)); exact Kd.qz0 (Kd.R_far (p := ⟨gb203, 5, none⟩) (Kd.qz0 HO_8.out (fun k_ hk => (⟨hk, hk⟩ : _ ∧ k_ ≠ gb203))) (fun _ hk => hk.2) (.int .i64 (wrap64 (((rd_T106 x8_1 ((rd_T109 l1 x9_1).f0)).f5) + ((rd_T109 l1 x9_1).f1))))) (fun _ hk => hk.1)))⟩; have n1_ : Aside0 (w68.heap[gb196]? = some (.cells #[.int .i64 ((rd_T109 l1 x9_1).f0), .int .i64 ((rd_T109 l1 x9_1).f1)] 109 (0, 0))) := ⟨(by rw [hw]; exact (by (with_reducible repeat (first | refine qi0 ?_ _ | refine qk0 ?_ | refine qj0 ?_ _)); refine qk1 ?_ NB196_203.out _; (with_reducible repeat (first | refine qi0 ?_ _ | refine qk0 ?_ | refine qj0 ?_ _)); exact BK196.out))⟩; have n2_ : Aside0 (w68.heap[gb203]? = some (.cells #[.string ((rd_T106 x8_1 ((rd_T109 l1 x9_1).f0)).f0), .string ((rd_T106 x8_1 ((rd_T109 l1 x9_1).f0)).f1), .string ((rd_T106 x8_1 ((rd_T109 l1 x9_1).f0)).f2), .int .i64 ((rd_T106 x8_1 ((rd_T109 l1 x9_1).f0)).f3), .int .i64 ((rd_T106 x8_1 ((rd_T109 l1 x9_1).f0)).f4), .int .i64 (wrap64 (((rd_T106 x8_1 ((rd_T109 l1 x9_1).f0)).f5) + ((rd_T109 l1 x9_1).f1)))] 106 (0, 0))) := ⟨(by rw [hw]; exact (by (with_reducible repeat (first | refine qi0 ?_ _ | refine qk0 ?_ | refine qj0 ?_ _)); refine qx0 (cs := #[.string ((rd_T106 x8_1 ((rd_T109 l1 x9_1).f0)).f0), .string ((rd_T106 x8_1 ((rd_T109 l1 x9_1).f0)).f1), .string ((rd_T106 x8_1 ((rd_T109 l1 x9_1).f0)).f2), .int .i64 ((rd_T106 x8_1 ((rd_T109 l1 x9_1).f0)).f3), .int .i64 ((rd_T106 x8_1 ((rd_T109 l1 x9_1).f0)).f4), .int .i64 ((rd_T106 x8_1 ((rd_T109 l1 x9_1).f0)).f5)]) ?_ 5 _ rfl; (with_reducible repeat (first | refine qi0 ?_ _ | refine qk0 ?_ | refine qj0 ?_ _)); exact BK203.out))⟩; have n3_ : Aside0 (Below w.heap.size w w68) := ⟨(by rw [hw]; exact (by repeat (first | (with_reducible first | exact HB.out | apply qc0 | apply qa0 | apply qb0 | refine qg0 ?_ GE196.out | refine qg0 ?_ GE203.out) | exact HB.out)))⟩; clear hw; clear HO_8; clear BK196; clear BK203; clear HB; have HO_8 := n0_; have BK196 := n1_; have BK203 := n2_; have HB := n3_; clear n0_ n1_ n2_ n3_; have hcz69_0 : w68.cell? ⟨gb196, 0, none⟩ = some (.int .i64 ((rd_T109 l1 x9_1).f0)) := (qe0 BK196.out 0).trans rfl; have hcz69_1 : w68.cell? ⟨gb196, 1, none⟩ = some (.int .i64 ((rd_T109 l1 x9_1).f1)) := (qe0 BK196.out 1).trans rfl; have hfz69_0 := qd0 BK196.out 0; have hfz69_1 := qd0 BK196.out 1; have hcz70_0 : w68.cell? ⟨gb203, 0, none⟩ = some (.string ((rd_T106 x8_1 ((rd_T109 l1 x9_1).f0)).f0)) := (qe0 BK203.out 0).trans rfl; have hcz70_1 : w68.cell? ⟨gb203, 1, none⟩ = some (.string ((rd_T106 x8_1 ((rd_T109 l1 x9_1).f0)).f1)) := (qe0 BK203.out 1).trans rfl; have hcz70_2 : w68.cell? ⟨gb203, 2, none⟩ = some (.string ((rd_T106 x8_1 ((rd_T109 l1 x9_1).f0)).f2)) := (qe0 BK203.out 2).trans rfl; have hcz70_3 : w68.cell? ⟨gb203, 3, none⟩ = some (.int .i64 ((rd_T106 x8_1 ((rd_T109 l1 x9_1).f0)).f3)) := (qe0 BK203.out 3).trans rfl; have hcz70_4 : w68.cell? ⟨gb203, 4, none⟩ = some (.int .i64 ((rd_T106 x8_1 ((rd_T109 l1 x9_1).f0)).f4)) := (qe0 BK203.out 4).trans rfl; have hcz70_5 : w68.cell? ⟨gb203, 5, none⟩ = some (.int .i64 (wrap64 (((rd_T106 x8_1 ((rd_T109 l1 x9_1).f0)).f5) + ((rd_T109 l1 x9_1).f1)))) := (qe0 BK203.out 5).trans rfl; have hfz70_0 := qd0 BK203.out 0; have hfz70_1 := qd0 BK203.out 1; have hfz70_2 := qd0 BK203.out 2; have hfz70_3 := qd0 BK203.out 3; have hfz70_4 := qd0 BK203.out 4; have hfz70_5 := qd0 BK203.out 5; have p64 : 0 ≤ (((rd_T109 l1 x9_1).f0) : Int) := of_decide_eq_true (by first | (with_reducible assumption) | assumption); have q64 : (((rd_T109 l1 x9_1).f0) : Int) < ((x8_1.length : Int) : Int) := of_decide_eq_true (by first | (with_reducible assumption) | assumption); obtain ⟨go64, co64, eo64, gb64, gl64, cl64, HG64⟩ := Kd.R_form HO_8.out (by omega); (first | cases eo64 | (injection eo64 with ea_ en_ ec_; (first | subst ea_ | (injection ea_ with ea_; subst ea_)); subst ec_; clear en_)); have GB64 := Aside0.mk gb64; have GG64 := Aside0.mk HG64; clear gb64 gl64 HG64; obtain ⟨ce64, hcl64, hM64, hcc64, hfr64⟩ := Kd.qo1 HO_8.out z106 (((rd_T109 l1 x9_1).f0) : Int) p64 q64; obtain rfl := k106_openM hM64; have hx64_0 : w68.cell? ⟨go64, (((rd_T109 l1 x9_1).f0) : Int).toNat * 6, none⟩ = some (.string ((rd_T106 x8_1 ((rd_T109 l1 x9_1).f0)).f0)) := hcc64 0 _ rfl; have hx64_1 : w68.cell? ⟨go64, (((rd_T109 l1 x9_1).f0) : Int).toNat * 6 + 1, none⟩ = some (.string ((rd_T106 x8_1 ((rd_T109 l1 x9_1).f0)).f1)) := hcc64 1 _ rfl; have hx64_2 : w68.cell? ⟨go64, (((rd_T109 l1 x9_1).f0) : Int).toNat * 6 + 2, none⟩ = some (.string ((rd_T106 x8_1 ((rd_T109 l1 x9_1).f0)).f2)) := hcc64 2 _ rfl; have hx64_3 : w68.cell? ⟨go64, (((rd_T109 l1 x9_1).f0) : Int).toNat * 6 + 3, none⟩ = some (.int .i64 ((rd_T106 x8_1 ((rd_T109 l1 x9_1).f0)).f3)) := hcc64 3 _ rfl; have hx64_4 : w68.cell? ⟨go64, (((rd_T109 l1 x9_1).f0) : Int).toNat * 6 + 4, none⟩ = some (.int .i64 ((rd_T106 x8_1 ((rd_T109 l1 x9_1).f0)).f4)) := hcc64 4 _ rfl; have hx64_5 : w68.cell? ⟨go64, (((rd_T109 l1 x9_1).f0) : Int).toNat * 6 + 5, none⟩ = some (.int .i64 ((rd_T106 x8_1 ((rd_T109 l1 x9_1).f0)).f5)) := hcc64 5 _ rfl; have hf64_0 : w68.frozen? ⟨go64, (((rd_T109 l1 x9_1).f0) : Int).toNat * 6, none⟩ = false := hfr64 0; have hf64_1 : w68.frozen? ⟨go64, (((rd_T109 l1 x9_1).f0) : Int).toNat * 6 + 1, none⟩ = false := hfr64 1; have hf64_2 : w68.frozen? ⟨go64, (((rd_T109 l1 x9_1).f0) : Int).toNat * 6 + 2, none⟩ = false := hfr64 2; have hf64_3 : w68.frozen? ⟨go64, (((rd_T109 l1 x9_1).f0) : Int).toNat * 6 + 3, none⟩ = false := hfr64 3; have hf64_4 : w68.frozen? ⟨go64, (((rd_T109 l1 x9_1).f0) : Int).toNat * 6 + 4, none⟩ = false := hfr64 4; have hf64_5 : w68.frozen? ⟨go64, (((rd_T109 l1 x9_1).f0) : Int).toNat * 6 + 5, none⟩ = false := hfr64 5; clear hcl64 hcc64 hfr64 hM64; replace p64 := eq_true p64; replace q64 := eq_true q64; have HX71 := Aside0.mk (show Kd.R k106 106 w68 w.heap.size (fun k_ => k_ ≠ gb203) (.slice (some ⟨go64, 0, none⟩) x8_1.length co29) x8_1 from (by (with_reducible repeat (first | apply Kd.qm0 | apply Kd.ql0 | apply Kd.qo0)); exact HO_8.out)); obtain ⟨ce71, hcl71, hM71, hcc71, hfr71⟩ := Kd.qo1 HX71.out z106 (((rd_T109 l1 x9_1).f0) : Int) (of_decide_eq_true (by first | (with_reducible assumption) | assumption)) (by have h_ : (((rd_T109 l1 x9_1).f0) : Int) < ((x8_1.length : Int) : Int) := of_decide_eq_true (by first | (with_reducible assumption) | assumption); first | exact h_ | (have e_ := (Kd.qp0 HO_8.out).1; omega) | simpa using h_); obtain rfl := k106_openM hM71; have HP71 := Kd.R_seg HX71.out (((rd_T109 l1 x9_1).f0) : Int) (of_decide_eq_true (by first | (with_reducible assumption) | assumption)) (by have h_ : (((rd_T109 l1 x9_1).f0) : Int) < ((x8_1.length : Int) : Int) := of_decide_eq_true (by first | (with_reducible assumption) | assumption); first | exact h_ | (have e_ := (Kd.qp0 HO_8.out).1; omega) | simpa using h_) (seg := [.string ((rd_T106 x8_1 ((rd_T109 l1 x9_1).f0)).f0), .string ((rd_T106 x8_1 ((rd_T109 l1 x9_1).f0)).f1), .string ((rd_T106 x8_1 ((rd_T109 l1 x9_1).f0)).f2), .int .i64 ((rd_T106 x8_1 ((rd_T109 l1 x9_1).f0)).f3), .int .i64 ((rd_T106 x8_1 ((rd_T109 l1 x9_1).f0)).f4), .int .i64 (wrap64 (((rd_T106 x8_1 ((rd_T109 l1 x9_1).f0)).f5) + ((rd_T109 l1 x9_1).f1)))]) (j := 0) hcl71 hcc71 (show 6 ≤ 6 from by decide) (x' := (⟨((rd_T106 x8_1 ((rd_T109 l1 x9_1).f0)).f0), ((rd_T106 x8_1 ((rd_T109 l1 x9_1).f0)).f1), ((rd_T106 x8_1 ((rd_T109 l1 x9_1).f0)).f2), ((rd_T106 x8_1 ((rd_T109 l1 x9_1).f0)).f3), ((rd_T106 x8_1 ((rd_T109 l1 x9_1).f0)).f4), wrap64 (((rd_T106 x8_1 ((rd_T109 l1 x9_1).f0)).f5) + ((rd_T109 l1 x9_1).f1))⟩ : S106)) (k106_mkM _ _ _ (⟨((rd_T106 x8_1 ((rd_T109 l1 x9_1).f0)).f0), ((rd_T106 x8_1 ((rd_T109 l1 x9_1).f0)).f1), ((rd_T106 x8_1 ((rd_T109 l1 x9_1).f0)).f2), ((rd_T106 x8_1 ((rd_T109 l1 x9_1).f0)).f3), ((rd_T106 x8_1 ((rd_T109 l1 x9_1).f0)).f4), wrap64 (((rd_T106 x8_1 ((rd_T109 l1 x9_1).f0)).f5) + ((rd_T109 l1 x9_1).f1))⟩ : S106) ) (fun _ hk => hk); have hx71_0 := hcc71 0 _ rfl; (try simp only [show (k106).sz = 6 from rfl, Nat.mul_one, Nat.add_zero] at hx71_0); have hf71_0 := hfr71 0; (try simp only [show (k106).sz = 6 from rfl, Nat.mul_one, Nat.add_zero] at hf71_0); have hx71_1 := hcc71 1 _ rfl; (try simp only [show (k106).sz = 6 from rfl, Nat.mul_one, Nat.add_zero] at hx71_1); have hf71_1 := hfr71 1; (try simp only [show (k106).sz = 6 from rfl, Nat.mul_one, Nat.add_zero] at hf71_1); have hx71_2 := hcc71 2 _ rfl; (try simp only [show (k106).sz = 6 from rfl, Nat.mul_one, Nat.add_zero] at hx71_2); have hf71_2 := hfr71 2; (try simp only [show (k106).sz = 6 from rfl, Nat.mul_one, Nat.add_zero] at hf71_2); have hx71_3 := hcc71 3 _ rfl; (try simp only [show (k106).sz = 6 from rfl, Nat.mul_one, Nat.add_zero] at hx71_3); have hf71_3 := hfr71 3; (try simp only [show (k106).sz = 6 from rfl, Nat.mul_one, Nat.add_zero] at hf71_3); have hx71_4 := hcc71 4 _ rfl; (try simp only [show (k106).sz = 6 from rfl, Nat.mul_one, Nat.add_zero] at hx71_4); have hf71_4 := hfr71 4; (try simp only [show (k106).sz = 6 from rfl, Nat.mul_one, Nat.add_zero] at hf71_4); have hx71_5 := hcc71 5 _ rfl; (try simp only [show (k106).sz = 6 from rfl, Nat.mul_one, Nat.add_zero] at hx71_5); have hf71_5 := hfr71 5; (try simp only [show (k106).sz = 6 from rfl, Nat.mul_one, Nat.add_zero] at hf71_5); clear hcl71 hcc71 hfr71 hM71) | ((with_reducible refine gate_store (t := 106) (p := 99) rfl ?_); refine store_event (t := 106) (p := 99) (v := ?vo_w72) (w1 := ((((((w68.setCell ⟨go64, (((rd_T109 l1 x9_1).f0) : Int).toNat * 6, none⟩ (.string ((rd_T106 x8_1 ((rd_T109 l1 x9_1).f0)).f0))).setCell ⟨go64, (((rd_T109 l1 x9_1).f0) : Int).toNat * 6 + 1, none⟩ (.string ((rd_T106 x8_1 ((rd_T109 l1 x9_1).f0)).f1))).setCell ⟨go64, (((rd_T109 l1 x9_1).f0) : Int).toNat * 6 + 2, none⟩ (.string ((rd_T106 x8_1 ((rd_T109 l1 x9_1).f0)).f2))).setCell ⟨go64, (((rd_T109 l1 x9_1).f0) : Int).toNat * 6 + 3, none⟩ (.int .i64 ((rd_T106 x8_1 ((rd_T109 l1 x9_1).f0)).f3))).setCell ⟨go64, (((rd_T109 l1 x9_1).f0) : Int).toNat * 6 + 4, none⟩ (.int .i64 ((rd_T106 x8_1 ((rd_T109 l1 x9_1).f0)).f4))).setCell ⟨go64, (((rd_T109 l1 x9_1).f0) : Int).toNat * 6 + 5, none⟩ (.int .i64 (wrap64 (((rd_T106 x8_1 ((rd_T109 l1 x9_1).f0)).f5) + ((rd_T109 l1 x9_1).f1)))))) ?hg ?ho ?hn ?hr ?_; (case ho => rfl); (case hg => rfl); (case hn => rfl); (case hr => first | (go_simp; done) | (go_simp; rfl)); intro w72 hw; have hg : w68.grownBy w72 (some go64) := (by rw [hw]; exact HP71.2); have hp_ : Kd.R k106 106 w72 w.heap.size (fun k_ => k_ ≠ gb203) (.slice (some ⟨go64, 0, none⟩) x8_1.length co29) y208 := (by rw [hw, Ny208.out]; exact HP71.1); clear HP71; have n0_ := Aside0.mk (hp_); have n1_ := Aside0.mk (blk_grown (g := gb196) (o := .cells #[.int .i64 ((rd_T109 l1 x9_1).f0), .int .i64 ((rd_T109 l1 x9_1).f1)] 109 (0, 0)) (by (with_reducible repeat (first | refine qi0 ?_ _ | refine qk0 ?_ | refine qj0 ?_ _)); exact BK196.out) hg (Kd.R_ne HO_8.out BK196.out (by decide))); have n2_ := Aside0.mk (blk_grown (g := gb203) (o := .cells #[.string ((rd_T106 x8_1 ((rd_T109 l1 x9_1).f0)).f0), .string ((rd_T106 x8_1 ((rd_T109 l1 x9_1).f0)).f1), .string ((rd_T106 x8_1 ((rd_T109 l1 x9_1).f0)).f2), .int .i64 ((rd_T106 x8_1 ((rd_T109 l1 x9_1).f0)).f3), .int .i64 ((rd_T106 x8_1 ((rd_T109 l1 x9_1).f0)).f4), .int .i64 (wrap64 (((rd_T106 x8_1 ((rd_T109 l1 x9_1).f0)).f5) + ((rd_T109 l1 x9_1).f1)))] 106 (0, 0)) (by (with_reducible repeat (first | refine qi0 ?_ _ | refine qk0 ?_ | refine qj0 ?_ _)); exact BK203.out) hg (Kd.R_away HO_8.out (fun _ hk => hk))); have n3_ := Aside0.mk ((by rw [hw]; exact qg0 (qg0 (qg0 (qg0 (qg0 (qg0 (HB.out) GB64.out) GB64.out) GB64.out) GB64.out) GB64.out) GB64.out : Below w.heap.size w w72)); clear HO_8; clear BK196; clear BK203; clear HB; have HO_8 := n0_; have BK196 := n1_; have BK203 := n2_; have HB := n3_; clear n0_ n1_ n2_ n3_; clear hg hw hp_))
         go_roundg kj26
         case measure => have := HK1.out; have := HJ13.out; have := HJ26.out; omega
         case rel => exact ⟨(y208), (wrap64 (x9_1 + 1)), (by first | rfl | (simp; done) | (simp [*]; done)), H', ⟨by have := HK1.out; have := HJ13.out; have := HJ26.out; omega⟩, ⟨by (with_reducible repeat (first | apply Kd.qm0 | apply Kd.ql0 | apply Kd.qo0)); exact Kd.qz0 HO_8.out (fun _ hk => trivial)⟩, ⟨by repeat (first | (with_reducible first | exact HB.out | apply qc0 | apply qa0 | apply qb0 | refine qg0 ?_ GE196.out | refine qg0 ?_ GE203.out) | exact HB.out)⟩⟩
    rw [if_neg c12] at H
    have c12b0 : decide (x9_1 < (l1.length : Int)) = false := decide_eq_false c12
    clear c12
    simp only [Option.some.injEq, Prod.mk.injEq] at H
    obtain ⟨rfl, rfl⟩ := H
    go_wp2
    go_ret2
    exact ⟨_, by first | rfl | (simp [errW_none, errW_some] <;> rfl) | (simp [*, errW_none, errW_some] <;> rfl), by (with_reducible repeat (first | apply Kd.qm0 | apply Kd.ql0 | apply Kd.qo0)); exact HO_8.out, by repeat (first | (with_reducible first | exact HB.out | apply qc0 | apply qa0 | apply qb0) | exact HB.out)⟩
 replace c5 := Bool.eq_false_iff.mpr c5
 subst c5
 have H1 : (some ((([] : List (S106))), 1)) = some (r1, r2) := by rw [if_neg (show ¬ (false = true) by decide)] at H; exact H
 clear H
 have H := H1
 clear H1
 obtain ⟨y189, hy189⟩ : ∃ y_ : List (S106), y_ = (([] : List (S106))) := ⟨_, rfl⟩
 replace H : (some (y189, 1)) = some (r1, r2) := by first | (rw [hy189]; with_reducible exact H) | (have H2_ := (Option.bind_some _ _).symm.trans H; rw [hy189]; with_reducible exact H2_) | (have H2_ := (Option.bind_some _ _).symm.trans H; with_reducible exact H2_) | with_reducible exact H | (rw [hy189]; exact H) | exact H
 have Ny189 := Aside0.mk hy189
 clear hy189
 simp only [Option.some.injEq, Prod.mk.injEq] at H
 obtain ⟨rfl, rfl⟩ := H
 go_enter Try.func71, Try.ntmps71
 go_wp2_with (first | ((with_reducible refine qn0 (f := 105) rfl ?_); refine qu0 (some 13) rfl rfl Try.func105 (by kernel_rfl) rfl #[.slice A0 l0.length c0] rfl (by (try simp only [List.map_toArray, List.map_cons, List.map_nil]); first | done | rfl | (simp only [List.length_drop, List.length_take]; rfl)) ?_; (with_reducible refine (spec_StockOk.calls k _ _ l0 false _ ?side1 ?side2 A4.out).mono ?_); (case side1 => repeat (first | exact HR0.out | (with_reducible refine Kd.qw0 ?_ _) | (with_reducible refine Kd.qv0 ?_ _) | (with_reducible refine Kd.qy0 ?_))); (case side2 => exact HC0.out); rintro e w73 ⟨rfl, hb⟩; refine ⟨_, rfl, ?_⟩; have n0_ := Aside0.mk (qf0 (by repeat (first | (with_reducible first | exact HB.out | apply qc0 | apply qa0 | apply qb0) | exact HB.out)) hb); clear HB; have HB := n0_; clear n0_; (try clear hb); (try clear hb2); (try clear hk); (try clear hi)) | ((with_reducible refine qt0 (N := 15) rfl ?_); refine Kd.R_lit k106 _ 106 ?hg (N := 15) ?hd (xs := ([] : List (S106))) (inner := []) (ok := fun _ => True) (okp := fun _ => True) ?hr ?hp (fun _ hk => hk) trivial (Below.refl _ _) (Nat.le_refl _) (by simp) ?_; (case hd => rfl); (case hg => rfl); (case hr => first | (go_simp; done) | (go_simp; rfl)); (case hp => exact (Reps.none _ _)); intro v190 w74 ho75 hb hg_ hnew_; clear hg_ hnew_; (first | rw [← Ny189.out] at ho75 | (simp only [Int.reduceToNat] at ho75; rw [← Ny189.out] at ho75)); have n0_ := Aside0.mk (Kd.qi1 ho75 (qh0 (by repeat (first | (with_reducible first | exact HB.out | apply qc0 | apply qa0 | apply qb0) | exact HB.out)))); have n1_ := Aside0.mk (qf0 (by repeat (first | (with_reducible first | exact HB.out | apply qc0 | apply qa0 | apply qb0) | exact HB.out)) hb); clear HB; have HO191 := n0_; have HB := n1_; clear n0_ n1_; clear hb ho75))
 go_ret2
 exact ⟨_, by first | rfl | (simp [errW_none, errW_some] <;> rfl) | (simp [*, errW_none, errW_some] <;> rfl), by (with_reducible repeat (first | apply Kd.qm0 | apply Kd.ql0 | apply Kd.qo0)); exact HO191.out, by repeat (first | (with_reducible first | exact HB.out | apply qc0 | apply qa0 | apply qb0) | exact HB.out)⟩

/-! ### spec_Ship: function 31 -/
def spec_Ship.f (k : Nat) (l0 : List (S106)) (l1 : List (S109)) : Option ((List (S106)) × Int) := (spec_l15Each.f k l0 l1 true).bind fun bt209 => (some (bt209.1, bt209.2))
theorem spec_Ship.mono : ∀ a0 a1 k, LeO (spec_Ship.f k a0 a1) (spec_Ship.f (k + 1) a0 a1) := by
 intro a0 a1 k
 unfold spec_Ship.f
 repeat' first
   | (with_reducible exact spec_l15Each.mono _ _ _ _)
   | (with_reducible exact LeO.refl _)
   | (with_reducible exact LeO.none _)
   | (with_reducible refine LeO.ite ?_ ?_)
   | (with_reducible refine LeO.bind ?_ (fun _ => ?_))
   | exact spec_l15Each.mono _ _ _ _
   | exact LeO.none _
   | refine LeO.ite ?_ ?_
   | refine LeO.bind ?_ (fun _ => ?_)
set_option maxHeartbeats 8000000 in
set_option maxRecDepth 100000 in
theorem spec_Ship.calls (k : Nat) (A0 : Option Addr) (c0 : Nat) (l0 : List (S106)) (A1 : Option Addr) (c1 : Nat) (l1 : List (S109)) (r1 : List (S106)) (r2 : Int) (w : World) (hr0 : Kd.C k106 w A0 l0.length l0) (hc0 : l0.length ≤ c0) (hr1 : Kd.C k109 w A1 l1.length l1) (hc1 : l1.length ≤ c1) (h : spec_Ship.f k l0 l1 = some (r1, r2)) :
  Calls Try.prog 31 #[.slice A0 l0.length c0, .slice A1 l1.length c1] w fun e w' => ∃ v0_ : Value, e = .returned (.tuple #[v0_, .int .i64 r2]) ∧ Kd.R k106 106 w' w.heap.size (fun _ => True) v0_ r1 ∧ Below w.heap.size w w' := by
 have HR0 := Aside0.mk hr0
 have HC0 := Aside0.mk hc0
 clear hr0 hc0
 have HR1 := Aside0.mk hr1
 have HC1 := Aside0.mk hc1
 clear hr1 hc1
 have HB := Aside0.mk (Below.refl w.heap.size w)
 have H : ((spec_l15Each.f k l0 l1 true).bind fun bt209 => (some (bt209.1, bt209.2))) = some (r1, r2) := h
 clear h
 replace H := Option.bind_eq_some_iff.mp H
 obtain ⟨⟨t209, t210⟩, A30, H⟩ := H
 replace H : (some (t209, t210)) = some (r1, r2) := H
 have A3 := Aside0.mk A30
 clear A30
 simp only [Option.some.injEq, Prod.mk.injEq] at H
 obtain ⟨rfl, rfl⟩ := H
 go_enter Try.func31, Try.ntmps31
 go_wp2_with (first | ((with_reducible refine qn0 (f := 71) rfl ?_); refine qu0 (some 8) rfl rfl Try.func71 (by kernel_rfl) rfl #[.slice A0 l0.length c0, .slice A1 l1.length c1, .bool true] rfl (by (try simp only [List.map_toArray, List.map_cons, List.map_nil]); first | done | rfl | (simp only [List.length_drop, List.length_take]; rfl)) ?_; (with_reducible refine (spec_l15Each.calls k _ _ l0 _ _ l1 true t209 t210 _ ?side1 ?side2 ?side3 ?side4 A3.out).mono ?_); (case side1 => repeat (first | exact HR0.out | (with_reducible refine Kd.qw0 ?_ _) | (with_reducible refine Kd.qv0 ?_ _) | (with_reducible refine Kd.qy0 ?_))); (case side2 => exact HC0.out); (case side3 => repeat (first | exact HR1.out | (with_reducible refine Kd.qw0 ?_ _) | (with_reducible refine Kd.qv0 ?_ _) | (with_reducible refine Kd.qy0 ?_))); (case side4 => exact HC1.out); rintro e w4 ⟨v211, rfl, ho0, hb⟩; refine ⟨_, rfl, ?_⟩; have n0_ := Aside0.mk (Kd.qi1 ho0 (qh0 (by repeat (first | (with_reducible first | exact HB.out | apply qc0 | apply qa0 | apply qb0) | exact HB.out)))); have n1_ := Aside0.mk (qf0 (by repeat (first | (with_reducible first | exact HB.out | apply qc0 | apply qa0 | apply qb0) | exact HB.out)) hb); clear HB; have HO212 := n0_; have HB := n1_; clear n0_ n1_; (try clear hb); (try clear hb2); (try clear hk); (try clear hi); (try clear ho0)))
 go_ret2
 exact ⟨_, by first | rfl | (simp [errW_none, errW_some] <;> rfl) | (simp [*, errW_none, errW_some] <;> rfl), by (with_reducible repeat (first | apply Kd.qm0 | apply Kd.ql0 | apply Kd.qo0)); exact HO212.out, by repeat (first | (with_reducible first | exact HB.out | apply qc0 | apply qa0 | apply qb0) | exact HB.out)⟩

/-! ### impl_between: function 54 -/
def impl_between.f (a0 : Int) (a1 : Int) (a2 : Int) : Option (Bool) := if a0 ≥ a1 then (some (decide (a0 ≤ a2))) else (some false)
set_option maxHeartbeats 8000000 in
set_option maxRecDepth 100000 in
theorem impl_between.calls (a0 : Int) (a1 : Int) (a2 : Int) (r : Bool) (w : World) (h : impl_between.f a0 a1 a2 = some r) :
  Calls Try.prog 54 #[.int .i64 a0, .int .i64 a1, .int .i64 a2] w fun e w' => e = .returned (.bool r) ∧ Drawn0 w w' := by
 have H : (if a0 ≥ a1 then (some (decide (a0 ≤ a2))) else (some false)) = some r := h
 clear h
 by_cases c4 : a0 ≥ a1
 ·rw [if_pos c4] at H
  have c4b0 : decide (a1 ≤ a0) = true := decide_eq_true c4
  clear c4
  obtain rfl := Option.some.inj H
  go_enter Try.func54, Try.ntmps54
  go_wp2
  go_ret
  exact ⟨by first | rfl | (simp; done) | (simp [*]; done), by repeat (first | exact Drawn0.refl _ | apply Drawn0.step)⟩
 rw [if_neg c4] at H
 have c4b0 : decide (a1 ≤ a0) = false := decide_eq_false c4
 clear c4
 obtain rfl := Option.some.inj H
 go_enter Try.func54, Try.ntmps54
 go_wp2
 go_ret
 exact ⟨by first | rfl | (simp; done) | (simp [*]; done), by repeat (first | exact Drawn0.refl _ | apply Drawn0.step)⟩

/-! ### impl_isDay: function 53 -/
def impl_isDay.f (a0 : Int) : Option (Bool) := (impl_between.f a0 0 40000).bind fun t213 => (some t213)
set_option maxHeartbeats 8000000 in
set_option maxRecDepth 100000 in
theorem impl_isDay.calls (a0 : Int) (r : Bool) (w : World) (h : impl_isDay.f a0 = some r) :
  Calls Try.prog 53 #[.int .i64 a0] w fun e w' => e = .returned (.bool r) ∧ Drawn0 w w' := by
 have H : ((impl_between.f a0 0 40000).bind fun t213 => (some t213)) = some r := h
 clear h
 replace H := Option.bind_eq_some_iff.mp H
 obtain ⟨t213, A20, H⟩ := H
 replace H : (some t213) = some r := H
 have A2 := Aside0.mk A20
 clear A20
 obtain rfl := Option.some.inj H
 go_enter Try.func53, Try.ntmps53
 go_wp2_with (first | ((with_reducible refine qn0 (f := 54) rfl ?_); refine qu0 (some 4) rfl rfl Try.func54 (by kernel_rfl) rfl #[.int .i64 a0, .int .i64 0, .int .i64 40000] rfl (by (try simp only [List.map_toArray, List.map_cons, List.map_nil]); first | done | rfl | (simp only [List.length_drop, List.length_take]; rfl)) ?_; (with_reducible refine (impl_between.calls a0 0 40000 t213 _ A2.out).mono ?_); rintro e w' ⟨rfl, ⟨nd, rfl⟩⟩; refine ⟨_, rfl, ?_⟩))
 go_ret
 exact ⟨by first | rfl | (simp; done) | (simp [*]; done), by repeat (first | exact Drawn0.refl _ | apply Drawn0.step)⟩

/-! ### impl_quantity: function 65 -/
def impl_quantity.f (a0 : Int) : Option (Bool) := (impl_between.f a0 0 1000000).bind fun t214 => (some t214)
set_option maxHeartbeats 8000000 in
set_option maxRecDepth 100000 in
theorem impl_quantity.calls (a0 : Int) (r : Bool) (w : World) (h : impl_quantity.f a0 = some r) :
  Calls Try.prog 65 #[.int .i64 a0] w fun e w' => e = .returned (.bool r) ∧ Drawn0 w w' := by
 have H : ((impl_between.f a0 0 1000000).bind fun t214 => (some t214)) = some r := h
 clear h
 replace H := Option.bind_eq_some_iff.mp H
 obtain ⟨t214, A20, H⟩ := H
 replace H : (some t214) = some r := H
 have A2 := Aside0.mk A20
 clear A20
 obtain rfl := Option.some.inj H
 go_enter Try.func65, Try.ntmps65
 go_wp2_with (first | ((with_reducible refine qn0 (f := 54) rfl ?_); refine qu0 (some 4) rfl rfl Try.func54 (by kernel_rfl) rfl #[.int .i64 a0, .int .i64 0, .int .i64 1000000] rfl (by (try simp only [List.map_toArray, List.map_cons, List.map_nil]); first | done | rfl | (simp only [List.length_drop, List.length_take]; rfl)) ?_; (with_reducible refine (impl_between.calls a0 0 1000000 t214 _ A2.out).mono ?_); rintro e w' ⟨rfl, ⟨nd, rfl⟩⟩; refine ⟨_, rfl, ?_⟩))
 go_ret
 exact ⟨by first | rfl | (simp; done) | (simp [*]; done), by repeat (first | exact Drawn0.refl _ | apply Drawn0.step)⟩

end Go.Proofs.Ytdnenglafphkbaa.PFnExactShip
