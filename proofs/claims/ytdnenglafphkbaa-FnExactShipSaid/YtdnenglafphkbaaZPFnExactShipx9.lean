/- Lines by a program (a changed copy of the kit's print: this repo's wip/tools): Go functions as Lean functions, and proofs that the calls answer so. -/
import Derived.Test.YtdnenglafphkbaaZPFnExactShipx0
import Derived.Test.YtdnenglafphkbaaZPFnExactShipx7
import Derived.Test.YtdnenglafphkbaaZPFnExactShipx8
namespace Go.Proofs.Ytdnenglafphkbaa.PFnExactShip
open Go.RowKit Go.Proofs.YtdnenglafphkbaaW.PrintWords Go.Proofs.YtdnenglafphkbaaW.PrintLast Go.Proofs.YtdnenglafphkbaaW.PrintMore
attribute [local go_sem] max2_int min2_int max_two min_two max_three min_three max_four min_four   -- for this text's walks alone
set_option linter.unusedVariables false
set_option linter.unusedSimpArgs false

/-! ### impl_StockOk: function 107 -/
def impl_StockOk.l0 : Nat → List (S164 × Bool) → List (S106) → Int → Int → Option (Bool)
 | 0, _, _, _, _ => none
 | k + 1, x3, x10, x11, x12 => if x12 < x11 then (if 0 ≤ x12 then (if x12 < (x10.length : Int) then ((impl_cellOk.f k ((rd_T106 x10 x12).f0) ((rd_T106 x10 x12).f1) ((rd_T106 x10 x12).f2) ((rd_T106 x10 x12).f3) ((rd_T106 x10 x12).f4) ((rd_T106 x10 x12).f5)).bind fun t234 => (if t234 = true then ((impl_Cell_where.f ((rd_T106 x10 x12).f0) ((rd_T106 x10 x12).f1) ((rd_T106 x10 x12).f2) ((rd_T106 x10 x12).f3) ((rd_T106 x10 x12).f4) ((rd_T106 x10 x12).f5)).bind fun bt235 => (if bt235.1.size ≤ 9223372036854775807 then (if bt235.2.1.size ≤ 9223372036854775807 then (if bt235.2.2.size ≤ 9223372036854775807 then (if (mget x3 (⟨bt235.1, bt235.2.1, bt235.2.2⟩ : S164)).getD false = true then (some false) else ((impl_Cell_where.f ((rd_T106 x10 x12).f0) ((rd_T106 x10 x12).f1) ((rd_T106 x10 x12).f2) ((rd_T106 x10 x12).f3) ((rd_T106 x10 x12).f4) ((rd_T106 x10 x12).f5)).bind fun bt238 => (if bt238.1.size ≤ 9223372036854775807 then (if bt238.2.1.size ≤ 9223372036854775807 then (if bt238.2.2.size ≤ 9223372036854775807 then (impl_StockOk.l0 k (mset x3 (⟨bt238.1, bt238.2.1, bt238.2.2⟩ : S164) true) x10 x11 (wrap64 (x12 + 1))) else (none)) else (none)) else (none)))) else (none)) else (none)) else (none))) else (some false))) else (none)) else (none)) else (some true)
def impl_StockOk.f (k : Nat) (l0 : List (S106)) : Option (Bool) := if (l0.length : Int) > 100 then (some false) else (impl_StockOk.l0 k (([] : List (S164 × Bool))) l0 (l0.length : Int) 0)
theorem impl_StockOk.mono_l : ∀ k, (∀ y0 y1 y2 y3, LeO (impl_StockOk.l0 k y0 y1 y2 y3) (impl_StockOk.l0 (k + 1) y0 y1 y2 y3))
 | 0 => fun _ _ _ _ r h => by simp [impl_StockOk.l0] at h
 | k + 1 => by
  have ih0 := impl_StockOk.mono_l k
  ·intro y0 y1 y2 y3
   unfold impl_StockOk.l0
   repeat' first
   | (with_reducible exact ih0 _ _ _ _)
   | (with_reducible exact impl_cellOk.mono _ _ _ _ _ _ _)
   | (with_reducible exact LeO.refl _)
   | (with_reducible exact LeO.none _)
   | (with_reducible refine LeO.ite ?_ ?_)
   | (with_reducible refine LeO.bind ?_ (fun _ => ?_))
   | exact ih0 _ _ _ _
   | exact impl_cellOk.mono _ _ _ _ _ _ _
   | exact LeO.none _
   | refine LeO.ite ?_ ?_
   | refine LeO.bind ?_ (fun _ => ?_)
theorem impl_StockOk.mono : ∀ a0 k, LeO (impl_StockOk.f k a0) (impl_StockOk.f (k + 1) a0) := by
 intro a0 k
 have ih0 := impl_StockOk.mono_l k
 unfold impl_StockOk.f
 repeat' first
   | (with_reducible exact ih0 _ _ _ _)
   | (with_reducible exact impl_cellOk.mono _ _ _ _ _ _ _)
   | (with_reducible exact LeO.refl _)
   | (with_reducible exact LeO.none _)
   | (with_reducible refine LeO.ite ?_ ?_)
   | (with_reducible refine LeO.bind ?_ (fun _ => ?_))
   | exact ih0 _ _ _ _
   | exact impl_cellOk.mono _ _ _ _ _ _ _
   | exact LeO.none _
   | refine LeO.ite ?_ ?_
   | refine LeO.bind ?_ (fun _ => ?_)
set_option maxHeartbeats 8000000 in
set_option maxRecDepth 100000 in
theorem impl_StockOk.calls (k : Nat) (A0 : Option Addr) (c0 : Nat) (l0 : List (S106)) (r : Bool) (w : World) (hr0 : Kd.C k106 w A0 l0.length l0) (hc0 : l0.length ≤ c0) (h : impl_StockOk.f k l0 = some r) :
  Calls Try.prog 107 #[.slice A0 l0.length c0] w fun e w' => e = .returned (.bool r) ∧ Below w.heap.size w w' := by
 have hu106 := Try.underlying106
 have HR0 := Aside0.mk hr0
 have HC0 := Aside0.mk hc0
 clear hr0 hc0
 have HB := Aside0.mk (Below.refl w.heap.size w)
 have H : (if (l0.length : Int) > 100 then (some false) else (impl_StockOk.l0 k (([] : List (S164 × Bool))) l0 (l0.length : Int) 0)) = some r := h
 clear h
 by_cases c2 : (l0.length : Int) > 100
 ·rw [if_pos c2] at H
  have c2b0 : decide (100 < (l0.length : Int)) = true := decide_eq_true c2
  have c2b1 : decide (100 < l0.length) = true := decide_eq_true (by omega)
  clear c2
  obtain rfl := Option.some.inj H
  go_enter Try.func107, Try.ntmps107
  go_wp2
  go_ret
  exact ⟨by first | rfl | (simp [errW_none, errW_some] <;> rfl) | (simp [*, errW_none, errW_some] <;> rfl), by repeat (first | (with_reducible first | exact HB.out | apply qc0 | apply qa0 | apply qb0) | exact HB.out)⟩
 rw [if_neg c2] at H
 have c2b0 : decide (100 < (l0.length : Int)) = false := decide_eq_false c2
 have c2b1 : decide (100 < l0.length) = false := decide_eq_false (by omega)
 clear c2
 obtain ⟨y228, hy228⟩ : ∃ y_ : List (S164 × Bool), y_ = (([] : List (S164 × Bool))) := ⟨_, rfl⟩
 replace H : (impl_StockOk.l0 k y228 l0 (l0.length : Int) 0) = some r := by first | (rw [hy228]; with_reducible exact H) | (have H2_ := (Option.bind_some _ _).symm.trans H; rw [hy228]; with_reducible exact H2_) | (have H2_ := (Option.bind_some _ _).symm.trans H; with_reducible exact H2_) | with_reducible exact H | (rw [hy228]; exact H) | exact H
 have Ny228 := Aside0.mk hy228
 clear hy228
 have H' := Aside0.mk H
 clear H
 go_enter Try.func107, Try.ntmps107
 go_wp2_with (first | ((with_reducible refine qt0 (N := 9) rfl ?_); (try (refine gate_guard (by rfl) ?_; dsimp only)); refine Kd.Z_make_op kz162 162 (ok := fun _ => True) rfl (N := 9) rfl rfl trivial ?_; intro mb231 hq_ w3 ho4 hb; rw [← Ny228.out] at ho4; have n0_ := Aside0.mk (qf0 (by repeat (first | (with_reducible first | exact HB.out | apply qc0 | apply qa0 | apply qb0) | exact HB.out)) hb); have n1_ := Aside0.mk (Kd.Z_lower ho4 (qh0 (by repeat (first | (with_reducible first | exact HB.out | apply qc0 | apply qa0 | apply qb0) | exact HB.out)))); clear HB; have HB := n0_; have HO230 := n1_; clear n0_ n1_; clear hb ho4 hq_))
 go_loopg [12] k (fun kq v12 w' => ∃ (x3_1 : List (S164 × Bool)) (x12_1 : Int), v12 = .int .i64 x12_1 ∧ Aside0 (impl_StockOk.l0 kq x3_1 l0 (l0.length : Int) x12_1 = some r) ∧ Aside0 (kq ≤ k) ∧ Aside0 (Kd.Z kz162 162 w' w.heap.size (fun _ => True) (.map (some mb231)) x3_1) ∧ Aside0 (Below w.heap.size w w'))
 case atStart => exact ⟨(y228), (0), (by first | rfl | (simp; done) | (simp [*]; done)), H', ⟨Nat.le_refl _⟩, ⟨by (with_reducible repeat (first | apply Kd.Z_alloc | apply Kd.Z_drewN | apply Kd.Z_drew)); exact HO230.out⟩, ⟨by repeat (first | (with_reducible first | exact HB.out | apply qc0 | apply qa0 | apply qb0) | exact HB.out)⟩⟩
 case round =>
  clear H'
  try clear c1
  try clear c2
  try clear c2b0
  try clear c2b1
  try clear p2
  obtain ⟨x3_1, x12_1, rfl, HA, HK1, HO_3, HB⟩ := hrel
  cases gk with
  | zero => exact absurd HA.out (by simp [impl_StockOk.l0])
  | succ k1 =>
   have H := HA.out
   clear HA
   simp only [impl_StockOk.l0] at H
   by_cases c5 : x12_1 < (l0.length : Int)
   ·rw [if_pos c5] at H
    have c5b0 : decide (x12_1 < (l0.length : Int)) = true := decide_eq_true c5
    clear c5
    by_cases c6 : 0 ≤ x12_1
    case neg => rw [if_neg c6] at H; exact absurd H (by simp)
    rw [if_pos c6] at H
    have c6b0 : decide (0 ≤ x12_1) = true := decide_eq_true c6
    clear c6
    by_cases c7 : x12_1 < (l0.length : Int)
    case neg => rw [if_neg c7] at H; exact absurd H (by simp)
    rw [if_pos c7] at H
    have c7b0 : decide (x12_1 < (l0.length : Int)) = true := decide_eq_true c7
    clear c7
    replace H := Option.bind_eq_some_iff.mp H
    obtain ⟨t234, A80, H⟩ := H
    replace H : (if t234 = true then ((impl_Cell_where.f ((rd_T106 l0 x12_1).f0) ((rd_T106 l0 x12_1).f1) ((rd_T106 l0 x12_1).f2) ((rd_T106 l0 x12_1).f3) ((rd_T106 l0 x12_1).f4) ((rd_T106 l0 x12_1).f5)).bind fun bt235 => (if bt235.1.size ≤ 9223372036854775807 then (if bt235.2.1.size ≤ 9223372036854775807 then (if bt235.2.2.size ≤ 9223372036854775807 then (if (mget x3_1 (⟨bt235.1, bt235.2.1, bt235.2.2⟩ : S164)).getD false = true then (some false) else ((impl_Cell_where.f ((rd_T106 l0 x12_1).f0) ((rd_T106 l0 x12_1).f1) ((rd_T106 l0 x12_1).f2) ((rd_T106 l0 x12_1).f3) ((rd_T106 l0 x12_1).f4) ((rd_T106 l0 x12_1).f5)).bind fun bt238 => (if bt238.1.size ≤ 9223372036854775807 then (if bt238.2.1.size ≤ 9223372036854775807 then (if bt238.2.2.size ≤ 9223372036854775807 then (impl_StockOk.l0 k1 (mset x3_1 (⟨bt238.1, bt238.2.1, bt238.2.2⟩ : S164) true) l0 (l0.length : Int) (wrap64 (x12_1 + 1))) else (none)) else (none)) else (none)))) else (none)) else (none)) else (none))) else (some false)) = some r := H
    have A8 := Aside0.mk A80
    clear A80
    by_cases c9 : t234 = true
    ·subst c9
     have H1 : ((impl_Cell_where.f ((rd_T106 l0 x12_1).f0) ((rd_T106 l0 x12_1).f1) ((rd_T106 l0 x12_1).f2) ((rd_T106 l0 x12_1).f3) ((rd_T106 l0 x12_1).f4) ((rd_T106 l0 x12_1).f5)).bind fun bt235 => (if bt235.1.size ≤ 9223372036854775807 then (if bt235.2.1.size ≤ 9223372036854775807 then (if bt235.2.2.size ≤ 9223372036854775807 then (if (mget x3_1 (⟨bt235.1, bt235.2.1, bt235.2.2⟩ : S164)).getD false = true then (some false) else ((impl_Cell_where.f ((rd_T106 l0 x12_1).f0) ((rd_T106 l0 x12_1).f1) ((rd_T106 l0 x12_1).f2) ((rd_T106 l0 x12_1).f3) ((rd_T106 l0 x12_1).f4) ((rd_T106 l0 x12_1).f5)).bind fun bt238 => (if bt238.1.size ≤ 9223372036854775807 then (if bt238.2.1.size ≤ 9223372036854775807 then (if bt238.2.2.size ≤ 9223372036854775807 then (impl_StockOk.l0 k1 (mset x3_1 (⟨bt238.1, bt238.2.1, bt238.2.2⟩ : S164) true) l0 (l0.length : Int) (wrap64 (x12_1 + 1))) else (none)) else (none)) else (none)))) else (none)) else (none)) else (none))) = some r := by rw [if_pos rfl] at H; exact H
     clear H
     have H := H1
     clear H1
     replace H := Option.bind_eq_some_iff.mp H
     obtain ⟨⟨t235, t236, t237⟩, A100, H⟩ := H
     replace H : (if t235.size ≤ 9223372036854775807 then (if t236.size ≤ 9223372036854775807 then (if t237.size ≤ 9223372036854775807 then (if (mget x3_1 (⟨t235, t236, t237⟩ : S164)).getD false = true then (some false) else ((impl_Cell_where.f ((rd_T106 l0 x12_1).f0) ((rd_T106 l0 x12_1).f1) ((rd_T106 l0 x12_1).f2) ((rd_T106 l0 x12_1).f3) ((rd_T106 l0 x12_1).f4) ((rd_T106 l0 x12_1).f5)).bind fun bt238 => (if bt238.1.size ≤ 9223372036854775807 then (if bt238.2.1.size ≤ 9223372036854775807 then (if bt238.2.2.size ≤ 9223372036854775807 then (impl_StockOk.l0 k1 (mset x3_1 (⟨bt238.1, bt238.2.1, bt238.2.2⟩ : S164) true) l0 (l0.length : Int) (wrap64 (x12_1 + 1))) else (none)) else (none)) else (none)))) else (none)) else (none)) else (none)) = some r := H
     have A10 := Aside0.mk A100
     clear A100
     by_cases c11 : t235.size ≤ 9223372036854775807
     case neg => rw [if_neg c11] at H; exact absurd H (by simp)
     rw [if_pos c11] at H
     have LMc11 := Aside0.mk c11
     clear c11
     by_cases c12 : t236.size ≤ 9223372036854775807
     case neg => rw [if_neg c12] at H; exact absurd H (by simp)
     rw [if_pos c12] at H
     have LMc12 := Aside0.mk c12
     clear c12
     by_cases c13 : t237.size ≤ 9223372036854775807
     case neg => rw [if_neg c13] at H; exact absurd H (by simp)
     rw [if_pos c13] at H
     have LMc13 := Aside0.mk c13
     clear c13
     by_cases c14 : (mget x3_1 (⟨t235, t236, t237⟩ : S164)).getD false = true
     ·rw [if_pos c14] at H
      have c14b0 : (mget x3_1 (⟨t235, t236, t237⟩ : S164)).getD false = true := c14
      clear c14
      obtain rfl := Option.some.inj H
      have p232 : 0 ≤ (x12_1 : Int) := of_decide_eq_true (by first | (with_reducible assumption) | assumption)
      have q232 : x12_1 < (l0.length : Int) := of_decide_eq_true (by first | (with_reducible assumption) | assumption)
      obtain ⟨ad232, e232, hx232_0, hx232_1, hx232_2, hx232_3, hx232_4, hx232_5⟩ := at_T106 HR0.out x12_1 p232 q232
      cases e232
      replace hx232_0 := (HB.out.cell (World.block_lt_of_cell? w _ hx232_0)).trans hx232_0
      replace hx232_1 := (HB.out.cell (World.block_lt_of_cell? w _ hx232_1)).trans hx232_1
      replace hx232_2 := (HB.out.cell (World.block_lt_of_cell? w _ hx232_2)).trans hx232_2
      replace hx232_3 := (HB.out.cell (World.block_lt_of_cell? w _ hx232_3)).trans hx232_3
      replace hx232_4 := (HB.out.cell (World.block_lt_of_cell? w _ hx232_4)).trans hx232_4
      replace hx232_5 := (HB.out.cell (World.block_lt_of_cell? w _ hx232_5)).trans hx232_5
      replace p232 := eq_true p232
      replace q232 := eq_true q232
      go_wp2_with (first | ((with_reducible refine qt0 (N := 5) rfl ?_); (try (refine gate_guard (by rfl) ?_; dsimp only)); refine qs0 ?hg (N := 5) ?hd (cs := #[.string (⟨#[]⟩ : ByteArray), .string (⟨#[]⟩ : ByteArray), .string (⟨#[]⟩ : ByteArray), .int .i64 0, .int .i64 0, .int .i64 0]) (t := 106) ?hr ?_; (case hd => rfl); (case hg => rfl); (case hr => first | (go_simp; done) | (go_simp; rfl)); intro gb233 hg w15 hbox hb; have n0_ := Aside0.mk (Kd.Z_below (by (with_reducible repeat (first | apply Kd.Z_alloc | apply Kd.Z_drewN | apply Kd.Z_drew)); exact HO_3.out) hb); have n1_ := Aside0.mk (qf0 (by repeat (first | (with_reducible first | exact HB.out | apply qc0 | apply qa0 | apply qb0) | exact HB.out)) hb); have n2_ := Aside0.mk (hbox); have n3_ := Aside0.mk ((by rw [hg]; exact (qh0 (by repeat (first | (with_reducible first | exact HB.out | apply qc0 | apply qa0 | apply qb0) | exact HB.out))) : w.heap.size ≤ gb233)); have n4_ := Aside0.mk ((by rw [hg]; exact (qh0 (by repeat (first | (with_reducible first | exact HB.out | apply qc0 | apply qa0 | apply qb0) | exact HB.out))) : w.heap.size ≤ gb233)); clear HO_3; clear HB; have HO_3 := n0_; have HB := n1_; have BK233 := n2_; have GW233 := n3_; have GE233 := n4_; clear n0_ n1_ n2_ n3_ n4_; clear hb hbox hg; have hcz16_0 : w15.cell? ⟨gb233, 0, none⟩ = some (.string (⟨#[]⟩ : ByteArray)) := (qe0 BK233.out 0).trans rfl; have hcz16_1 : w15.cell? ⟨gb233, 1, none⟩ = some (.string (⟨#[]⟩ : ByteArray)) := (qe0 BK233.out 1).trans rfl; have hcz16_2 : w15.cell? ⟨gb233, 2, none⟩ = some (.string (⟨#[]⟩ : ByteArray)) := (qe0 BK233.out 2).trans rfl; have hcz16_3 : w15.cell? ⟨gb233, 3, none⟩ = some (.int .i64 0) := (qe0 BK233.out 3).trans rfl; have hcz16_4 : w15.cell? ⟨gb233, 4, none⟩ = some (.int .i64 0) := (qe0 BK233.out 4).trans rfl; have hcz16_5 : w15.cell? ⟨gb233, 5, none⟩ = some (.int .i64 0) := (qe0 BK233.out 5).trans rfl; have hfz16_0 := qd0 BK233.out 0; have hfz16_1 := qd0 BK233.out 1; have hfz16_2 := qd0 BK233.out 2; have hfz16_3 := qd0 BK233.out 3; have hfz16_4 := qd0 BK233.out 4; have hfz16_5 := qd0 BK233.out 5) | ((with_reducible refine qn0 (f := 127) rfl ?_); refine qu0 (some 17) rfl rfl Try.func127 (by kernel_rfl) rfl #[.agg #[.string ((rd_T106 l0 x12_1).f0), .string ((rd_T106 l0 x12_1).f1), .string ((rd_T106 l0 x12_1).f2), .int .i64 ((rd_T106 l0 x12_1).f3), .int .i64 ((rd_T106 l0 x12_1).f4), .int .i64 ((rd_T106 l0 x12_1).f5)]] rfl (by (try simp only [List.map_toArray, List.map_cons, List.map_nil]); first | done | rfl | (simp only [List.length_drop, List.length_take]; rfl)) ?_; (with_reducible refine (impl_cellOk.calls k1 ((rd_T106 l0 x12_1).f0) ((rd_T106 l0 x12_1).f1) ((rd_T106 l0 x12_1).f2) ((rd_T106 l0 x12_1).f3) ((rd_T106 l0 x12_1).f4) ((rd_T106 l0 x12_1).f5) true _ A8.out).mono ?_); rintro e w17 ⟨rfl, hb⟩; refine ⟨_, rfl, ?_⟩; have n0_ := Aside0.mk (Kd.Z_below (by (with_reducible repeat (first | apply Kd.Z_alloc | apply Kd.Z_drewN | apply Kd.Z_drew)); exact (Kd.Z_mono (Kd.Z_far (p := ⟨gb233, 5, none⟩) (Kd.Z_far (p := ⟨gb233, 4, none⟩) (Kd.Z_far (p := ⟨gb233, 3, none⟩) (Kd.Z_far (p := ⟨gb233, 2, none⟩) (Kd.Z_far (p := ⟨gb233, 1, none⟩) (Kd.Z_far (p := ⟨gb233, 0, none⟩) (Kd.Z_types HO_3.out BK233.out (by decide)) (fun _ hk => hk.2) (.string ((rd_T106 l0 x12_1).f0))) (fun _ hk => hk.2) (.string ((rd_T106 l0 x12_1).f1))) (fun _ hk => hk.2) (.string ((rd_T106 l0 x12_1).f2))) (fun _ hk => hk.2) (.int .i64 ((rd_T106 l0 x12_1).f3))) (fun _ hk => hk.2) (.int .i64 ((rd_T106 l0 x12_1).f4))) (fun _ hk => hk.2) (.int .i64 ((rd_T106 l0 x12_1).f5))) (fun _ h_ => h_.1))) hb); have n1_ := Aside0.mk (qb1 (g := gb233) (o := .cells #[.string ((rd_T106 l0 x12_1).f0), .string ((rd_T106 l0 x12_1).f1), .string ((rd_T106 l0 x12_1).f2), .int .i64 ((rd_T106 l0 x12_1).f3), .int .i64 ((rd_T106 l0 x12_1).f4), .int .i64 ((rd_T106 l0 x12_1).f5)] 106 (0, 0)) (by (with_reducible repeat (first | refine qi0 ?_ _ | refine qk0 ?_ | refine qj0 ?_ _)); refine qx0 (cs := #[.string ((rd_T106 l0 x12_1).f0), .string ((rd_T106 l0 x12_1).f1), .string ((rd_T106 l0 x12_1).f2), .int .i64 ((rd_T106 l0 x12_1).f3), .int .i64 ((rd_T106 l0 x12_1).f4), .int .i64 0]) ?_ 5 _ rfl; (with_reducible repeat (first | refine qi0 ?_ _ | refine qk0 ?_ | refine qj0 ?_ _)); refine qx0 (cs := #[.string ((rd_T106 l0 x12_1).f0), .string ((rd_T106 l0 x12_1).f1), .string ((rd_T106 l0 x12_1).f2), .int .i64 ((rd_T106 l0 x12_1).f3), .int .i64 0, .int .i64 0]) ?_ 4 _ rfl; (with_reducible repeat (first | refine qi0 ?_ _ | refine qk0 ?_ | refine qj0 ?_ _)); refine qx0 (cs := #[.string ((rd_T106 l0 x12_1).f0), .string ((rd_T106 l0 x12_1).f1), .string ((rd_T106 l0 x12_1).f2), .int .i64 0, .int .i64 0, .int .i64 0]) ?_ 3 _ rfl; (with_reducible repeat (first | refine qi0 ?_ _ | refine qk0 ?_ | refine qj0 ?_ _)); refine qx0 (cs := #[.string ((rd_T106 l0 x12_1).f0), .string ((rd_T106 l0 x12_1).f1), .string (⟨#[]⟩ : ByteArray), .int .i64 0, .int .i64 0, .int .i64 0]) ?_ 2 _ rfl; (with_reducible repeat (first | refine qi0 ?_ _ | refine qk0 ?_ | refine qj0 ?_ _)); refine qx0 (cs := #[.string ((rd_T106 l0 x12_1).f0), .string (⟨#[]⟩ : ByteArray), .string (⟨#[]⟩ : ByteArray), .int .i64 0, .int .i64 0, .int .i64 0]) ?_ 1 _ rfl; (with_reducible repeat (first | refine qi0 ?_ _ | refine qk0 ?_ | refine qj0 ?_ _)); refine qx0 (cs := #[.string (⟨#[]⟩ : ByteArray), .string (⟨#[]⟩ : ByteArray), .string (⟨#[]⟩ : ByteArray), .int .i64 0, .int .i64 0, .int .i64 0]) ?_ 0 _ rfl; (with_reducible repeat (first | refine qi0 ?_ _ | refine qk0 ?_ | refine qj0 ?_ _)); exact BK233.out) hb); have n2_ := Aside0.mk (qf0 (by repeat (first | (with_reducible first | exact HB.out | apply qc0 | apply qa0 | apply qb0 | refine qg0 ?_ GE233.out) | exact HB.out)) hb); clear HO_3; clear BK233; clear HB; have HO_3 := n0_; have BK233 := n1_; have HB := n2_; clear n0_ n1_ n2_; (try clear hb); (try clear hb2); (try clear hk); (try clear hi); have hcz18_0 : w17.cell? ⟨gb233, 0, none⟩ = some (.string ((rd_T106 l0 x12_1).f0)) := (qe0 BK233.out 0).trans rfl; have hcz18_1 : w17.cell? ⟨gb233, 1, none⟩ = some (.string ((rd_T106 l0 x12_1).f1)) := (qe0 BK233.out 1).trans rfl; have hcz18_2 : w17.cell? ⟨gb233, 2, none⟩ = some (.string ((rd_T106 l0 x12_1).f2)) := (qe0 BK233.out 2).trans rfl; have hcz18_3 : w17.cell? ⟨gb233, 3, none⟩ = some (.int .i64 ((rd_T106 l0 x12_1).f3)) := (qe0 BK233.out 3).trans rfl; have hcz18_4 : w17.cell? ⟨gb233, 4, none⟩ = some (.int .i64 ((rd_T106 l0 x12_1).f4)) := (qe0 BK233.out 4).trans rfl; have hcz18_5 : w17.cell? ⟨gb233, 5, none⟩ = some (.int .i64 ((rd_T106 l0 x12_1).f5)) := (qe0 BK233.out 5).trans rfl; have hfz18_0 := qd0 BK233.out 0; have hfz18_1 := qd0 BK233.out 1; have hfz18_2 := qd0 BK233.out 2; have hfz18_3 := qd0 BK233.out 3; have hfz18_4 := qd0 BK233.out 4; have hfz18_5 := qd0 BK233.out 5) | (go_at_call 128; (with_reducible refine (impl_Cell_where.calls ((rd_T106 l0 x12_1).f0) ((rd_T106 l0 x12_1).f1) ((rd_T106 l0 x12_1).f2) ((rd_T106 l0 x12_1).f3) ((rd_T106 l0 x12_1).f4) ((rd_T106 l0 x12_1).f5) t235 t236 t237 _ A10.out).mono ?_); rintro e w19 ⟨rfl, hb⟩; have n0_ := Aside0.mk (Kd.Z_below (by (with_reducible repeat (first | apply Kd.Z_alloc | apply Kd.Z_drewN | apply Kd.Z_drew)); exact HO_3.out) hb); have n1_ := Aside0.mk (qb1 (g := gb233) (o := .cells #[.string ((rd_T106 l0 x12_1).f0), .string ((rd_T106 l0 x12_1).f1), .string ((rd_T106 l0 x12_1).f2), .int .i64 ((rd_T106 l0 x12_1).f3), .int .i64 ((rd_T106 l0 x12_1).f4), .int .i64 ((rd_T106 l0 x12_1).f5)] 106 (0, 0)) (by (with_reducible repeat (first | refine qi0 ?_ _ | refine qk0 ?_ | refine qj0 ?_ _)); exact BK233.out) hb); have n2_ := Aside0.mk (qf0 (by repeat (first | (with_reducible first | exact HB.out | apply qc0 | apply qa0 | apply qb0 | refine qg0 ?_ GE233.out) | exact HB.out)) hb); clear HO_3; clear BK233; clear HB; have HO_3 := n0_; have BK233 := n1_; have HB := n2_; clear n0_ n1_ n2_; (try clear hb); (try clear hb2); (try clear hk); (try clear hi)) | ((with_reducible refine qt0 (N := 23) rfl ?_); (try (refine gate_guard (by rfl) ?_; dsimp only)); refine Kd.Z_look_op (base := w.heap.size) (ok := fun _ => True) kz162 162 rfl rfl _ _ 162 rfl kz162_K kz162_inj kz162_t false kz162_z mb231 x3_1 (⟨t235, t236, t237⟩ : S164) rfl rfl (kz162_key (⟨t235, t236, t237⟩ : S164) LMc11.out LMc12.out LMc13.out) ?aO (.bool ((mget x3_1 (⟨t235, t236, t237⟩ : S164)).getD false)) rfl ?_; (case aO => exact (by (with_reducible repeat (first | apply Kd.Z_alloc | apply Kd.Z_drewN | apply Kd.Z_drew)); exact HO_3.out))))
      go_ret
      exact ⟨by first | rfl | (simp [errW_none, errW_some] <;> rfl) | (simp [*, errW_none, errW_some] <;> rfl), by repeat (first | (with_reducible first | exact HB.out | apply qc0 | apply qa0 | apply qb0 | refine qg0 ?_ GE233.out) | exact HB.out)⟩
     rw [if_neg c14] at H
     have c14b0 : (mget x3_1 (⟨t235, t236, t237⟩ : S164)).getD false = false := by simpa using c14
     clear c14
     replace H := Option.bind_eq_some_iff.mp H
     obtain ⟨⟨t238, t239, t240⟩, A200, H⟩ := H
     replace H : (if t238.size ≤ 9223372036854775807 then (if t239.size ≤ 9223372036854775807 then (if t240.size ≤ 9223372036854775807 then (impl_StockOk.l0 k1 (mset x3_1 (⟨t238, t239, t240⟩ : S164) true) l0 (l0.length : Int) (wrap64 (x12_1 + 1))) else (none)) else (none)) else (none)) = some r := H
     have A20 := Aside0.mk A200
     clear A200
     by_cases c21 : t238.size ≤ 9223372036854775807
     case neg => rw [if_neg c21] at H; exact absurd H (by simp)
     rw [if_pos c21] at H
     have LMc21 := Aside0.mk c21
     clear c21
     by_cases c22 : t239.size ≤ 9223372036854775807
     case neg => rw [if_neg c22] at H; exact absurd H (by simp)
     rw [if_pos c22] at H
     have LMc22 := Aside0.mk c22
     clear c22
     by_cases c23 : t240.size ≤ 9223372036854775807
     case neg => rw [if_neg c23] at H; exact absurd H (by simp)
     rw [if_pos c23] at H
     have LMc23 := Aside0.mk c23
     clear c23
     obtain ⟨y241, hy241⟩ : ∃ y_ : List (S164 × Bool), y_ = (mset x3_1 (⟨t238, t239, t240⟩ : S164) true) := ⟨_, rfl⟩
     replace H : (impl_StockOk.l0 k1 y241 l0 (l0.length : Int) (wrap64 (x12_1 + 1))) = some r := by first | (rw [hy241]; with_reducible exact H) | (have H2_ := (Option.bind_some _ _).symm.trans H; rw [hy241]; with_reducible exact H2_) | (have H2_ := (Option.bind_some _ _).symm.trans H; with_reducible exact H2_) | with_reducible exact H | (rw [hy241]; exact H) | exact H
     have Ny241 := Aside0.mk hy241
     clear hy241
     have H' := Aside0.mk H
     clear H
     have p232 : 0 ≤ (x12_1 : Int) := of_decide_eq_true (by first | (with_reducible assumption) | assumption)
     have q232 : x12_1 < (l0.length : Int) := of_decide_eq_true (by first | (with_reducible assumption) | assumption)
     obtain ⟨ad232, e232, hx232_0, hx232_1, hx232_2, hx232_3, hx232_4, hx232_5⟩ := at_T106 HR0.out x12_1 p232 q232
     cases e232
     replace hx232_0 := (HB.out.cell (World.block_lt_of_cell? w _ hx232_0)).trans hx232_0
     replace hx232_1 := (HB.out.cell (World.block_lt_of_cell? w _ hx232_1)).trans hx232_1
     replace hx232_2 := (HB.out.cell (World.block_lt_of_cell? w _ hx232_2)).trans hx232_2
     replace hx232_3 := (HB.out.cell (World.block_lt_of_cell? w _ hx232_3)).trans hx232_3
     replace hx232_4 := (HB.out.cell (World.block_lt_of_cell? w _ hx232_4)).trans hx232_4
     replace hx232_5 := (HB.out.cell (World.block_lt_of_cell? w _ hx232_5)).trans hx232_5
     replace p232 := eq_true p232
     replace q232 := eq_true q232
     go_wp2_with (first | ((with_reducible refine qt0 (N := 5) rfl ?_); (try (refine gate_guard (by rfl) ?_; dsimp only)); refine qs0 ?hg (N := 5) ?hd (cs := #[.string (⟨#[]⟩ : ByteArray), .string (⟨#[]⟩ : ByteArray), .string (⟨#[]⟩ : ByteArray), .int .i64 0, .int .i64 0, .int .i64 0]) (t := 106) ?hr ?_; (case hd => rfl); (case hg => rfl); (case hr => first | (go_simp; done) | (go_simp; rfl)); intro gb233 hg w24 hbox hb; have n0_ := Aside0.mk (Kd.Z_below (by (with_reducible repeat (first | apply Kd.Z_alloc | apply Kd.Z_drewN | apply Kd.Z_drew)); exact HO_3.out) hb); have n1_ := Aside0.mk (qf0 (by repeat (first | (with_reducible first | exact HB.out | apply qc0 | apply qa0 | apply qb0) | exact HB.out)) hb); have n2_ := Aside0.mk (hbox); have n3_ := Aside0.mk ((by rw [hg]; exact (qh0 (by repeat (first | (with_reducible first | exact HB.out | apply qc0 | apply qa0 | apply qb0) | exact HB.out))) : w.heap.size ≤ gb233)); have n4_ := Aside0.mk ((by rw [hg]; exact (qh0 (by repeat (first | (with_reducible first | exact HB.out | apply qc0 | apply qa0 | apply qb0) | exact HB.out))) : w.heap.size ≤ gb233)); clear HO_3; clear HB; have HO_3 := n0_; have HB := n1_; have BK233 := n2_; have GW233 := n3_; have GE233 := n4_; clear n0_ n1_ n2_ n3_ n4_; clear hb hbox hg; have hcz25_0 : w24.cell? ⟨gb233, 0, none⟩ = some (.string (⟨#[]⟩ : ByteArray)) := (qe0 BK233.out 0).trans rfl; have hcz25_1 : w24.cell? ⟨gb233, 1, none⟩ = some (.string (⟨#[]⟩ : ByteArray)) := (qe0 BK233.out 1).trans rfl; have hcz25_2 : w24.cell? ⟨gb233, 2, none⟩ = some (.string (⟨#[]⟩ : ByteArray)) := (qe0 BK233.out 2).trans rfl; have hcz25_3 : w24.cell? ⟨gb233, 3, none⟩ = some (.int .i64 0) := (qe0 BK233.out 3).trans rfl; have hcz25_4 : w24.cell? ⟨gb233, 4, none⟩ = some (.int .i64 0) := (qe0 BK233.out 4).trans rfl; have hcz25_5 : w24.cell? ⟨gb233, 5, none⟩ = some (.int .i64 0) := (qe0 BK233.out 5).trans rfl; have hfz25_0 := qd0 BK233.out 0; have hfz25_1 := qd0 BK233.out 1; have hfz25_2 := qd0 BK233.out 2; have hfz25_3 := qd0 BK233.out 3; have hfz25_4 := qd0 BK233.out 4; have hfz25_5 := qd0 BK233.out 5) | ((with_reducible refine qn0 (f := 127) rfl ?_); refine qu0 (some 17) rfl rfl Try.func127 (by kernel_rfl) rfl #[.agg #[.string ((rd_T106 l0 x12_1).f0), .string ((rd_T106 l0 x12_1).f1), .string ((rd_T106 l0 x12_1).f2), .int .i64 ((rd_T106 l0 x12_1).f3), .int .i64 ((rd_T106 l0 x12_1).f4), .int .i64 ((rd_T106 l0 x12_1).f5)]] rfl (by (try simp only [List.map_toArray, List.map_cons, List.map_nil]); first | done | rfl | (simp only [List.length_drop, List.length_take]; rfl)) ?_; (with_reducible refine (impl_cellOk.calls k1 ((rd_T106 l0 x12_1).f0) ((rd_T106 l0 x12_1).f1) ((rd_T106 l0 x12_1).f2) ((rd_T106 l0 x12_1).f3) ((rd_T106 l0 x12_1).f4) ((rd_T106 l0 x12_1).f5) true _ A8.out).mono ?_); rintro e w26 ⟨rfl, hb⟩; refine ⟨_, rfl, ?_⟩; have n0_ := Aside0.mk (Kd.Z_below (by (with_reducible repeat (first | apply Kd.Z_alloc | apply Kd.Z_drewN | apply Kd.Z_drew)); exact (Kd.Z_mono (Kd.Z_far (p := ⟨gb233, 5, none⟩) (Kd.Z_far (p := ⟨gb233, 4, none⟩) (Kd.Z_far (p := ⟨gb233, 3, none⟩) (Kd.Z_far (p := ⟨gb233, 2, none⟩) (Kd.Z_far (p := ⟨gb233, 1, none⟩) (Kd.Z_far (p := ⟨gb233, 0, none⟩) (Kd.Z_types HO_3.out BK233.out (by decide)) (fun _ hk => hk.2) (.string ((rd_T106 l0 x12_1).f0))) (fun _ hk => hk.2) (.string ((rd_T106 l0 x12_1).f1))) (fun _ hk => hk.2) (.string ((rd_T106 l0 x12_1).f2))) (fun _ hk => hk.2) (.int .i64 ((rd_T106 l0 x12_1).f3))) (fun _ hk => hk.2) (.int .i64 ((rd_T106 l0 x12_1).f4))) (fun _ hk => hk.2) (.int .i64 ((rd_T106 l0 x12_1).f5))) (fun _ h_ => h_.1))) hb); have n1_ := Aside0.mk (qb1 (g := gb233) (o := .cells #[.string ((rd_T106 l0 x12_1).f0), .string ((rd_T106 l0 x12_1).f1), .string ((rd_T106 l0 x12_1).f2), .int .i64 ((rd_T106 l0 x12_1).f3), .int .i64 ((rd_T106 l0 x12_1).f4), .int .i64 ((rd_T106 l0 x12_1).f5)] 106 (0, 0)) (by (with_reducible repeat (first | refine qi0 ?_ _ | refine qk0 ?_ | refine qj0 ?_ _)); refine qx0 (cs := #[.string ((rd_T106 l0 x12_1).f0), .string ((rd_T106 l0 x12_1).f1), .string ((rd_T106 l0 x12_1).f2), .int .i64 ((rd_T106 l0 x12_1).f3), .int .i64 ((rd_T106 l0 x12_1).f4), .int .i64 0]) ?_ 5 _ rfl; (with_reducible repeat (first | refine qi0 ?_ _ | refine qk0 ?_ | refine qj0 ?_ _)); refine qx0 (cs := #[.string ((rd_T106 l0 x12_1).f0), .string ((rd_T106 l0 x12_1).f1), .string ((rd_T106 l0 x12_1).f2), .int .i64 ((rd_T106 l0 x12_1).f3), .int .i64 0, .int .i64 0]) ?_ 4 _ rfl; (with_reducible repeat (first | refine qi0 ?_ _ | refine qk0 ?_ | refine qj0 ?_ _)); refine qx0 (cs := #[.string ((rd_T106 l0 x12_1).f0), .string ((rd_T106 l0 x12_1).f1), .string ((rd_T106 l0 x12_1).f2), .int .i64 0, .int .i64 0, .int .i64 0]) ?_ 3 _ rfl; (with_reducible repeat (first | refine qi0 ?_ _ | refine qk0 ?_ | refine qj0 ?_ _)); refine qx0 (cs := #[.string ((rd_T106 l0 x12_1).f0), .string ((rd_T106 l0 x12_1).f1), .string (⟨#[]⟩ : ByteArray), .int .i64 0, .int .i64 0, .int .i64 0]) ?_ 2 _ rfl; (with_reducible repeat (first | refine qi0 ?_ _ | refine qk0 ?_ | refine qj0 ?_ _)); refine qx0 (cs := #[.string ((rd_T106 l0 x12_1).f0), .string (⟨#[]⟩ : ByteArray), .string (⟨#[]⟩ : ByteArray), .int .i64 0, .int .i64 0, .int .i64 0]) ?_ 1 _ rfl; (with_reducible repeat (first | refine qi0 ?_ _ | refine qk0 ?_ | refine qj0 ?_ _)); refine qx0 (cs := #[.string (⟨#[]⟩ : ByteArray), .string (⟨#[]⟩ : ByteArray), .string (⟨#[]⟩ : ByteArray), .int .i64 0, .int .i64 0, .int .i64 0]) ?_ 0 _ rfl; (with_reducible repeat (first | refine qi0 ?_ _ | refine qk0 ?_ | refine qj0 ?_ _)); exact BK233.out) hb); have n2_ := Aside0.mk (qf0 (by repeat (first | (with_reducible first | exact HB.out | apply qc0 | apply qa0 | apply qb0 | refine qg0 ?_ GE233.out) | exact HB.out)) hb); clear HO_3; clear BK233; clear HB; have HO_3 := n0_; have BK233 := n1_; have HB := n2_; clear n0_ n1_ n2_; (try clear hb); (try clear hb2); (try clear hk); (try clear hi); have hcz27_0 : w26.cell? ⟨gb233, 0, none⟩ = some (.string ((rd_T106 l0 x12_1).f0)) := (qe0 BK233.out 0).trans rfl; have hcz27_1 : w26.cell? ⟨gb233, 1, none⟩ = some (.string ((rd_T106 l0 x12_1).f1)) := (qe0 BK233.out 1).trans rfl; have hcz27_2 : w26.cell? ⟨gb233, 2, none⟩ = some (.string ((rd_T106 l0 x12_1).f2)) := (qe0 BK233.out 2).trans rfl; have hcz27_3 : w26.cell? ⟨gb233, 3, none⟩ = some (.int .i64 ((rd_T106 l0 x12_1).f3)) := (qe0 BK233.out 3).trans rfl; have hcz27_4 : w26.cell? ⟨gb233, 4, none⟩ = some (.int .i64 ((rd_T106 l0 x12_1).f4)) := (qe0 BK233.out 4).trans rfl; have hcz27_5 : w26.cell? ⟨gb233, 5, none⟩ = some (.int .i64 ((rd_T106 l0 x12_1).f5)) := (qe0 BK233.out 5).trans rfl; have hfz27_0 := qd0 BK233.out 0; have hfz27_1 := qd0 BK233.out 1; have hfz27_2 := qd0 BK233.out 2; have hfz27_3 := qd0 BK233.out 3; have hfz27_4 := qd0 BK233.out 4; have hfz27_5 := qd0 BK233.out 5) | (go_at_call 128; (with_reducible refine (impl_Cell_where.calls ((rd_T106 l0 x12_1).f0) ((rd_T106 l0 x12_1).f1) ((rd_T106 l0 x12_1).f2) ((rd_T106 l0 x12_1).f3) ((rd_T106 l0 x12_1).f4) ((rd_T106 l0 x12_1).f5) t235 t236 t237 _ A10.out).mono ?_); rintro e w28 ⟨rfl, hb⟩; have n0_ := Aside0.mk (Kd.Z_below (by (with_reducible repeat (first | apply Kd.Z_alloc | apply Kd.Z_drewN | apply Kd.Z_drew)); exact HO_3.out) hb); have n1_ := Aside0.mk (qb1 (g := gb233) (o := .cells #[.string ((rd_T106 l0 x12_1).f0), .string ((rd_T106 l0 x12_1).f1), .string ((rd_T106 l0 x12_1).f2), .int .i64 ((rd_T106 l0 x12_1).f3), .int .i64 ((rd_T106 l0 x12_1).f4), .int .i64 ((rd_T106 l0 x12_1).f5)] 106 (0, 0)) (by (with_reducible repeat (first | refine qi0 ?_ _ | refine qk0 ?_ | refine qj0 ?_ _)); exact BK233.out) hb); have n2_ := Aside0.mk (qf0 (by repeat (first | (with_reducible first | exact HB.out | apply qc0 | apply qa0 | apply qb0 | refine qg0 ?_ GE233.out) | exact HB.out)) hb); clear HO_3; clear BK233; clear HB; have HO_3 := n0_; have BK233 := n1_; have HB := n2_; clear n0_ n1_ n2_; (try clear hb); (try clear hb2); (try clear hk); (try clear hi)) | ((with_reducible refine qt0 (N := 23) rfl ?_); (try (refine gate_guard (by rfl) ?_; dsimp only)); refine Kd.Z_look_op (base := w.heap.size) (ok := fun _ => True) kz162 162 rfl rfl _ _ 162 rfl kz162_K kz162_inj kz162_t false kz162_z mb231 x3_1 (⟨t235, t236, t237⟩ : S164) rfl rfl (kz162_key (⟨t235, t236, t237⟩ : S164) LMc11.out LMc12.out LMc13.out) ?aO (.bool ((mget x3_1 (⟨t235, t236, t237⟩ : S164)).getD false)) rfl ?_; (case aO => exact (by (with_reducible repeat (first | apply Kd.Z_alloc | apply Kd.Z_drewN | apply Kd.Z_drew)); exact HO_3.out)); have hcz29_0 : w28.cell? ⟨gb233, 0, none⟩ = some (.string ((rd_T106 l0 x12_1).f0)) := (qe0 BK233.out 0).trans rfl; have hcz29_1 : w28.cell? ⟨gb233, 1, none⟩ = some (.string ((rd_T106 l0 x12_1).f1)) := (qe0 BK233.out 1).trans rfl; have hcz29_2 : w28.cell? ⟨gb233, 2, none⟩ = some (.string ((rd_T106 l0 x12_1).f2)) := (qe0 BK233.out 2).trans rfl; have hcz29_3 : w28.cell? ⟨gb233, 3, none⟩ = some (.int .i64 ((rd_T106 l0 x12_1).f3)) := (qe0 BK233.out 3).trans rfl; have hcz29_4 : w28.cell? ⟨gb233, 4, none⟩ = some (.int .i64 ((rd_T106 l0 x12_1).f4)) := (qe0 BK233.out 4).trans rfl; have hcz29_5 : w28.cell? ⟨gb233, 5, none⟩ = some (.int .i64 ((rd_T106 l0 x12_1).f5)) := (qe0 BK233.out 5).trans rfl; have hfz29_0 := qd0 BK233.out 0; have hfz29_1 := qd0 BK233.out 1; have hfz29_2 := qd0 BK233.out 2; have hfz29_3 := qd0 BK233.out 3; have hfz29_4 := qd0 BK233.out 4; have hfz29_5 := qd0 BK233.out 5) | ((with_reducible refine qn0 (f := 128) rfl ?_); refine qu0 (some 27) rfl rfl Try.func128 (by kernel_rfl) rfl #[.agg #[.string ((rd_T106 l0 x12_1).f0), .string ((rd_T106 l0 x12_1).f1), .string ((rd_T106 l0 x12_1).f2), .int .i64 ((rd_T106 l0 x12_1).f3), .int .i64 ((rd_T106 l0 x12_1).f4), .int .i64 ((rd_T106 l0 x12_1).f5)]] rfl (by (try simp only [List.map_toArray, List.map_cons, List.map_nil]); first | done | rfl | (simp only [List.length_drop, List.length_take]; rfl)) ?_; (with_reducible refine (impl_Cell_where.calls ((rd_T106 l0 x12_1).f0) ((rd_T106 l0 x12_1).f1) ((rd_T106 l0 x12_1).f2) ((rd_T106 l0 x12_1).f3) ((rd_T106 l0 x12_1).f4) ((rd_T106 l0 x12_1).f5) t238 t239 t240 _ A20.out).mono ?_); rintro e w30 ⟨rfl, hb⟩; refine ⟨_, rfl, ?_⟩; have n0_ := Aside0.mk (Kd.Z_below (by (with_reducible repeat (first | apply Kd.Z_alloc | apply Kd.Z_drewN | apply Kd.Z_drew)); exact HO_3.out) hb); have n1_ := Aside0.mk (qb1 (g := gb233) (o := .cells #[.string ((rd_T106 l0 x12_1).f0), .string ((rd_T106 l0 x12_1).f1), .string ((rd_T106 l0 x12_1).f2), .int .i64 ((rd_T106 l0 x12_1).f3), .int .i64 ((rd_T106 l0 x12_1).f4), .int .i64 ((rd_T106 l0 x12_1).f5)] 106 (0, 0)) (by (with_reducible repeat (first | refine qi0 ?_ _ | refine qk0 ?_ | refine qj0 ?_ _)); exact BK233.out) hb); have n2_ := Aside0.mk (qf0 (by repeat (first | (with_reducible first | exact HB.out | apply qc0 | apply qa0 | apply qb0 | refine qg0 ?_ GE233.out) | exact HB.out)) hb); clear HO_3; clear BK233; clear HB; have HO_3 := n0_; have BK233 := n1_; have HB := n2_; clear n0_ n1_ n2_; (try clear hb); (try clear hb2); (try clear hk); (try clear hi)) | ((with_reducible refine gate_mapset (t := 162) rfl ?_); refine Kd.Z_set_op (base := w.heap.size) (ok := fun _ => True) kz162 162 rfl rfl _ _ _ 162 rfl rfl kz162_K kz162_inj kz162_t mb231 x3_1 (⟨t238, t239, t240⟩ : S164) true rfl rfl rfl (kz162_key (⟨t238, t239, t240⟩ : S164) LMc21.out LMc22.out LMc23.out) ?aO ?_; (case aO => exact (by (with_reducible repeat (first | apply Kd.Z_alloc | apply Kd.Z_drewN | apply Kd.Z_drew)); exact HO_3.out)); intro w31 ho_ hg hbb_ hz_; rw [← Ny241.out] at ho_; have n0_ := Aside0.mk (ho_); have n1_ := Aside0.mk (blk_grown (g := gb233) (o := .cells #[.string ((rd_T106 l0 x12_1).f0), .string ((rd_T106 l0 x12_1).f1), .string ((rd_T106 l0 x12_1).f2), .int .i64 ((rd_T106 l0 x12_1).f3), .int .i64 ((rd_T106 l0 x12_1).f4), .int .i64 ((rd_T106 l0 x12_1).f5)] 106 (0, 0)) (by (with_reducible repeat (first | refine qi0 ?_ _ | refine qk0 ?_ | refine qj0 ?_ _)); exact BK233.out) hg (blk_neZ (by (with_reducible repeat (first | refine qi0 ?_ _ | refine qk0 ?_ | refine qj0 ?_ _)); exact BK233.out) hz_)); have n2_ := Aside0.mk (pw_below_grown (by repeat (first | (with_reducible first | exact HB.out | apply qc0 | apply qa0 | apply qb0 | refine qg0 ?_ GE233.out) | exact HB.out)) (some mb231) (qh0 (by repeat (first | (with_reducible first | exact HB.out | apply qc0 | apply qa0 | apply qb0 | refine qg0 ?_ GE233.out) | exact HB.out))) hg (fun k_ e_ => by cases e_; exact hbb_)); clear HO_3; clear BK233; clear HB; have HO_3 := n0_; have BK233 := n1_; have HB := n2_; clear n0_ n1_ n2_; clear ho_ hg hbb_ hz_))
     go_roundg k1
     case measure => have := HK1.out; omega
     case rel => exact ⟨(y241), (wrap64 (x12_1 + 1)), (by first | rfl | (simp; done) | (simp [*]; done)), H', ⟨by have := HK1.out; omega⟩, ⟨by (with_reducible repeat (first | apply Kd.Z_alloc | apply Kd.Z_drewN | apply Kd.Z_drew)); exact HO_3.out⟩, ⟨by repeat (first | (with_reducible first | exact HB.out | apply qc0 | apply qa0 | apply qb0 | refine qg0 ?_ GE233.out) | exact HB.out)⟩⟩
    replace c9 := Bool.eq_false_iff.mpr c9
    subst c9
    have H1 : (some false) = some r := by rw [if_neg (show ¬ (false = true) by decide)] at H; exact H
    clear H
    have H := H1
    clear H1
    obtain rfl := Option.some.inj H
    have p232 : 0 ≤ (x12_1 : Int) := of_decide_eq_true (by first | (with_reducible assumption) | assumption)
    have q232 : x12_1 < (l0.length : Int) := of_decide_eq_true (by first | (with_reducible assumption) | assumption)
    obtain ⟨ad232, e232, hx232_0, hx232_1, hx232_2, hx232_3, hx232_4, hx232_5⟩ := at_T106 HR0.out x12_1 p232 q232
    cases e232
    replace hx232_0 := (HB.out.cell (World.block_lt_of_cell? w _ hx232_0)).trans hx232_0
    replace hx232_1 := (HB.out.cell (World.block_lt_of_cell? w _ hx232_1)).trans hx232_1
    replace hx232_2 := (HB.out.cell (World.block_lt_of_cell? w _ hx232_2)).trans hx232_2
    replace hx232_3 := (HB.out.cell (World.block_lt_of_cell? w _ hx232_3)).trans hx232_3
    replace hx232_4 := (HB.out.cell (World.block_lt_of_cell? w _ hx232_4)).trans hx232_4
    replace hx232_5 := (HB.out.cell (World.block_lt_of_cell? w _ hx232_5)).trans hx232_5
    replace p232 := eq_true p232
    replace q232 := eq_true q232
    go_wp2_with (first | ((with_reducible refine qt0 (N := 5) rfl ?_); (try (refine gate_guard (by rfl) ?_; dsimp only)); refine qs0 ?hg (N := 5) ?hd (cs := #[.string (⟨#[]⟩ : ByteArray), .string (⟨#[]⟩ : ByteArray), .string (⟨#[]⟩ : ByteArray), .int .i64 0, .int .i64 0, .int .i64 0]) (t := 106) ?hr ?_; (case hd => rfl); (case hg => rfl); (case hr => first | (go_simp; done) | (go_simp; rfl)); intro gb233 hg w32 hbox hb; have n0_ := Aside0.mk (Kd.Z_below (by (with_reducible repeat (first | apply Kd.Z_alloc | apply Kd.Z_drewN | apply Kd.Z_drew)); exact HO_3.out) hb); have n1_ := Aside0.mk (qf0 (by repeat (first | (with_reducible first | exact HB.out | apply qc0 | apply qa0 | apply qb0) | exact HB.out)) hb); have n2_ := Aside0.mk (hbox); have n3_ := Aside0.mk ((by rw [hg]; exact (qh0 (by repeat (first | (with_reducible first | exact HB.out | apply qc0 | apply qa0 | apply qb0) | exact HB.out))) : w.heap.size ≤ gb233)); have n4_ := Aside0.mk ((by rw [hg]; exact (qh0 (by repeat (first | (with_reducible first | exact HB.out | apply qc0 | apply qa0 | apply qb0) | exact HB.out))) : w.heap.size ≤ gb233)); clear HO_3; clear HB; have HO_3 := n0_; have HB := n1_; have BK233 := n2_; have GW233 := n3_; have GE233 := n4_; clear n0_ n1_ n2_ n3_ n4_; clear hb hbox hg; have hcz33_0 : w32.cell? ⟨gb233, 0, none⟩ = some (.string (⟨#[]⟩ : ByteArray)) := (qe0 BK233.out 0).trans rfl; have hcz33_1 : w32.cell? ⟨gb233, 1, none⟩ = some (.string (⟨#[]⟩ : ByteArray)) := (qe0 BK233.out 1).trans rfl; have hcz33_2 : w32.cell? ⟨gb233, 2, none⟩ = some (.string (⟨#[]⟩ : ByteArray)) := (qe0 BK233.out 2).trans rfl; have hcz33_3 : w32.cell? ⟨gb233, 3, none⟩ = some (.int .i64 0) := (qe0 BK233.out 3).trans rfl; have hcz33_4 : w32.cell? ⟨gb233, 4, none⟩ = some (.int .i64 0) := (qe0 BK233.out 4).trans rfl; have hcz33_5 : w32.cell? ⟨gb233, 5, none⟩ = some (.int .i64 0) := (qe0 BK233.out 5).trans rfl; have hfz33_0 := qd0 BK233.out 0; have hfz33_1 := qd0 BK233.out 1; have hfz33_2 := qd0 BK233.out 2; have hfz33_3 := qd0 BK233.out 3; have hfz33_4 := qd0 BK233.out 4; have hfz33_5 := qd0 BK233.out 5) | ((with_reducible refine qn0 (f := 127) rfl ?_); refine qu0 (some 17) rfl rfl Try.func127 (by kernel_rfl) rfl #[.agg #[.string ((rd_T106 l0 x12_1).f0), .string ((rd_T106 l0 x12_1).f1), .string ((rd_T106 l0 x12_1).f2), .int .i64 ((rd_T106 l0 x12_1).f3), .int .i64 ((rd_T106 l0 x12_1).f4), .int .i64 ((rd_T106 l0 x12_1).f5)]] rfl (by (try simp only [List.map_toArray, List.map_cons, List.map_nil]); first | done | rfl | (simp only [List.length_drop, List.length_take]; rfl)) ?_; (with_reducible refine (impl_cellOk.calls k1 ((rd_T106 l0 x12_1).f0) ((rd_T106 l0 x12_1).f1) ((rd_T106 l0 x12_1).f2) ((rd_T106 l0 x12_1).f3) ((rd_T106 l0 x12_1).f4) ((rd_T106 l0 x12_1).f5) false _ A8.out).mono ?_); rintro e w34 ⟨rfl, hb⟩; refine ⟨_, rfl, ?_⟩; have n0_ := Aside0.mk (Kd.Z_below (by (with_reducible repeat (first | apply Kd.Z_alloc | apply Kd.Z_drewN | apply Kd.Z_drew)); exact (Kd.Z_mono (Kd.Z_far (p := ⟨gb233, 5, none⟩) (Kd.Z_far (p := ⟨gb233, 4, none⟩) (Kd.Z_far (p := ⟨gb233, 3, none⟩) (Kd.Z_far (p := ⟨gb233, 2, none⟩) (Kd.Z_far (p := ⟨gb233, 1, none⟩) (Kd.Z_far (p := ⟨gb233, 0, none⟩) (Kd.Z_types HO_3.out BK233.out (by decide)) (fun _ hk => hk.2) (.string ((rd_T106 l0 x12_1).f0))) (fun _ hk => hk.2) (.string ((rd_T106 l0 x12_1).f1))) (fun _ hk => hk.2) (.string ((rd_T106 l0 x12_1).f2))) (fun _ hk => hk.2) (.int .i64 ((rd_T106 l0 x12_1).f3))) (fun _ hk => hk.2) (.int .i64 ((rd_T106 l0 x12_1).f4))) (fun _ hk => hk.2) (.int .i64 ((rd_T106 l0 x12_1).f5))) (fun _ h_ => h_.1))) hb); have n1_ := Aside0.mk (qb1 (g := gb233) (o := .cells #[.string ((rd_T106 l0 x12_1).f0), .string ((rd_T106 l0 x12_1).f1), .string ((rd_T106 l0 x12_1).f2), .int .i64 ((rd_T106 l0 x12_1).f3), .int .i64 ((rd_T106 l0 x12_1).f4), .int .i64 ((rd_T106 l0 x12_1).f5)] 106 (0, 0)) (by (with_reducible repeat (first | refine qi0 ?_ _ | refine qk0 ?_ | refine qj0 ?_ _)); refine qx0 (cs := #[.string ((rd_T106 l0 x12_1).f0), .string ((rd_T106 l0 x12_1).f1), .string ((rd_T106 l0 x12_1).f2), .int .i64 ((rd_T106 l0 x12_1).f3), .int .i64 ((rd_T106 l0 x12_1).f4), .int .i64 0]) ?_ 5 _ rfl; (with_reducible repeat (first | refine qi0 ?_ _ | refine qk0 ?_ | refine qj0 ?_ _)); refine qx0 (cs := #[.string ((rd_T106 l0 x12_1).f0), .string ((rd_T106 l0 x12_1).f1), .string ((rd_T106 l0 x12_1).f2), .int .i64 ((rd_T106 l0 x12_1).f3), .int .i64 0, .int .i64 0]) ?_ 4 _ rfl; (with_reducible repeat (first | refine qi0 ?_ _ | refine qk0 ?_ | refine qj0 ?_ _)); refine qx0 (cs := #[.string ((rd_T106 l0 x12_1).f0), .string ((rd_T106 l0 x12_1).f1), .string ((rd_T106 l0 x12_1).f2), .int .i64 0, .int .i64 0, .int .i64 0]) ?_ 3 _ rfl; (with_reducible repeat (first | refine qi0 ?_ _ | refine qk0 ?_ | refine qj0 ?_ _)); refine qx0 (cs := #[.string ((rd_T106 l0 x12_1).f0), .string ((rd_T106 l0 x12_1).f1), .string (⟨#[]⟩ : ByteArray), .int .i64 0, .int .i64 0, .int .i64 0]) ?_ 2 _ rfl; (with_reducible repeat (first | refine qi0 ?_ _ | refine qk0 ?_ | refine qj0 ?_ _)); refine qx0 (cs := #[.string ((rd_T106 l0 x12_1).f0), .string (⟨#[]⟩ : ByteArray), .string (⟨#[]⟩ : ByteArray), .int .i64 0, .int .i64 0, .int .i64 0]) ?_ 1 _ rfl; (with_reducible repeat (first | refine qi0 ?_ _ | refine qk0 ?_ | refine qj0 ?_ _)); refine qx0 (cs := #[.string (⟨#[]⟩ : ByteArray), .string (⟨#[]⟩ : ByteArray), .string (⟨#[]⟩ : ByteArray), .int .i64 0, .int .i64 0, .int .i64 0]) ?_ 0 _ rfl; (with_reducible repeat (first | refine qi0 ?_ _ | refine qk0 ?_ | refine qj0 ?_ _)); exact BK233.out) hb); have n2_ := Aside0.mk (qf0 (by repeat (first | (with_reducible first | exact HB.out | apply qc0 | apply qa0 | apply qb0 | refine qg0 ?_ GE233.out) | exact HB.out)) hb); clear HO_3; clear BK233; clear HB; have HO_3 := n0_; have BK233 := n1_; have HB := n2_; clear n0_ n1_ n2_; (try clear hb); (try clear hb2); (try clear hk); (try clear hi)))
    go_ret
    exact ⟨by first | rfl | (simp [errW_none, errW_some] <;> rfl) | (simp [*, errW_none, errW_some] <;> rfl), by repeat (first | (with_reducible first | exact HB.out | apply qc0 | apply qa0 | apply qb0 | refine qg0 ?_ GE233.out) | exact HB.out)⟩
   rw [if_neg c5] at H
   have c5b0 : decide (x12_1 < (l0.length : Int)) = false := decide_eq_false c5
   clear c5
   obtain rfl := Option.some.inj H
   go_wp2
   go_ret
   exact ⟨by first | rfl | (simp [errW_none, errW_some] <;> rfl) | (simp [*, errW_none, errW_some] <;> rfl), by repeat (first | (with_reducible first | exact HB.out | apply qc0 | apply qa0 | apply qb0) | exact HB.out)⟩

/-! ### impl_copyStock: function 108 -/
def impl_copyStock.f (l0 : List (S106)) : Option ((List (S106))) := (some (([] : List (S106)) : List (S106))).bind fun y242 => (if y242.length + l0.length < 1954687338268 then (some (y242 ++ l0)) else (none))
set_option maxHeartbeats 8000000 in
set_option maxRecDepth 100000 in
theorem impl_copyStock.calls (A0 : Option Addr) (c0 : Nat) (l0 : List (S106)) (r : List (S106)) (w : World) (hr0 : Kd.C k106 w A0 l0.length l0) (hc0 : l0.length ≤ c0) (h : impl_copyStock.f l0 = some r) :
  Calls Try.prog 108 #[.slice A0 l0.length c0] w fun e w' => ∃ v0_ : Value, e = .returned (v0_) ∧ Kd.R k106 106 w' w.heap.size (fun _ => True) v0_ r ∧ Below w.heap.size w w' := by
 have HR0 := Aside0.mk hr0
 have HC0 := Aside0.mk hc0
 clear hr0 hc0
 have HB := Aside0.mk (Below.refl w.heap.size w)
 have H : ((some (([] : List (S106)) : List (S106))).bind fun y242 => (if y242.length + l0.length < 1954687338268 then (some (y242 ++ l0)) else (none))) = some r := h
 clear h
 obtain ⟨y242, hy242⟩ : ∃ y_ : List (S106), y_ = (([] : List (S106))) := ⟨_, rfl⟩
 replace H : (if y242.length + l0.length < 1954687338268 then (some (y242 ++ l0)) else (none)) = some r := by first | (rw [hy242]; with_reducible exact H) | (have H2_ := (Option.bind_some _ _).symm.trans H; rw [hy242]; with_reducible exact H2_) | (have H2_ := (Option.bind_some _ _).symm.trans H; with_reducible exact H2_) | with_reducible exact H | (rw [hy242]; exact H) | exact H
 have Ny242 := Aside0.mk hy242
 clear hy242
 by_cases c2 : y242.length + l0.length < 1954687338268
 case neg => rw [if_neg c2] at H; exact absurd H (by simp)
 rw [if_pos c2] at H
 have LMc2 := Aside0.mk c2
 clear c2
 obtain ⟨y245, hy245⟩ : ∃ y_ : List (S106), y_ = (y242 ++ l0) := ⟨_, rfl⟩
 replace H : (some y245) = some r := by first | (rw [hy245]; with_reducible exact H) | (have H2_ := (Option.bind_some _ _).symm.trans H; rw [hy245]; with_reducible exact H2_) | (have H2_ := (Option.bind_some _ _).symm.trans H; with_reducible exact H2_) | with_reducible exact H | (rw [hy245]; exact H) | exact H
 have Ny245 := Aside0.mk hy245
 clear hy245
 obtain rfl := Option.some.inj H
 go_enter Try.func108, Try.ntmps108
 go_wp2_with (first | ((with_reducible refine qt0 (N := 3) rfl ?_); refine Kd.R_lit k106 _ 106 ?hg (N := 3) ?hd (xs := ([] : List (S106))) (inner := []) (ok := fun _ => True) (okp := fun _ => True) ?hr ?hp (fun _ hk => hk) trivial (Below.refl _ _) (Nat.le_refl _) (by simp) ?_; (case hd => rfl); (case hg => rfl); (case hr => first | (go_simp; done) | (go_simp; rfl)); (case hp => exact (Reps.none _ _)); intro v243 w3 ho4 hb hg_ hnew_; clear hg_ hnew_; (first | rw [← Ny242.out] at ho4 | (simp only [Int.reduceToNat] at ho4; rw [← Ny242.out] at ho4)); have n0_ := Aside0.mk (Kd.qi1 ho4 (qh0 (by repeat (first | (with_reducible first | exact HB.out | apply qc0 | apply qa0 | apply qb0) | exact HB.out)))); have n1_ := Aside0.mk (qf0 (by repeat (first | (with_reducible first | exact HB.out | apply qc0 | apply qa0 | apply qb0) | exact HB.out)) hb); clear HB; have HO244 := n0_; have HB := n1_; clear n0_ n1_; clear hb ho4) | ((with_reducible refine gate_builtin (b := .append) (xs := #[.tmp 3, .tmp 4]) rfl ?_); at_builtin; refine Kd.R_append_rows k106 (w0 := w) w.heap.size rfl (.tmp 3) (.tmp 4) 43 106 (.agg #[(.string ⟨#[]⟩), (.string ⟨#[]⟩), (.string ⟨#[]⟩), (.int .i64 0), (.int .i64 0), (.int .i64 0)]) 72 rfl Try.underlying43 info106 rfl (by decide) (by omega) v243 y242 l0 _ _ _ (fun _ => True) (fun _ => False) rfl rfl ?aO ?aR (fun _ _ h => h) (fun _ h => h.elim) ?aF ?aB ?aS ?aL ?_; (case aR => repeat (first | exact (Kd.qf1 HR0.out HB.out) | (with_reducible refine Kd.qw0 ?_ _) | (with_reducible refine Kd.qv0 ?_ _) | (with_reducible refine Kd.qy0 ?_))); (case aB => exact (by repeat (first | (with_reducible first | exact HB.out | apply qc0 | apply qa0 | apply qb0) | exact HB.out))); (case aF => exact (fun _ _ => trivial)); (case aO => exact (by (with_reducible repeat (first | apply Kd.qm0 | apply Kd.ql0 | apply Kd.qo0)); exact HO244.out)); (case aS => exact (qh0 (by repeat (first | (with_reducible first | exact HB.out | apply qc0 | apply qa0 | apply qb0) | exact HB.out)))); (case aL => have := LMc2.out; omega); intro v246 w5 ho hb hg hat; rw [← Ny245.out] at ho; have n0_ := Aside0.mk (hb); have n1_ := Aside0.mk (ho); clear HB; clear HO244; have HB := n0_; have HO247 := n1_; clear n0_ n1_; clear ho hb hg hat))
 go_ret
 exact ⟨_, by first | rfl | (simp [errW_none, errW_some] <;> rfl) | (simp [*, errW_none, errW_some] <;> rfl), by (with_reducible repeat (first | apply Kd.qm0 | apply Kd.ql0 | apply Kd.qo0)); exact HO247.out, by repeat (first | (with_reducible first | exact HB.out | apply qc0 | apply qa0 | apply qb0) | exact HB.out)⟩

-- NOT PRINTED: function 74 (impl_each)

/-- A state of type 106 at block g of W; what its slices lead to came in by w0. -/
def IsS106 (w0 W : World) (g : Nat) (f0 : ByteArray) (f1 : ByteArray) (f2 : ByteArray) (f3 : Int) (f4 : Int) (f5 : Int) : Prop := W.heap[g]? = some (.cells #[.string f0, .string f1, .string f2, .int .i64 f3, .int .i64 f4, .int .i64 f5] 106 (0, 0)) ∧ w0.heap.size ≤ g
theorem IsS106.grown {w0 W : World} {g : Nat} {f0 : ByteArray} {f1 : ByteArray} {f2 : ByteArray} {f3 : Int} {f4 : Int} {f5 : Int} {W1 : World} {row : Option Nat} (h : IsS106 w0 W g f0 f1 f2 f3 f4 f5) (hw : W.grownBy W1 row) (hne : some g ≠ row) : IsS106 w0 W1 g f0 f1 f2 f3 f4 f5 := by
 obtain ⟨hb, hg⟩ := h
 exact ⟨blk_grown hb hw hne, hg⟩
theorem IsS106.kept {w0 W : World} {g : Nat} {f0 : ByteArray} {f1 : ByteArray} {f2 : ByteArray} {f3 : Int} {f4 : Int} {f5 : Int} {W1 : World} {S : Nat → Prop} (h : IsS106 w0 W g f0 f1 f2 f3 f4 f5) (hk : Kept W W1 S) (hne : ¬ S g) : IsS106 w0 W1 g f0 f1 f2 f3 f4 f5 := by
 obtain ⟨hb, hg⟩ := h
 exact ⟨blk_kept hb hk hne, hg⟩
theorem IsS106.below {w0 W : World} {g : Nat} {f0 : ByteArray} {f1 : ByteArray} {f2 : ByteArray} {f3 : Int} {f4 : Int} {f5 : Int} {W1 : World} (h : IsS106 w0 W g f0 f1 f2 f3 f4 f5) (hw : Below W.heap.size W W1) : IsS106 w0 W1 g f0 f1 f2 f3 f4 f5 := h.grown (grown_of_below hw none) (by simp)
theorem IsS106.alloc {w0 W : World} {g : Nat} {f0 : ByteArray} {f1 : ByteArray} {f2 : ByteArray} {f3 : Int} {f4 : Int} {f5 : Int} (h : IsS106 w0 W g f0 f1 f2 f3 f4 f5) (o : Obj) : IsS106 w0 (W.alloc o) g f0 f1 f2 f3 f4 f5 := h.below (qc0 (Below.refl _ _) o)
theorem IsS106.drewN {w0 W : World} {g : Nat} {f0 : ByteArray} {f1 : ByteArray} {f2 : ByteArray} {f3 : Int} {f4 : Int} {f5 : Int} (h : IsS106 w0 W g f0 f1 f2 f3 f4 f5) (m : Nat) : IsS106 w0 (W.drewN m) g f0 f1 f2 f3 f4 f5 := h
theorem IsS106.drew {w0 W : World} {g : Nat} {f0 : ByteArray} {f1 : ByteArray} {f2 : ByteArray} {f3 : Int} {f4 : Int} {f5 : Int} (h : IsS106 w0 W g f0 f1 f2 f3 f4 f5) : IsS106 w0 W.drew g f0 f1 f2 f3 f4 f5 := h
theorem IsS106.at_ {w0 W : World} {g : Nat} {f0 : ByteArray} {f1 : ByteArray} {f2 : ByteArray} {f3 : Int} {f4 : Int} {f5 : Int} {w' : World} {m : Nat} (hq : W.drewN m = w') (h : IsS106 w0 W g f0 f1 f2 f3 f4 f5) : IsS106 w0 w' g f0 f1 f2 f3 f4 f5 := by subst hq; exact IsS106.drewN h m
theorem IsS106.apart {w0 W : World} {g : Nat} {f0 : ByteArray} {f1 : ByteArray} {f2 : ByteArray} {f3 : Int} {f4 : Int} {f5 : Int} {α : Type} {d : Kd α} {e : Nat} {base : Nat} {ok : Nat → Prop} {v : Value} {xs : List α} (h : IsS106 w0 W g f0 f1 f2 f3 f4 f5) (ho : d.R e W base ok v xs) (ht : ∀ q, q ∈ e :: d.E → q ≠ 106) : d.R e W base (fun k => ok k ∧ k ≠ g) v xs := by
 obtain ⟨hb, hg⟩ := h
 exact Kd.R_types ho hb ht
theorem IsS106.own_ne {w0 W : World} {g : Nat} {f0 : ByteArray} {f1 : ByteArray} {f2 : ByteArray} {f3 : Int} {f4 : Int} {f5 : Int} {α : Type} {d : Kd α} {e : Nat} {base : Nat} {ok : Nat → Prop} {v : Value} {xs : List α} (h : IsS106 w0 W g f0 f1 f2 f3 f4 f5) (ho : d.R e W base ok v xs) (ht : e ≠ 106) : some g ≠ v.ownBlock := by
 obtain ⟨hb, hg⟩ := h
 exact Kd.R_ne ho hb ht
theorem IsS106.lt {w0 W : World} {g : Nat} {f0 : ByteArray} {f1 : ByteArray} {f2 : ByteArray} {f3 : Int} {f4 : Int} {f5 : Int} (h : IsS106 w0 W g f0 f1 f2 f3 f4 f5) : g < W.heap.size := by
 obtain ⟨hb, hg⟩ := h
 exact qg1 hb
theorem IsS106.ge {w0 W : World} {g : Nat} {f0 : ByteArray} {f1 : ByteArray} {f2 : ByteArray} {f3 : Int} {f4 : Int} {f5 : Int} (h : IsS106 w0 W g f0 f1 f2 f3 f4 f5) : w0.heap.size ≤ g := by
 obtain ⟨hb, hg⟩ := h
 exact hg
theorem cellS106_0 {W : World} {g : Nat} {f0 : ByteArray} {f1 : ByteArray} {f2 : ByteArray} {f3 : Int} {f4 : Int} {f5 : Int} (h : W.heap[g]? = some (.cells #[.string f0, .string f1, .string f2, .int .i64 f3, .int .i64 f4, .int .i64 f5] 106 (0, 0))) : W.cell? ⟨g, 0, none⟩ = some (.string f0) := (qe0 h 0).trans rfl
theorem IsS106.set_0 {w0 W : World} {g : Nat} {f0 : ByteArray} {f1 : ByteArray} {f2 : ByteArray} {f3 : Int} {f4 : Int} {f5 : Int} (h : IsS106 w0 W g f0 f1 f2 f3 f4 f5) (x : ByteArray) : IsS106 w0 (W.setCell ⟨g, 0, none⟩ (.string x)) g x f1 f2 f3 f4 f5 := by
 obtain ⟨hb, hg⟩ := h
 exact ⟨by simpa using blk_set hb 0 (.string x), hg⟩
theorem cellS106_1 {W : World} {g : Nat} {f0 : ByteArray} {f1 : ByteArray} {f2 : ByteArray} {f3 : Int} {f4 : Int} {f5 : Int} (h : W.heap[g]? = some (.cells #[.string f0, .string f1, .string f2, .int .i64 f3, .int .i64 f4, .int .i64 f5] 106 (0, 0))) : W.cell? ⟨g, 1, none⟩ = some (.string f1) := (qe0 h 1).trans rfl
theorem IsS106.set_1 {w0 W : World} {g : Nat} {f0 : ByteArray} {f1 : ByteArray} {f2 : ByteArray} {f3 : Int} {f4 : Int} {f5 : Int} (h : IsS106 w0 W g f0 f1 f2 f3 f4 f5) (x : ByteArray) : IsS106 w0 (W.setCell ⟨g, 1, none⟩ (.string x)) g f0 x f2 f3 f4 f5 := by
 obtain ⟨hb, hg⟩ := h
 exact ⟨by simpa using blk_set hb 1 (.string x), hg⟩
theorem cellS106_2 {W : World} {g : Nat} {f0 : ByteArray} {f1 : ByteArray} {f2 : ByteArray} {f3 : Int} {f4 : Int} {f5 : Int} (h : W.heap[g]? = some (.cells #[.string f0, .string f1, .string f2, .int .i64 f3, .int .i64 f4, .int .i64 f5] 106 (0, 0))) : W.cell? ⟨g, 2, none⟩ = some (.string f2) := (qe0 h 2).trans rfl
theorem IsS106.set_2 {w0 W : World} {g : Nat} {f0 : ByteArray} {f1 : ByteArray} {f2 : ByteArray} {f3 : Int} {f4 : Int} {f5 : Int} (h : IsS106 w0 W g f0 f1 f2 f3 f4 f5) (x : ByteArray) : IsS106 w0 (W.setCell ⟨g, 2, none⟩ (.string x)) g f0 f1 x f3 f4 f5 := by
 obtain ⟨hb, hg⟩ := h
 exact ⟨by simpa using blk_set hb 2 (.string x), hg⟩
theorem cellS106_3 {W : World} {g : Nat} {f0 : ByteArray} {f1 : ByteArray} {f2 : ByteArray} {f3 : Int} {f4 : Int} {f5 : Int} (h : W.heap[g]? = some (.cells #[.string f0, .string f1, .string f2, .int .i64 f3, .int .i64 f4, .int .i64 f5] 106 (0, 0))) : W.cell? ⟨g, 3, none⟩ = some (.int .i64 f3) := (qe0 h 3).trans rfl
theorem IsS106.set_3 {w0 W : World} {g : Nat} {f0 : ByteArray} {f1 : ByteArray} {f2 : ByteArray} {f3 : Int} {f4 : Int} {f5 : Int} (h : IsS106 w0 W g f0 f1 f2 f3 f4 f5) (x : Int) : IsS106 w0 (W.setCell ⟨g, 3, none⟩ (.int .i64 x)) g f0 f1 f2 x f4 f5 := by
 obtain ⟨hb, hg⟩ := h
 exact ⟨by simpa using blk_set hb 3 (.int .i64 x), hg⟩
theorem cellS106_4 {W : World} {g : Nat} {f0 : ByteArray} {f1 : ByteArray} {f2 : ByteArray} {f3 : Int} {f4 : Int} {f5 : Int} (h : W.heap[g]? = some (.cells #[.string f0, .string f1, .string f2, .int .i64 f3, .int .i64 f4, .int .i64 f5] 106 (0, 0))) : W.cell? ⟨g, 4, none⟩ = some (.int .i64 f4) := (qe0 h 4).trans rfl
theorem IsS106.set_4 {w0 W : World} {g : Nat} {f0 : ByteArray} {f1 : ByteArray} {f2 : ByteArray} {f3 : Int} {f4 : Int} {f5 : Int} (h : IsS106 w0 W g f0 f1 f2 f3 f4 f5) (x : Int) : IsS106 w0 (W.setCell ⟨g, 4, none⟩ (.int .i64 x)) g f0 f1 f2 f3 x f5 := by
 obtain ⟨hb, hg⟩ := h
 exact ⟨by simpa using blk_set hb 4 (.int .i64 x), hg⟩
theorem cellS106_5 {W : World} {g : Nat} {f0 : ByteArray} {f1 : ByteArray} {f2 : ByteArray} {f3 : Int} {f4 : Int} {f5 : Int} (h : W.heap[g]? = some (.cells #[.string f0, .string f1, .string f2, .int .i64 f3, .int .i64 f4, .int .i64 f5] 106 (0, 0))) : W.cell? ⟨g, 5, none⟩ = some (.int .i64 f5) := (qe0 h 5).trans rfl
theorem IsS106.set_5 {w0 W : World} {g : Nat} {f0 : ByteArray} {f1 : ByteArray} {f2 : ByteArray} {f3 : Int} {f4 : Int} {f5 : Int} (h : IsS106 w0 W g f0 f1 f2 f3 f4 f5) (x : Int) : IsS106 w0 (W.setCell ⟨g, 5, none⟩ (.int .i64 x)) g f0 f1 f2 f3 f4 x := by
 obtain ⟨hb, hg⟩ := h
 exact ⟨by simpa using blk_set hb 5 (.int .i64 x), hg⟩
/-! ### impl_Ship_1: function 79 -/
def impl_Ship_1.f (s0_0 : ByteArray) (s0_1 : ByteArray) (s0_2 : ByteArray) (s0_3 : Int) (s0_4 : Int) (s0_5 : Int) (a1 : Int) : Option (Bool × ByteArray × ByteArray × ByteArray × Int × Int × Int) := some (decide ((wrap64 (s0_5 - a1)) ≥ 0), s0_0, s0_1, s0_2, s0_3, wrap64 (s0_4 - a1), wrap64 (s0_5 - a1))
set_option maxHeartbeats 8000000 in
set_option maxRecDepth 100000 in
theorem impl_Ship_1.calls (g : Nat) (s0_0 : ByteArray) (s0_1 : ByteArray) (s0_2 : ByteArray) (s0_3 : Int) (s0_4 : Int) (s0_5 : Int) (a1 : Int) (r1 : Bool) (r2 : ByteArray) (r3 : ByteArray) (r4 : ByteArray) (r5 : Int) (r6 : Int) (r7 : Int) (w0 w : World) (hI : IsS106 w0 w g s0_0 s0_1 s0_2 s0_3 s0_4 s0_5) (hB : Below w0.heap.size w0 w) (h : impl_Ship_1.f s0_0 s0_1 s0_2 s0_3 s0_4 s0_5 a1 = some (r1, r2, r3, r4, r5, r6, r7)) :
  Calls Try.prog 79 #[.pointer (some ⟨g, 0, none⟩), .int .i64 a1] w fun e w' => e = .returned (.bool r1) ∧ IsS106 w0 w' g r2 r3 r4 r5 r6 r7 ∧ Below w0.heap.size w0 w' ∧ qe1 w w' g none := by
 have HI0 := Aside0.mk hI
 have HK := Aside0.mk (qe1.refl w g none)
 have HL := Aside0.mk hB.size
 clear hI
 have HW0 := Aside0.mk hB.size
 have HB := Aside0.mk hB
 clear hB
 have H : (some (decide ((wrap64 (s0_5 - a1)) ≥ 0), s0_0, s0_1, s0_2, s0_3, wrap64 (s0_4 - a1), wrap64 (s0_5 - a1))) = some (r1, r2, r3, r4, r5, r6, r7) := h
 clear h
 simp only [Option.some.injEq, Prod.mk.injEq] at H
 obtain ⟨rfl, rfl, rfl, rfl, rfl, rfl, rfl⟩ := H
 obtain ⟨HGz3, hgz3⟩ := HI0.out
 have hcz3_0 := cellS106_0 HGz3
 have hcz3_1 := cellS106_1 HGz3
 have hcz3_2 := cellS106_2 HGz3
 have hcz3_3 := cellS106_3 HGz3
 have hcz3_4 := cellS106_4 HGz3
 have hcz3_5 := cellS106_5 HGz3
 have hfz3_0 := qd0 HGz3 0
 have hfz3_1 := qd0 HGz3 1
 have hfz3_2 := qd0 HGz3 2
 have hfz3_3 := qd0 HGz3 3
 have hfz3_4 := qd0 HGz3 4
 have hfz3_5 := qd0 HGz3 5
 clear HGz3 hgz3
 go_enter Try.func79, Try.ntmps79
 go_wp2
 go_ret
 exact ⟨by first | rfl | (simp [errW_none, errW_some] <;> rfl) | (simp [*, errW_none, errW_some] <;> rfl), by repeat (first | (with_reducible first | exact HI0.out | apply IsS106.alloc | apply IsS106.drewN | apply IsS106.drew | apply IsS106.set_0 | apply IsS106.set_1 | apply IsS106.set_2 | apply IsS106.set_3 | apply IsS106.set_4 | apply IsS106.set_5) | exact HI0.out), by repeat (first | (with_reducible first | exact HB.out | apply qc0 | apply qa0 | apply qb0 | refine qg0 ?_ (IsS106.ge HI0.out)) | exact HB.out), by repeat (first | (with_reducible first | exact HK.out | apply qe1.set_ | apply keep_drewN | apply keep_drew | apply keep_alloc) | exact HK.out)⟩

-- EXTERN loop.example/g00040/impl.Ship
/-! ### impl_Ship: function 32 -/
-- @rounds
-- @making
/-- What a shipment leaves of a cell, and whether it may be. -/
def shipHeld (x : S106) (q : Int) : S106 := ⟨x.f0, x.f1, x.f2, x.f3, x.f4, wrap64 (x.f5 - q)⟩
def shipCell (x : S106) (q : Int) : S106 := ⟨x.f0, x.f1, x.f2, x.f3, wrap64 (x.f4 - q), wrap64 (x.f5 - q)⟩
def shipOk (x : S106) (q : Int) : Bool := decide (wrap64 (x.f5 - q) ≥ 0)
set_option maxHeartbeats 8000000 in
set_option maxRecDepth 100000 in
theorem ship_do (w0 w : World) (P : Nat → Prop) (go co : Nat) (out : List S106) (i : Int) (q : Int) (hB : Below w0.heap.size w0 w) (hR : Kd.R k106 106 w w0.heap.size P (.slice (some ⟨go, 0, none⟩) out.length co) out) (h0 : 0 ≤ i) (h1 : i < (out.length : Int)) :
  Calls Try.prog 79 #[.pointer (some ⟨go, i.toNat * 6, none⟩), .int .i64 q] w fun e w' => e = .returned (.bool (shipOk (rd_T106 out i) q)) ∧ Kd.R k106 106 w' w0.heap.size P (.slice (some ⟨go, 0, none⟩) out.length co) (out.set i.toNat (shipCell (rd_T106 out i) q)) ∧ Below w0.heap.size w0 w' ∧ Kept w w' (fun k => k = go) := by
 obtain ⟨go', co', eo, gb, gl, cl, HG⟩ := Kd.R_form hR (by omega)
 obtain ⟨ce, hcl, hM, hcc, hfr⟩ := Kd.qo1 hR z106 i h0 h1
 obtain rfl := k106_openM hM
 have hx5 : w.cell? ⟨go, i.toNat * 6 + 5, none⟩ = some (.int .i64 (rd_T106 out i).f5) := hcc 5 _ rfl
 have hf5 : w.frozen? ⟨go, i.toNat * 6 + 5, none⟩ = false := hfr 5
 have HP := Aside0.mk (Kd.R_seg hR i h0 h1 (seg := [.int .i64 (wrap64 ((rd_T106 out i).f5 - q))]) (j := 5) hcl hcc (show 6 ≤ 6 from by decide) (x' := shipHeld (rd_T106 out i) q) (k106_mkM _ _ _ (shipHeld (rd_T106 out i) q)) (fun _ hk => hk))
 have HGB := Aside0.mk (show w0.heap.size ≤ go by injection eo with ea_ _ _; injection ea_ with ea_; injection ea_ with eb_ _ _; omega)
 have HB := Aside0.mk hB
 have HII := Aside0.mk (And.intro h0 h1)
 have HI := Aside0.mk (show i.toNat < out.length by omega)
 clear hB hR hcl hcc hfr hM eo gb gl HG h0 h1
 go_enter Try.func79, Try.ntmps79
 go_wp2_with (first | ((with_reducible refine gate_store (t := 3) (p := 12) rfl ?_); refine store_event (t := 3) (p := 12) (v := ?vo_) (w1 := (w.setCell ⟨go, i.toNat * 6 + 5, none⟩ (.int .i64 (wrap64 ((rd_T106 out i).f5 - q))))) ?hg ?ho ?hn ?hr ?_; (case ho => rfl); (case hg => rfl); (case hn => rfl); (case hr => first | (go_simp; done) | (go_simp; rfl)); intro w1 hw; have hR1 : Kd.R k106 106 w1 w0.heap.size P (.slice (some ⟨go, 0, none⟩) out.length co) (out.set i.toNat (shipHeld (rd_T106 out i) q)) := (by rw [hw]; exact HP.out.1); have hB1 : Below w0.heap.size w0 w1 := (by rw [hw]; exact qg0 HB.out HGB.out); have HK1 := Aside0.mk (show Kept w w1 (fun k => k = go) by rw [hw]; exact Kept.of_grown (S := fun k => k = go) HP.out.2 (Kept.refl _ _) (fun k hk => .inl (by injection hk with hk; exact hk.symm))); clear HP HB hx5 hf5 hw; obtain ⟨ce, hcl, hM, hcc, hfr⟩ := Kd.qo1 (n := out.length) hR1 z106 i HII.out.1 HII.out.2; (rw [show (out.set i.toNat (shipHeld (rd_T106 out i) q)).getD i.toNat z106 = shipHeld (rd_T106 out i) q by simp [List.getD, HI.out]] at hM); obtain rfl := k106_openM hM; have hx4 : w1.cell? ⟨go, i.toNat * 6 + 4, none⟩ = some (.int .i64 (rd_T106 out i).f4) := hcc 4 _ rfl; have hf4 : w1.frozen? ⟨go, i.toNat * 6 + 4, none⟩ = false := hfr 4; have HP := Aside0.mk (Kd.R_seg (n := out.length) hR1 i HII.out.1 HII.out.2 (seg := [.int .i64 (wrap64 ((rd_T106 out i).f4 - q))]) (j := 4) hcl hcc (show 5 ≤ 6 from by decide) (x' := shipCell (rd_T106 out i) q) (k106_mkM _ _ _ (shipCell (rd_T106 out i) q)) (fun _ hk => hk)); have HB := Aside0.mk hB1; clear hR1 hB1 hcl hcc hfr hM); have hR2 := HP.out.1; (rw [List.set_set] at hR2); have HR2 := Aside0.mk hR2; obtain ⟨ce2, hcl2, hM2, hcc2, hfr2⟩ := Kd.qo1 (n := out.length) hR2 z106 i HII.out.1 HII.out.2; (rw [show (out.set i.toNat (shipCell (rd_T106 out i) q)).getD i.toNat z106 = shipCell (rd_T106 out i) q by simp [List.getD, HI.out]] at hM2); obtain rfl := k106_openM hM2; have hx5 : (w1.setCell ⟨go, i.toNat * 6 + 4, none⟩ (.int .i64 (wrap64 ((rd_T106 out i).f4 - q)))).cell? ⟨go, i.toNat * 6 + 5, none⟩ = some (.int .i64 (wrap64 ((rd_T106 out i).f5 - q))) := hcc2 5 _ rfl; clear hR2 hcl2 hM2 hcc2 hfr2)
 go_ret
 exact ⟨rfl, HR2.out, qg0 HB.out HGB.out, Kept.of_grown (S := fun k => k = go) HP.out.2 HK1.out (fun k hk => .inl (by injection hk with hk; exact hk.symm))⟩
def each_do.T11 : Bool × List (List Nat × List Nat) := (true, [([], []), ([], []), ([], []), ([2], [2]), ([1, 3], [1, 3]), ([], []), ([5], [5]), ([0, 4, 6], [0, 4, 6]), ([7], [7])])
def each_do.B11 : List Nat := [0, 0, 0, 4, 14, 0, 32, 127, 255]
theorem each_do.tab11 : rtab .any (opsOf Try.f74 11) = each_do.T11 := by kernel_rfl
theorem each_do.bits11 : waitsOk each_do.T11.2 each_do.B11 = true := by kernel_rfl

/-- Picks, one after another, each done to the cell that it names. -/
def eachFrom (cp : List S106) (D : S106 → Int → S106 × Bool) : List S109 → List S106 → List S106 × Int
 | [], out => (out, 0)
 | p :: ps, out => if 0 ≤ p.f0 ∧ p.f0 < (out.length : Int) ∧ 1 ≤ p.f1 ∧ p.f1 ≤ 1000000 then (if (D (rd_T106 out p.f0) p.f1).2 = true then eachFrom cp D ps (out.set p.f0.toNat (D (rd_T106 out p.f0) p.f1).1) else (cp, 3)) else (cp, 2)
def each.f (D : S106 → Int → S106 × Bool) (k : Nat) (l0 : List S106) (l1 : List S109) : Option (List S106 × Int) := (impl_StockOk.f k l0).bind fun t => (if t = true then ((impl_copyStock.f l0).bind fun cp => (some (if (l1.length : Int) > 100 then (cp, 2) else eachFrom cp D l1 cp))) else (some ([], 1)))
set_option maxHeartbeats 8000000 in
set_option maxRecDepth 100000 in
theorem each.calls (g : Nat) (D : S106 → Int → S106 × Bool) (hen : ∀ (args : Array Value) (w : World), (callFunc g args).run Try.prog w = .ok (.enter g args) w) (hdo : ∀ (w0 w : World) (P : Nat → Prop) (go co : Nat) (out : List S106) (i q : Int), Below w0.heap.size w0 w → Kd.R k106 106 w w0.heap.size P (.slice (some ⟨go, 0, none⟩) out.length co) out → 0 ≤ i → i < (out.length : Int) → Calls Try.prog g #[.pointer (some ⟨go, i.toNat * 6, none⟩), .int .i64 q] w fun e w' => e = .returned (.bool (D (rd_T106 out i) q).2) ∧ Kd.R k106 106 w' w0.heap.size P (.slice (some ⟨go, 0, none⟩) out.length co) (out.set i.toNat (D (rd_T106 out i) q).1) ∧ Below w0.heap.size w0 w' ∧ Kept w w' (fun k => k = go))
  (k : Nat) (A0 : Option Addr) (c0 : Nat) (l0 : List S106) (A1 : Option Addr) (c1 : Nat) (l1 : List S109) (r1 : List S106) (r2 : Int) (w : World) (hr0 : Kd.C k106 w A0 l0.length l0) (hc0 : l0.length ≤ c0) (hr1 : Kd.C k109 w A1 l1.length l1) (hc1 : l1.length ≤ c1) (h : each.f D k l0 l1 = some (r1, r2)) :
  Calls Try.prog 74 #[.slice A0 l0.length c0, .slice A1 l1.length c1, .func (.func g) #[] #[]] w fun e w' => ∃ v0_ : Value, e = .returned (.tuple #[v0_, .int .i64 r2]) ∧ Kd.R k106 106 w' w.heap.size (fun _ => True) v0_ r1 ∧ Below w.heap.size w w' := by
 have HR0 := Aside0.mk hr0
 have HC0 := Aside0.mk hc0
 have HR1 := Aside0.mk hr1
 have HLN := Aside0.mk (Kd.C_max hr1)
 have HB := Aside0.mk (Below.refl w.heap.size w)
 clear hr0 hc0 hr1 hc1
 unfold each.f at h
 obtain ⟨t, e1, h⟩ := Option.bind_eq_some_iff.1 h
 have E1 := Aside0.mk e1
 clear e1
 by_cases d0 : t = true
 ·subst d0
  rw [if_pos rfl] at h
  obtain ⟨cp, e2, h⟩ := Option.bind_eq_some_iff.1 h
  have HCP := Aside0.mk e2
  clear e2
  by_cases d1 : (l1.length : Int) > 100
  ·rw [if_pos d1] at h
   have d1b : decide ((l1.length : Int) > 100) = true := decide_eq_true d1
   have d1c : decide (100 < (l1.length : Int)) = true := decide_eq_true d1
   have d1d : decide (100 < l1.length) = true := decide_eq_true (by omega)
   clear d1
   obtain ⟨rfl, rfl⟩ := Prod.mk.inj (Option.some.inj h)
   clear h
   go_enter Try.func74, Try.ntmps74
   go_wp2_with (first | (go_at_call 107; (refine (impl_StockOk.calls k _ _ l0 true _ ?s1 ?s2 E1.out).mono ?_); (case s1 => exact Kd.qf1 HR0.out (by repeat (first | (with_reducible first | exact HB.out | apply qc0 | apply qa0 | apply qb0) | exact HB.out))); (case s2 => exact HC0.out); rintro e w8 ⟨rfl, hb_⟩; have n1_ := Aside0.mk (qf0 (by repeat (first | (with_reducible first | exact HB.out | apply qc0 | apply qa0 | apply qb0) | exact HB.out)) hb_); clear HB hb_; have HB := n1_; clear n1_) | (go_at_call 108; (refine (impl_copyStock.calls _ _ l0 cp _ ?s1 ?s2 HCP.out).mono ?_); (case s1 => exact Kd.qf1 HR0.out (by repeat (first | (with_reducible first | exact HB.out | apply qc0 | apply qa0 | apply qb0) | exact HB.out))); (case s2 => exact HC0.out); rintro e w9 ⟨v9_, rfl, ho_, hb_⟩; have n0_ := Aside0.mk (Kd.qi1 ho_ (qh0 (by repeat (first | (with_reducible first | exact HB.out | apply qc0 | apply qa0 | apply qb0) | exact HB.out)))); have n1_ := Aside0.mk (qf0 (by repeat (first | (with_reducible first | exact HB.out | apply qc0 | apply qa0 | apply qb0) | exact HB.out)) hb_); clear HB ho_ hb_; have HO9 := n0_; have HB := n1_; clear n0_ n1_))
   go_ret2
   exact ⟨_, rfl, HO9.out, by repeat (first | (with_reducible first | exact HB.out | apply qc0 | apply qa0 | apply qb0) | exact HB.out)⟩
  ·rw [if_neg d1] at h
   have d1b : decide ((l1.length : Int) > 100) = false := decide_eq_false d1
   have d1c : decide (100 < (l1.length : Int)) = false := decide_eq_false d1
   have d1d : decide (100 < l1.length) = false := decide_eq_false (by omega)
   clear d1
   have HE := Aside0.mk (Option.some.inj h)
   clear h
   go_enter Try.func74, Try.ntmps74
   go_wp2_with (first | (go_at_call 107; (refine (impl_StockOk.calls k _ _ l0 true _ ?s1 ?s2 E1.out).mono ?_); (case s1 => exact Kd.qf1 HR0.out (by repeat (first | (with_reducible first | exact HB.out | apply qc0 | apply qa0 | apply qb0) | exact HB.out))); (case s2 => exact HC0.out); rintro e w8 ⟨rfl, hb_⟩; have n1_ := Aside0.mk (qf0 (by repeat (first | (with_reducible first | exact HB.out | apply qc0 | apply qa0 | apply qb0) | exact HB.out)) hb_); clear HB hb_; have HB := n1_; clear n1_) | (go_at_call 108; (refine (impl_copyStock.calls _ _ l0 cp _ ?s1 ?s2 HCP.out).mono ?_); (case s1 => exact Kd.qf1 HR0.out (by repeat (first | (with_reducible first | exact HB.out | apply qc0 | apply qa0 | apply qb0) | exact HB.out))); (case s2 => exact HC0.out); rintro e w9 ⟨v9_, rfl, ho_, hb_⟩; have n0_ := Aside0.mk (Kd.qi1 ho_ (qh0 (by repeat (first | (with_reducible first | exact HB.out | apply qc0 | apply qa0 | apply qb0) | exact HB.out)))); have n1_ := Aside0.mk (qf0 (by repeat (first | (with_reducible first | exact HB.out | apply qc0 | apply qa0 | apply qb0) | exact HB.out)) hb_); clear HB ho_ hb_; have HO9 := n0_; have HB := n1_; clear n0_ n1_))
   obtain ⟨Ao, co, eo⟩ := Kd.qh1 HO9.out
   subst eo
   go_loopg [23] l1.length (fun kq v23 w' => ∃ (i : Nat) (out : List S106), i + kq = l1.length ∧ v23 = .int .i64 (i : Int) ∧ Aside0 (eachFrom cp D (l1.drop i) out = (r1, r2)) ∧ Aside0 (Kd.R k106 106 w' w.heap.size (fun _ => True) (.slice Ao cp.length co) out) ∧ Aside0 (Below w.heap.size w w'))
   case atStart => exact ⟨0, cp, Nat.zero_add _, rfl, ⟨by rw [List.drop_zero]; exact HE.out⟩, HO9, HB⟩
   case round =>
    clear HO9 HB HE
    obtain ⟨i, out, hi, rfl, HE, HO, HB⟩ := hrel
    have HOL := Aside0.mk (Kd.qp0 HO.out).1
    by_cases hlt : i < l1.length
    ·have hltb : decide ((i : Int) < (l1.length : Int)) = true := decide_eq_true (Int.ofNat_lt.2 hlt)
     have hltc : decide (i < l1.length) = true := decide_eq_true hlt
     have hltp : (i < l1.length) = True := eq_true hlt
     have hltq : ((i : Int) < (l1.length : Int)) = True := eq_true (Int.ofNat_lt.2 hlt)
     have hltr : (0 ≤ (i : Int)) = True := eq_true (Int.natCast_nonneg _)
     obtain ⟨ad1, e2, hy0, hy1⟩ := at_T109 HR1.out (i : Int) (Int.natCast_nonneg _) (Int.ofNat_lt.2 hlt)
     cases e2
     rw [Int.toNat_natCast] at hy0 hy1
     replace hy0 := (HB.out.cell (World.block_lt_of_cell? w _ hy0)).trans hy0
     replace hy1 := (HB.out.cell (World.block_lt_of_cell? w _ hy1)).trans hy1
     have HLT := Aside0.mk hlt
     have HI := Aside0.mk hi
     have HWR := Aside0.mk (show wrap64 ((i : Int) + 1) = ((i + 1 : Nat) : Int) by have := HLN.out; unfold wrap64; omega)
     have hed : l1.drop i = (rd_T109 l1 (i : Int)) :: l1.drop (i + 1) := by rw [List.drop_eq_getElem_cons hlt]; congr 1; simp [rd_T109, List.getD, hlt]
     have HE1 := HE.out
     rw [hed, eachFrom] at HE1
     clear HE hed hlt hi
     by_cases p0 : (rd_T109 l1 (i : Int)).f0 < 0
     ·have p0b : decide ((rd_T109 l1 (i : Int)).f0 < 0) = true := decide_eq_true p0
      rw [if_neg (by omega)] at HE1
      obtain ⟨rfl, rfl⟩ := Prod.mk.inj HE1
      clear p0 HE1
      go_wp2_with (go_at_call 108; (refine (impl_copyStock.calls _ _ l0 cp _ ?s1 ?s2 HCP.out).mono ?_); (case s1 => exact Kd.qf1 HR0.out (by repeat (first | (with_reducible first | exact HB.out | apply qc0 | apply qa0 | apply qb0) | exact HB.out))); (case s2 => exact HC0.out); rintro e w9 ⟨v9_, rfl, ho_, hb_⟩; have n0_ := Aside0.mk (Kd.qi1 ho_ (qh0 (by repeat (first | (with_reducible first | exact HB.out | apply qc0 | apply qa0 | apply qb0) | exact HB.out)))); have n1_ := Aside0.mk (qf0 (by repeat (first | (with_reducible first | exact HB.out | apply qc0 | apply qa0 | apply qb0) | exact HB.out)) hb_); clear HB ho_ hb_; have HO9 := n0_; have HB := n1_; clear n0_ n1_)
      go_ret2
      exact ⟨_, rfl, HO9.out, by repeat (first | (with_reducible first | exact HB.out | apply qc0 | apply qa0 | apply qb0) | exact HB.out)⟩
     ·have p0b : decide ((rd_T109 l1 (i : Int)).f0 < 0) = false := decide_eq_false p0
      by_cases p1 : (rd_T109 l1 (i : Int)).f0 ≥ (cp.length : Int)
      ·have p1b : decide ((rd_T109 l1 (i : Int)).f0 ≥ (cp.length : Int)) = true := decide_eq_true p1
       have p1c : decide ((cp.length : Int) ≤ (rd_T109 l1 (i : Int)).f0) = true := p1b
       rw [if_neg (by have := HOL.out; omega)] at HE1
       obtain ⟨rfl, rfl⟩ := Prod.mk.inj HE1
       clear p0 p1 HE1
       go_wp2_with (go_at_call 108; (refine (impl_copyStock.calls _ _ l0 cp _ ?s1 ?s2 HCP.out).mono ?_); (case s1 => exact Kd.qf1 HR0.out (by repeat (first | (with_reducible first | exact HB.out | apply qc0 | apply qa0 | apply qb0) | exact HB.out))); (case s2 => exact HC0.out); rintro e w9 ⟨v9_, rfl, ho_, hb_⟩; have n0_ := Aside0.mk (Kd.qi1 ho_ (qh0 (by repeat (first | (with_reducible first | exact HB.out | apply qc0 | apply qa0 | apply qb0) | exact HB.out)))); have n1_ := Aside0.mk (qf0 (by repeat (first | (with_reducible first | exact HB.out | apply qc0 | apply qa0 | apply qb0) | exact HB.out)) hb_); clear HB ho_ hb_; have HO9 := n0_; have HB := n1_; clear n0_ n1_)
       go_ret2
       exact ⟨_, rfl, HO9.out, by repeat (first | (with_reducible first | exact HB.out | apply qc0 | apply qa0 | apply qb0) | exact HB.out)⟩
      ·have p1b : decide ((rd_T109 l1 (i : Int)).f0 ≥ (cp.length : Int)) = false := decide_eq_false p1
       have p1c : decide ((cp.length : Int) ≤ (rd_T109 l1 (i : Int)).f0) = false := p1b
       by_cases p2 : 1 ≤ (rd_T109 l1 (i : Int)).f1 ∧ (rd_T109 l1 (i : Int)).f1 ≤ 1000000
       ·have EB := Aside0.mk (show impl_between.f (rd_T109 l1 (i : Int)).f1 1 1000000 = some true by unfold impl_between.f; rw [if_pos p2.1, decide_eq_true p2.2])
        rw [if_pos (by have := HOL.out; omega)] at HE1
        obtain ⟨go, co', eo, gb0, gl0, cl0, hg0⟩ := Kd.R_form HO.out (by have := HOL.out; omega)
        obtain ⟨rfl, rfl⟩ : Ao = some ⟨go, 0, none⟩ ∧ co = co' := by injection eo with ea_ _ ec_; exact ⟨ea_, ec_⟩
        have HNE0 := Aside0.mk (show ¬ wr.heap.size = go by omega)
        clear eo gb0 gl0 hg0
        have HIN := Aside0.mk (show 0 ≤ (rd_T109 l1 (i : Int)).f0 ∧ (rd_T109 l1 (i : Int)).f0 < (out.length : Int) by have := HOL.out; omega)
        have pq0 : (0 ≤ (rd_T109 l1 (i : Int)).f0) = True := eq_true (by omega)
        have pq1 : ((rd_T109 l1 (i : Int)).f0 < (cp.length : Int)) = True := eq_true (by omega)
        clear p0 p1 p2
        by_cases p3 : (D (rd_T106 out (rd_T109 l1 (i : Int)).f0) (rd_T109 l1 (i : Int)).f1).2 = true
        ·have HD := Aside0.mk p3
         rw [if_pos p3] at HE1
         have HE := Aside0.mk HE1
         clear p3 HE1
         go_wp2_with (go_at_call 54; (refine (impl_between.calls (rd_T109 l1 (i : Int)).f1 1 1000000 true _ EB.out).mono ?_); rintro e w' ⟨rfl, ⟨nd, rfl⟩⟩)
         have hbx : (wr.alloc (.cells #[.int .i64 (rd_T109 l1 (i : Int)).f0, .int .i64 (rd_T109 l1 (i : Int)).f1] 109)).heap[wr.heap.size]? = some (.cells #[.int .i64 (rd_T109 l1 (i : Int)).f0, .int .i64 (rd_T109 l1 (i : Int)).f1] 109 (0, 0)) := by (show (wr.heap.push _)[wr.heap.size]? = _); rw [Array.getElem?_push_size]
         have hz0 : ((wr.alloc (.cells #[.int .i64 (rd_T109 l1 (i : Int)).f0, .int .i64 (rd_T109 l1 (i : Int)).f1] 109)).drewN nd).cell? ⟨wr.heap.size, 0, none⟩ = some (.int .i64 (rd_T109 l1 (i : Int)).f0) := (qe0 hbx 0).trans rfl
         have hz1 : ((wr.alloc (.cells #[.int .i64 (rd_T109 l1 (i : Int)).f0, .int .i64 (rd_T109 l1 (i : Int)).f1] 109)).drewN nd).cell? ⟨wr.heap.size, 1, none⟩ = some (.int .i64 (rd_T109 l1 (i : Int)).f1) := (qe0 hbx 1).trans rfl
         have HOx := Aside0.mk (Kd.ql0 (Kd.qm0 HO.out (.cells #[.int .i64 (rd_T109 l1 (i : Int)).f0, .int .i64 (rd_T109 l1 (i : Int)).f1] 109)) nd)
         have HBx := Aside0.mk (show Below w.heap.size w ((wr.alloc (.cells #[.int .i64 (rd_T109 l1 (i : Int)).f0, .int .i64 (rd_T109 l1 (i : Int)).f1] 109)).drewN nd) from by repeat (first | (with_reducible first | exact HB.out | apply qc0 | apply qa0 | apply qb0) | exact HB.out))
         have HNE := Aside0.mk (show ¬ (⟨wr.heap.size, 0, none⟩ : Addr).block = go from HNE0.out)
         clear hbx HO HB HNE0 hy0 hy1
         have HO := HOx
         have HB := HBx
         clear HOx HBx
         generalize (wr.alloc (.cells #[.int .i64 (rd_T109 l1 (i : Int)).f0, .int .i64 (rd_T109 l1 (i : Int)).f1] 109)).drewN nd = wx at HO HB hz0 hz1 ⊢
         generalize wr.heap.size = gb at hz0 hz1 HNE ⊢
         refine qs1 (n := 9) (S := fun w' => w'.cell? ⟨gb, 0, none⟩ = some (.int .i64 (rd_T109 l1 (i : Int)).f0) ∧ w'.cell? ⟨gb, 1, none⟩ = some (.int .i64 (rd_T109 l1 (i : Int)).f1)) (ds := []) #[false, false, false, false, false, false, false, false, false] (by kernel_rfl) rfl rfl ⟨hz0, hz1⟩ (fun hHeld => ?_); refine qd1 each_do.tab11 each_do.bits11 (fun HT_ HW_ => ?_)
         refine pure_ (i := 0) (N := some 45) (v := ?_) (a' := ?_) #[true, false, false, false, false, false, false, false, false] rfl rfl (qq0 HT_.out (by kernel_rfl)) (fun _ _ _ h => h) (Or.inl ⟨by rfl, ?_⟩) ?_ ?_
         rotate_left
         ·intro w'
          go_simp
          with_reducible rfl
         rotate_left
         ·simp only [Act.put, List.setIfInBounds_toArray, List.set_cons_zero, List.set_cons_succ, i64_w, i32_w]
          rfl
         refine pure_ (i := 1) (N := some 46) (v := ?_) (a' := ?_) #[true, true, false, false, false, false, false, false, false] rfl rfl (qq0 HT_.out (by kernel_rfl)) (fun _ _ _ h => h) (Or.inl ⟨by rfl, ?_⟩) ?_ ?_
         rotate_left
         ·intro w'
          go_simp
          with_reducible rfl
         rotate_left
         ·simp only [Act.put, List.setIfInBounds_toArray, List.set_cons_zero, List.set_cons_succ, i64_w, i32_w]
          rfl
         refine pure_ (i := 2) (N := some 47) (v := ?_) (a' := ?_) #[true, true, true, false, false, false, false, false, false] rfl rfl (qq0 HT_.out (by kernel_rfl)) (fun _ _ _ h => h) (Or.inl ⟨by rfl, ?_⟩) ?_ ?_
         rotate_left
         ·intro w'
          go_simp
          with_reducible rfl
         rotate_left
         ·simp only [Act.put, List.setIfInBounds_toArray, List.set_cons_zero, List.set_cons_succ, i64_w, i32_w]
          rfl
         refine pure_ (i := 5) (N := some 50) (v := ?_) (a' := ?_) #[true, true, true, false, false, true, false, false, false] rfl rfl (qq0 HT_.out (by kernel_rfl)) (fun _ _ _ h => h) (Or.inl ⟨by rfl, ?_⟩) ?_ ?_
         rotate_left
         ·intro w'
          go_simp
          with_reducible rfl
         rotate_left
         ·simp only [Act.put, List.setIfInBounds_toArray, List.set_cons_zero, List.set_cons_succ, i64_w, i32_w]
          rfl
         refine take_ (i := 3) (N := some 48) (v := ?_) (a' := ?_) #[true, true, true, true, false, true, false, false, false] rfl rfl (take_ofW HT_.out HW_.out (by kernel_rfl)) (fun _ _ _ h => h) (Or.inl ⟨by rfl, ?_⟩) hHeld ?_ ?_
         rotate_left
         ·rintro w' ⟨s0, s1⟩
          go_simp
          with_reducible rfl
         rotate_left
         ·simp only [Act.put, List.setIfInBounds_toArray, List.set_cons_zero, List.set_cons_succ, i64_w, i32_w]
          rfl
         refine pure_ (i := 4) (N := some 49) (v := ?_) (a' := ?_) #[true, true, true, true, true, true, false, false, false] rfl rfl (qq0 HT_.out (by kernel_rfl)) (fun _ _ _ h => h) (Or.inl ⟨by rfl, ?_⟩) ?_ ?_
         rotate_left
         ·intro w'
          go_simp
          with_reducible rfl
         rotate_left
         ·simp only [Act.put, List.setIfInBounds_toArray, List.set_cons_zero, List.set_cons_succ, i64_w, i32_w]
          rfl
         refine take_ (i := 6) (N := some 51) (v := ?_) (a' := ?_) #[true, true, true, true, true, true, true, false, false] rfl rfl (take_ofW HT_.out HW_.out (by kernel_rfl)) (fun _ _ _ h => h) (Or.inl ⟨by rfl, ?_⟩) hHeld ?_ ?_
         rotate_left
         ·rintro w' ⟨s0, s1⟩
          go_simp
          with_reducible rfl
         rotate_left
         ·simp only [Act.put, List.setIfInBounds_toArray, List.set_cons_zero, List.set_cons_succ, i64_w, i32_w]
          rfl
         refine one_ (i := 7) (N := some 52) #[true, true, true, true, true, true, true, true, false] rfl rfl (qt1 HT_.out (by kernel_rfl)) (by decide) (fun K hK => ?_)
         refine goesD_ hen #[.pointer (some ⟨go, (rd_T109 l1 (i : Int)).f0.toNat * 6, none⟩), .int .i64 (rd_T109 l1 (i : Int)).f1] (by rfl) rfl rfl rfl (by (try simp only [List.map_toArray, List.map_cons, List.map_nil]); first | done | rfl) ?_
         refine (hdo w _ (fun _ => True) go co out (rd_T109 l1 (i : Int)).f0 (rd_T109 l1 (i : Int)).f1 (qb0 HB.out) (Kd.qo0 (by have h_ := HO.out; rw [HOL.out] at h_; exact h_)) HIN.out.1 HIN.out.2).mono ?_
         rintro e w2 ⟨rfl, ho_, hb_, hk_⟩
         rw [HD.out]
         refine ⟨_, rfl, ?_⟩
         have HO2 := Aside0.mk ho_
         have HB2 := Aside0.mk hb_
         clear ho_ hb_
         refine hK.out _ _ ⟨cell_kept hz0 hk_ HNE.out, cell_kept hz1 hk_ HNE.out⟩ (fun hHeld => ?_)
         clear hk_
         clear hK K
         refine norm_ (a' := ?_) ?_ ?_
         rotate_left
         ·show Act.put _ (some 52) _ = _
          simp only [Act.put, List.setIfInBounds_toArray, List.set_cons_zero, List.set_cons_succ, i64_w, i32_w]
          rfl
         refine pure_ (i := 8) (N := some 53) (v := ?_) (a' := ?_) #[true, true, true, true, true, true, true, true, true] rfl rfl (qq0 HT_.out (by kernel_rfl)) (fun _ _ _ h => h) (Or.inl ⟨by rfl, ?_⟩) ?_ ?_
         rotate_left
         ·intro w'
          go_simp
          with_reducible rfl
         rotate_left
         ·simp only [Act.put, List.setIfInBounds_toArray, List.set_cons_zero, List.set_cons_succ, i64_w, i32_w]
          rfl
         refine done_ (qm1 HT_.out (by kernel_rfl)) ?_
         go_wp2
         go_roundg (gk - 1)
         case rel => exact ⟨i + 1, _, by have := HLT.out; have := HI.out; omega, by rw [HWR.out], HE, ⟨by have h_ := HO2.out; rw [← HOL.out] at h_; exact h_⟩, HB2⟩
         case measure => have := HLT.out; have := HI.out; omega
        ·have HD := Aside0.mk (Bool.eq_false_iff.mpr p3)
         rw [if_neg p3] at HE1
         obtain ⟨rfl, rfl⟩ := Prod.mk.inj HE1
         clear p3 HE1
         go_wp2_with (go_at_call 54; (refine (impl_between.calls (rd_T109 l1 (i : Int)).f1 1 1000000 true _ EB.out).mono ?_); rintro e w' ⟨rfl, ⟨nd, rfl⟩⟩)
         have hbx : (wr.alloc (.cells #[.int .i64 (rd_T109 l1 (i : Int)).f0, .int .i64 (rd_T109 l1 (i : Int)).f1] 109)).heap[wr.heap.size]? = some (.cells #[.int .i64 (rd_T109 l1 (i : Int)).f0, .int .i64 (rd_T109 l1 (i : Int)).f1] 109 (0, 0)) := by (show (wr.heap.push _)[wr.heap.size]? = _); rw [Array.getElem?_push_size]
         have hz0 : ((wr.alloc (.cells #[.int .i64 (rd_T109 l1 (i : Int)).f0, .int .i64 (rd_T109 l1 (i : Int)).f1] 109)).drewN nd).cell? ⟨wr.heap.size, 0, none⟩ = some (.int .i64 (rd_T109 l1 (i : Int)).f0) := (qe0 hbx 0).trans rfl
         have hz1 : ((wr.alloc (.cells #[.int .i64 (rd_T109 l1 (i : Int)).f0, .int .i64 (rd_T109 l1 (i : Int)).f1] 109)).drewN nd).cell? ⟨wr.heap.size, 1, none⟩ = some (.int .i64 (rd_T109 l1 (i : Int)).f1) := (qe0 hbx 1).trans rfl
         have HOx := Aside0.mk (Kd.ql0 (Kd.qm0 HO.out (.cells #[.int .i64 (rd_T109 l1 (i : Int)).f0, .int .i64 (rd_T109 l1 (i : Int)).f1] 109)) nd)
         have HBx := Aside0.mk (show Below w.heap.size w ((wr.alloc (.cells #[.int .i64 (rd_T109 l1 (i : Int)).f0, .int .i64 (rd_T109 l1 (i : Int)).f1] 109)).drewN nd) from by repeat (first | (with_reducible first | exact HB.out | apply qc0 | apply qa0 | apply qb0) | exact HB.out))
         have HNE := Aside0.mk (show ¬ (⟨wr.heap.size, 0, none⟩ : Addr).block = go from HNE0.out)
         clear hbx HO HB HNE0 hy0 hy1
         have HO := HOx
         have HB := HBx
         clear HOx HBx
         generalize (wr.alloc (.cells #[.int .i64 (rd_T109 l1 (i : Int)).f0, .int .i64 (rd_T109 l1 (i : Int)).f1] 109)).drewN nd = wx at HO HB hz0 hz1 ⊢
         generalize wr.heap.size = gb at hz0 hz1 HNE ⊢
         refine qs1 (n := 9) (S := fun w' => w'.cell? ⟨gb, 0, none⟩ = some (.int .i64 (rd_T109 l1 (i : Int)).f0) ∧ w'.cell? ⟨gb, 1, none⟩ = some (.int .i64 (rd_T109 l1 (i : Int)).f1)) (ds := []) #[false, false, false, false, false, false, false, false, false] (by kernel_rfl) rfl rfl ⟨hz0, hz1⟩ (fun hHeld => ?_); refine qd1 each_do.tab11 each_do.bits11 (fun HT_ HW_ => ?_)
         refine pure_ (i := 0) (N := some 45) (v := ?_) (a' := ?_) #[true, false, false, false, false, false, false, false, false] rfl rfl (qq0 HT_.out (by kernel_rfl)) (fun _ _ _ h => h) (Or.inl ⟨by rfl, ?_⟩) ?_ ?_
         rotate_left
         ·intro w'
          go_simp
          with_reducible rfl
         rotate_left
         ·simp only [Act.put, List.setIfInBounds_toArray, List.set_cons_zero, List.set_cons_succ, i64_w, i32_w]
          rfl
         refine pure_ (i := 1) (N := some 46) (v := ?_) (a' := ?_) #[true, true, false, false, false, false, false, false, false] rfl rfl (qq0 HT_.out (by kernel_rfl)) (fun _ _ _ h => h) (Or.inl ⟨by rfl, ?_⟩) ?_ ?_
         rotate_left
         ·intro w'
          go_simp
          with_reducible rfl
         rotate_left
         ·simp only [Act.put, List.setIfInBounds_toArray, List.set_cons_zero, List.set_cons_succ, i64_w, i32_w]
          rfl
         refine pure_ (i := 2) (N := some 47) (v := ?_) (a' := ?_) #[true, true, true, false, false, false, false, false, false] rfl rfl (qq0 HT_.out (by kernel_rfl)) (fun _ _ _ h => h) (Or.inl ⟨by rfl, ?_⟩) ?_ ?_
         rotate_left
         ·intro w'
          go_simp
          with_reducible rfl
         rotate_left
         ·simp only [Act.put, List.setIfInBounds_toArray, List.set_cons_zero, List.set_cons_succ, i64_w, i32_w]
          rfl
         refine pure_ (i := 5) (N := some 50) (v := ?_) (a' := ?_) #[true, true, true, false, false, true, false, false, false] rfl rfl (qq0 HT_.out (by kernel_rfl)) (fun _ _ _ h => h) (Or.inl ⟨by rfl, ?_⟩) ?_ ?_
         rotate_left
         ·intro w'
          go_simp
          with_reducible rfl
         rotate_left
         ·simp only [Act.put, List.setIfInBounds_toArray, List.set_cons_zero, List.set_cons_succ, i64_w, i32_w]
          rfl
         refine take_ (i := 3) (N := some 48) (v := ?_) (a' := ?_) #[true, true, true, true, false, true, false, false, false] rfl rfl (take_ofW HT_.out HW_.out (by kernel_rfl)) (fun _ _ _ h => h) (Or.inl ⟨by rfl, ?_⟩) hHeld ?_ ?_
         rotate_left
         ·rintro w' ⟨s0, s1⟩
          go_simp
          with_reducible rfl
         rotate_left
         ·simp only [Act.put, List.setIfInBounds_toArray, List.set_cons_zero, List.set_cons_succ, i64_w, i32_w]
          rfl
         refine pure_ (i := 4) (N := some 49) (v := ?_) (a' := ?_) #[true, true, true, true, true, true, false, false, false] rfl rfl (qq0 HT_.out (by kernel_rfl)) (fun _ _ _ h => h) (Or.inl ⟨by rfl, ?_⟩) ?_ ?_
         rotate_left
         ·intro w'
          go_simp
          with_reducible rfl
         rotate_left
         ·simp only [Act.put, List.setIfInBounds_toArray, List.set_cons_zero, List.set_cons_succ, i64_w, i32_w]
          rfl
         refine take_ (i := 6) (N := some 51) (v := ?_) (a' := ?_) #[true, true, true, true, true, true, true, false, false] rfl rfl (take_ofW HT_.out HW_.out (by kernel_rfl)) (fun _ _ _ h => h) (Or.inl ⟨by rfl, ?_⟩) hHeld ?_ ?_
         rotate_left
         ·rintro w' ⟨s0, s1⟩
          go_simp
          with_reducible rfl
         rotate_left
         ·simp only [Act.put, List.setIfInBounds_toArray, List.set_cons_zero, List.set_cons_succ, i64_w, i32_w]
          rfl
         refine one_ (i := 7) (N := some 52) #[true, true, true, true, true, true, true, true, false] rfl rfl (qt1 HT_.out (by kernel_rfl)) (by decide) (fun K hK => ?_)
         refine goesD_ hen #[.pointer (some ⟨go, (rd_T109 l1 (i : Int)).f0.toNat * 6, none⟩), .int .i64 (rd_T109 l1 (i : Int)).f1] (by rfl) rfl rfl rfl (by (try simp only [List.map_toArray, List.map_cons, List.map_nil]); first | done | rfl) ?_
         refine (hdo w _ (fun _ => True) go co out (rd_T109 l1 (i : Int)).f0 (rd_T109 l1 (i : Int)).f1 (qb0 HB.out) (Kd.qo0 (by have h_ := HO.out; rw [HOL.out] at h_; exact h_)) HIN.out.1 HIN.out.2).mono ?_
         rintro e w2 ⟨rfl, ho_, hb_, hk_⟩
         rw [HD.out]
         refine ⟨_, rfl, ?_⟩
         have HO2 := Aside0.mk ho_
         have HB2 := Aside0.mk hb_
         clear ho_ hb_
         refine hK.out _ _ ⟨cell_kept hz0 hk_ HNE.out, cell_kept hz1 hk_ HNE.out⟩ (fun hHeld => ?_)
         clear hk_
         clear hK K
         refine norm_ (a' := ?_) ?_ ?_
         rotate_left
         ·show Act.put _ (some 52) _ = _
          simp only [Act.put, List.setIfInBounds_toArray, List.set_cons_zero, List.set_cons_succ, i64_w, i32_w]
          rfl
         refine pure_ (i := 8) (N := some 53) (v := ?_) (a' := ?_) #[true, true, true, true, true, true, true, true, true] rfl rfl (qq0 HT_.out (by kernel_rfl)) (fun _ _ _ h => h) (Or.inl ⟨by rfl, ?_⟩) ?_ ?_
         rotate_left
         ·intro w'
          go_simp
          with_reducible rfl
         rotate_left
         ·simp only [Act.put, List.setIfInBounds_toArray, List.set_cons_zero, List.set_cons_succ, i64_w, i32_w]
          rfl
         refine done_ (qm1 HT_.out (by kernel_rfl)) ?_
         have HB := HB2
         go_wp2_with (go_at_call 108; (refine (impl_copyStock.calls _ _ l0 cp _ ?s1 ?s2 HCP.out).mono ?_); (case s1 => exact Kd.qf1 HR0.out (by repeat (first | (with_reducible first | exact HB.out | apply qc0 | apply qa0 | apply qb0) | exact HB.out))); (case s2 => exact HC0.out); rintro e w9 ⟨v9_, rfl, ho_, hb_⟩; have n0_ := Aside0.mk (Kd.qi1 ho_ (qh0 (by repeat (first | (with_reducible first | exact HB.out | apply qc0 | apply qa0 | apply qb0) | exact HB.out)))); have n1_ := Aside0.mk (qf0 (by repeat (first | (with_reducible first | exact HB.out | apply qc0 | apply qa0 | apply qb0) | exact HB.out)) hb_); clear HB ho_ hb_; have HO9 := n0_; have HB := n1_; clear n0_ n1_)
         go_ret2
         exact ⟨_, rfl, HO9.out, by repeat (first | (with_reducible first | exact HB.out | apply qc0 | apply qa0 | apply qb0) | exact HB.out)⟩
       ·have EB := Aside0.mk (show impl_between.f (rd_T109 l1 (i : Int)).f1 1 1000000 = some false by
          unfold impl_between.f
          by_cases c_ : (rd_T109 l1 (i : Int)).f1 ≥ 1
          ·rw [if_pos c_, decide_eq_false (by omega)]
          ·rw [if_neg c_])
        rw [if_neg (by omega)] at HE1
        obtain ⟨rfl, rfl⟩ := Prod.mk.inj HE1
        clear p0 p1 p2 HE1
        go_wp2_with (first | (go_at_call 54; (refine (impl_between.calls (rd_T109 l1 (i : Int)).f1 1 1000000 false _ EB.out).mono ?_); rintro e w' ⟨rfl, ⟨nd, rfl⟩⟩) | (go_at_call 108; (refine (impl_copyStock.calls _ _ l0 cp _ ?s1 ?s2 HCP.out).mono ?_); (case s1 => exact Kd.qf1 HR0.out (by repeat (first | (with_reducible first | exact HB.out | apply qc0 | apply qa0 | apply qb0) | exact HB.out))); (case s2 => exact HC0.out); rintro e w9 ⟨v9_, rfl, ho_, hb_⟩; have n0_ := Aside0.mk (Kd.qi1 ho_ (qh0 (by repeat (first | (with_reducible first | exact HB.out | apply qc0 | apply qa0 | apply qb0) | exact HB.out)))); have n1_ := Aside0.mk (qf0 (by repeat (first | (with_reducible first | exact HB.out | apply qc0 | apply qa0 | apply qb0) | exact HB.out)) hb_); clear HB ho_ hb_; have HO9 := n0_; have HB := n1_; clear n0_ n1_))
        go_ret2
        exact ⟨_, rfl, HO9.out, by repeat (first | (with_reducible first | exact HB.out | apply qc0 | apply qa0 | apply qb0) | exact HB.out)⟩
    ·have hltb : decide ((i : Int) < (l1.length : Int)) = false := decide_eq_false (by omega)
     have hltc : decide (i < l1.length) = false := decide_eq_false hlt
     have HE1 := HE.out
     rw [List.drop_eq_nil_of_le (by omega), eachFrom] at HE1
     obtain ⟨rfl, rfl⟩ := Prod.mk.inj HE1
     clear hlt hi HE HE1
     go_wp2
     go_ret2
     exact ⟨_, rfl, HO.out, HB.out⟩
 ·obtain rfl : t = false := Bool.eq_false_iff.mpr d0
  rw [if_neg (by decide)] at h
  obtain ⟨rfl, rfl⟩ := Prod.mk.inj (Option.some.inj h)
  clear h
  go_enter Try.func74, Try.ntmps74
  go_wp2_with (go_at_call 107; (refine (impl_StockOk.calls k _ _ l0 false _ ?s1 ?s2 E1.out).mono ?_); (case s1 => exact Kd.qf1 HR0.out (by repeat (first | (with_reducible first | exact HB.out | apply qc0 | apply qa0 | apply qb0) | exact HB.out))); (case s2 => exact HC0.out); rintro e w8 ⟨rfl, hb_⟩; have n1_ := Aside0.mk (qf0 (by repeat (first | (with_reducible first | exact HB.out | apply qc0 | apply qa0 | apply qb0) | exact HB.out)) hb_); clear HB hb_; have HB := n1_; clear n1_)
  go_ret2
  exact ⟨_, rfl, Kd.R_nil _ _ _ _ _, by repeat (first | (with_reducible first | exact HB.out | apply qc0 | apply qa0 | apply qb0) | exact HB.out)⟩
/-- The step as a pair. -/
def shipD (x : S106) (q : Int) : S106 × Bool := (shipCell x q, shipOk x q)
def impl_Ship.f (k : Nat) (l0 : List S106) (l1 : List S109) : Option (List S106 × Int) := each.f shipD k l0 l1
theorem impl_Ship.mono : ∀ a0 a1 k, LeO (impl_Ship.f k a0 a1) (impl_Ship.f (k + 1) a0 a1) := by
 intro l0 l1 k r h
 unfold impl_Ship.f each.f at h ⊢
 obtain ⟨t, e1, h⟩ := Option.bind_eq_some_iff.1 h
 rw [impl_StockOk.mono _ _ _ e1, Option.bind_some]
 exact h
set_option maxHeartbeats 8000000 in
set_option maxRecDepth 100000 in
theorem impl_Ship.calls (k : Nat) (A0 : Option Addr) (c0 : Nat) (l0 : List S106) (A1 : Option Addr) (c1 : Nat) (l1 : List S109) (r1 : List S106) (r2 : Int) (w : World) (hr0 : Kd.C k106 w A0 l0.length l0) (hc0 : l0.length ≤ c0) (hr1 : Kd.C k109 w A1 l1.length l1) (hc1 : l1.length ≤ c1) (h : impl_Ship.f k l0 l1 = some (r1, r2)) :
  Calls Try.prog 32 #[.slice A0 l0.length c0, .slice A1 l1.length c1] w fun e w' => ∃ v0_ : Value, e = .returned (.tuple #[v0_, .int .i64 r2]) ∧ Kd.R k106 106 w' w.heap.size (fun _ => True) v0_ r1 ∧ Below w.heap.size w w' := by
 go_enter Try.func32, Try.ntmps32
 go_wp2_with (go_at_call 74; (refine (each.calls 79 shipD (fn_enters Try.func79 (by kernel_rfl) rfl) (fun w0 w P go co out i q hB hR h0 h1 => ship_do w0 w P go co out i q hB hR h0 h1) k A0 c0 l0 A1 c1 l1 r1 r2 w hr0 hc0 hr1 hc1 h).mono ?_); rintro e w9 ⟨v9_, rfl, ho_, hb_⟩)
 go_ret2
 exact ⟨_, rfl, ho_, hb_⟩

end Go.Proofs.Ytdnenglafphkbaa.PFnExactShip
