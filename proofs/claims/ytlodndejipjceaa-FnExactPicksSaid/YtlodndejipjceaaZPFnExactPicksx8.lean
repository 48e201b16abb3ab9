/- Lines by a program (a changed copy of the kit's print: this repo's wip/tools): Go functions as Lean functions, and proofs that the calls answer so. -/
import Derived.Test.YtlodndejipjceaaZPFnExactPicksx0
import Derived.Test.YtlodndejipjceaaZPFnExactPicksx7
namespace Go.Proofs.Ytlodndejipjceaa.PFnExactPicks
open Go.RowKit Go.Proofs.YtlodndejipjceaaW.PrintWords Go.Proofs.YtlodndejipjceaaW.PrintLast Go.Proofs.YtlodndejipjceaaW.PrintMore
attribute [local go_sem] max2_int min2_int max_two min_two max_three min_three max_four min_four   -- for this text's walks alone
set_option linter.unusedVariables false
set_option linter.unusedSimpArgs false

/-! ### impl_StockOk: function 126 -/
def impl_StockOk.l0 : Nat → List (S212 × Bool) → List (S160) → Int → Int → Option (Bool)
 | 0, _, _, _, _ => none
 | k + 1, x3, x10, x11, x12 => if x12 < x11 then (if 0 ≤ x12 then (if x12 < (x10.length : Int) then ((impl_cellOk.f k ((rd_T160 x10 x12).f0) ((rd_T160 x10 x12).f1) ((rd_T160 x10 x12).f2) ((rd_T160 x10 x12).f3) ((rd_T160 x10 x12).f4) ((rd_T160 x10 x12).f5)).bind fun t224 => (if t224 = true then ((impl_Cell_where.f ((rd_T160 x10 x12).f0) ((rd_T160 x10 x12).f1) ((rd_T160 x10 x12).f2) ((rd_T160 x10 x12).f3) ((rd_T160 x10 x12).f4) ((rd_T160 x10 x12).f5)).bind fun bt225 => (if bt225.1.size ≤ 9223372036854775807 then (if bt225.2.1.size ≤ 9223372036854775807 then (if bt225.2.2.size ≤ 9223372036854775807 then (if (mget x3 (⟨bt225.1, bt225.2.1, bt225.2.2⟩ : S212)).getD false = true then (some false) else ((impl_Cell_where.f ((rd_T160 x10 x12).f0) ((rd_T160 x10 x12).f1) ((rd_T160 x10 x12).f2) ((rd_T160 x10 x12).f3) ((rd_T160 x10 x12).f4) ((rd_T160 x10 x12).f5)).bind fun bt228 => (if bt228.1.size ≤ 9223372036854775807 then (if bt228.2.1.size ≤ 9223372036854775807 then (if bt228.2.2.size ≤ 9223372036854775807 then (impl_StockOk.l0 k (mset x3 (⟨bt228.1, bt228.2.1, bt228.2.2⟩ : S212) true) x10 x11 (wrap64 (x12 + 1))) else (none)) else (none)) else (none)))) else (none)) else (none)) else (none))) else (some false))) else (none)) else (none)) else (some true)
def impl_StockOk.f (k : Nat) (l0 : List (S160)) : Option (Bool) := if (l0.length : Int) > 100 then (some false) else (impl_StockOk.l0 k (([] : List (S212 × Bool))) l0 (l0.length : Int) 0)
theorem impl_StockOk.mono_l : ∀ k, (∀ y0 y1 y2 y3, LeO (impl_StockOk.l0 k y0 y1 y2 y3) (impl_StockOk.l0 (k + 1) y0 y1 y2 y3))
 | 0 => fun _ _ _ _ r h => by simp [impl_StockOk.l0] at h
 | k + 1 => by
  have ih0 := impl_StockOk.mono_l k
  ·intro y0 y1 y2 y3
   unfold impl_StockOk.l0
   repeat' first
   | (with_reducible exact ih0 _ _ _ _)
   | (with_reducible exact impl_cellOk.mono _ _ _ _ _ _ _)
   | (with_reducible exact LeO.refl _)
   | (with_reducible exact LeO.none _)
   | (with_reducible refine LeO.ite ?_ ?_)
   | (with_reducible refine LeO.bind ?_ (fun _ => ?_))
   | exact ih0 _ _ _ _
   | exact impl_cellOk.mono _ _ _ _ _ _ _
   | exact LeO.none _
   | refine LeO.ite ?_ ?_
   | refine LeO.bind ?_ (fun _ => ?_)
theorem impl_StockOk.mono : ∀ a0 k, LeO (impl_StockOk.f k a0) (impl_StockOk.f (k + 1) a0) := by
 intro a0 k
 have ih0 := impl_StockOk.mono_l k
 unfold impl_StockOk.f
 repeat' first
   | (with_reducible exact ih0 _ _ _ _)
   | (with_reducible exact impl_cellOk.mono _ _ _ _ _ _ _)
   | (with_reducible exact LeO.refl _)
   | (with_reducible exact LeO.none _)
   | (with_reducible refine LeO.ite ?_ ?_)
   | (with_reducible refine LeO.bind ?_ (fun _ => ?_))
   | exact ih0 _ _ _ _
   | exact impl_cellOk.mono _ _ _ _ _ _ _
   | exact LeO.none _
   | refine LeO.ite ?_ ?_
   | refine LeO.bind ?_ (fun _ => ?_)
set_option maxHeartbeats 8000000 in
set_option maxRecDepth 100000 in
theorem impl_StockOk.calls (k : Nat) (A0 : Option Addr) (c0 : Nat) (l0 : List (S160)) (r : Bool) (w : World) (hr0 : Kd.C k160 w A0 l0.length l0) (hc0 : l0.length ≤ c0) (h : impl_StockOk.f k l0 = some r) :
  Calls Try.prog 126 #[.slice A0 l0.length c0] w fun e w' => e = .returned (.bool r) ∧ Below w.heap.size w w' := by
 have hu160 := Try.underlying160
 have HR0 := Aside0.mk hr0
 have HC0 := Aside0.mk hc0
 clear hr0 hc0
 have HB := Aside0.mk (Below.refl w.heap.size w)
 have H : (if (l0.length : Int) > 100 then (some false) else (impl_StockOk.l0 k (([] : List (S212 × Bool))) l0 (l0.length : Int) 0)) = some r := h
 clear h
 by_cases c2 : (l0.length : Int) > 100
 ·rw [if_pos c2] at H
  have c2b0 : decide (100 < (l0.length : Int)) = true := decide_eq_true c2
  have c2b1 : decide (100 < l0.length) = true := decide_eq_true (by omega)
  clear c2
  obtain rfl := Option.some.inj H
  go_enter Try.func126, Try.ntmps126
  go_wp2
  go_ret
  exact ⟨by first | rfl | (simp [errW_none, errW_some] <;> rfl) | (simp [*, errW_none, errW_some] <;> rfl), by repeat (first | (with_reducible first | exact HB.out | apply qc0 | apply qa0 | apply qb0) | exact HB.out)⟩
 rw [if_neg c2] at H
 have c2b0 : decide (100 < (l0.length : Int)) = false := decide_eq_false c2
 have c2b1 : decide (100 < l0.length) = false := decide_eq_false (by omega)
 clear c2
 obtain ⟨y218, hy218⟩ : ∃ y_ : List (S212 × Bool), y_ = (([] : List (S212 × Bool))) := ⟨_, rfl⟩
 replace H : (impl_StockOk.l0 k y218 l0 (l0.length : Int) 0) = some r := by first | (rw [hy218]; with_reducible exact H) | (have H2_ := (Option.bind_some _ _).symm.trans H; rw [hy218]; with_reducible exact H2_) | (have H2_ := (Option.bind_some _ _).symm.trans H; with_reducible exact H2_) | with_reducible exact H | (rw [hy218]; exact H) | exact H
 have Ny218 := Aside0.mk hy218
 clear hy218
 have H' := Aside0.mk H
 clear H
 go_enter Try.func126, Try.ntmps126
 go_wp2_with (first | ((with_reducible refine qs0 (N := 9) rfl ?_); (try (refine gate_guard (by rfl) ?_; dsimp only)); refine Kd.Z_make_op kz210 210 (ok := fun _ => True) rfl (N := 9) rfl rfl trivial ?_; intro mb221 hq_ w3 ho4 hb; rw [← Ny218.out] at ho4; have n0_ := Aside0.mk (qm0 (by repeat (first | (with_reducible first | exact HB.out | apply qc0 | apply qa0 | apply qb0) | exact HB.out)) hb); have n1_ := Aside0.mk (Kd.Z_lower ho4 (qi0 (by repeat (first | (with_reducible first | exact HB.out | apply qc0 | apply qa0 | apply qb0) | exact HB.out)))); clear HB; have HB := n0_; have HO220 := n1_; clear n0_ n1_; clear hb ho4 hq_))
 go_loopg [12] k (fun kq v12 w' => ∃ (x3_1 : List (S212 × Bool)) (x12_1 : Int), v12 = .int .i64 x12_1 ∧ Aside0 (impl_StockOk.l0 kq x3_1 l0 (l0.length : Int) x12_1 = some r) ∧ Aside0 (kq ≤ k) ∧ Aside0 (Kd.Z kz210 210 w' w.heap.size (fun _ => True) (.map (some mb221)) x3_1) ∧ Aside0 (Below w.heap.size w w'))
 case atStart => exact ⟨(y218), (0), (by first | rfl | (simp; done) | (simp [*]; done)), H', ⟨Nat.le_refl _⟩, ⟨by (with_reducible repeat (first | apply Kd.Z_alloc | apply Kd.Z_drewN | apply Kd.Z_drew)); exact HO220.out⟩, ⟨by repeat (first | (with_reducible first | exact HB.out | apply qc0 | apply qa0 | apply qb0) | exact HB.out)⟩⟩
 case round =>
  clear H'
  try clear c1
  try clear c2
  try clear c2b0
  try clear c2b1
  try clear p2
  obtain ⟨x3_1, x12_1, rfl, HA, HK1, HO_3, HB⟩ := hrel
  cases gk with
  | zero => exact absurd HA.out (by simp [impl_StockOk.l0])
  | succ k1 =>
   have H := HA.out
   clear HA
   simp only [impl_StockOk.l0] at H
   by_cases c5 : x12_1 < (l0.length : Int)
   ·rw [if_pos c5] at H
    have c5b0 : decide (x12_1 < (l0.length : Int)) = true := decide_eq_true c5
    clear c5
    by_cases c6 : 0 ≤ x12_1
    case neg => rw [if_neg c6] at H; exact absurd H (by simp)
    rw [if_pos c6] at H
    have c6b0 : decide (0 ≤ x12_1) = true := decide_eq_true c6
    clear c6
    by_cases c7 : x12_1 < (l0.length : Int)
    case neg => rw [if_neg c7] at H; exact absurd H (by simp)
    rw [if_pos c7] at H
    have c7b0 : decide (x12_1 < (l0.length : Int)) = true := decide_eq_true c7
    clear c7
    replace H := Option.bind_eq_some_iff.mp H
    obtain ⟨t224, A80, H⟩ := H
    replace H : (if t224 = true then ((impl_Cell_where.f ((rd_T160 l0 x12_1).f0) ((rd_T160 l0 x12_1).f1) ((rd_T160 l0 x12_1).f2) ((rd_T160 l0 x12_1).f3) ((rd_T160 l0 x12_1).f4) ((rd_T160 l0 x12_1).f5)).bind fun bt225 => (if bt225.1.size ≤ 9223372036854775807 then (if bt225.2.1.size ≤ 9223372036854775807 then (if bt225.2.2.size ≤ 9223372036854775807 then (if (mget x3_1 (⟨bt225.1, bt225.2.1, bt225.2.2⟩ : S212)).getD false = true then (some false) else ((impl_Cell_where.f ((rd_T160 l0 x12_1).f0) ((rd_T160 l0 x12_1).f1) ((rd_T160 l0 x12_1).f2) ((rd_T160 l0 x12_1).f3) ((rd_T160 l0 x12_1).f4) ((rd_T160 l0 x12_1).f5)).bind fun bt228 => (if bt228.1.size ≤ 9223372036854775807 then (if bt228.2.1.size ≤ 9223372036854775807 then (if bt228.2.2.size ≤ 9223372036854775807 then (impl_StockOk.l0 k1 (mset x3_1 (⟨bt228.1, bt228.2.1, bt228.2.2⟩ : S212) true) l0 (l0.length : Int) (wrap64 (x12_1 + 1))) else (none)) else (none)) else (none)))) else (none)) else (none)) else (none))) else (some false)) = some r := H
    have A8 := Aside0.mk A80
    clear A80
    by_cases c9 : t224 = true
    ·subst c9
     have H1 : ((impl_Cell_where.f ((rd_T160 l0 x12_1).f0) ((rd_T160 l0 x12_1).f1) ((rd_T160 l0 x12_1).f2) ((rd_T160 l0 x12_1).f3) ((rd_T160 l0 x12_1).f4) ((rd_T160 l0 x12_1).f5)).bind fun bt225 => (if bt225.1.size ≤ 9223372036854775807 then (if bt225.2.1.size ≤ 9223372036854775807 then (if bt225.2.2.size ≤ 9223372036854775807 then (if (mget x3_1 (⟨bt225.1, bt225.2.1, bt225.2.2⟩ : S212)).getD false = true then (some false) else ((impl_Cell_where.f ((rd_T160 l0 x12_1).f0) ((rd_T160 l0 x12_1).f1) ((rd_T160 l0 x12_1).f2) ((rd_T160 l0 x12_1).f3) ((rd_T160 l0 x12_1).f4) ((rd_T160 l0 x12_1).f5)).bind fun bt228 => (if bt228.1.size ≤ 9223372036854775807 then (if bt228.2.1.size ≤ 9223372036854775807 then (if bt228.2.2.size ≤ 9223372036854775807 then (impl_StockOk.l0 k1 (mset x3_1 (⟨bt228.1, bt228.2.1, bt228.2.2⟩ : S212) true) l0 (l0.length : Int) (wrap64 (x12_1 + 1))) else (none)) else (none)) else (none)))) else (none)) else (none)) else (none))) = some r := by rw [if_pos rfl] at H; exact H
     clear H
     have H := H1
     clear H1
     replace H := Option.bind_eq_some_iff.mp H
     obtain ⟨⟨t225, t226, t227⟩, A100, H⟩ := H
     replace H : (if t225.size ≤ 9223372036854775807 then (if t226.size ≤ 9223372036854775807 then (if t227.size ≤ 9223372036854775807 then (if (mget x3_1 (⟨t225, t226, t227⟩ : S212)).getD false = true then (some false) else ((impl_Cell_where.f ((rd_T160 l0 x12_1).f0) ((rd_T160 l0 x12_1).f1) ((rd_T160 l0 x12_1).f2) ((rd_T160 l0 x12_1).f3) ((rd_T160 l0 x12_1).f4) ((rd_T160 l0 x12_1).f5)).bind fun bt228 => (if bt228.1.size ≤ 9223372036854775807 then (if bt228.2.1.size ≤ 9223372036854775807 then (if bt228.2.2.size ≤ 9223372036854775807 then (impl_StockOk.l0 k1 (mset x3_1 (⟨bt228.1, bt228.2.1, bt228.2.2⟩ : S212) true) l0 (l0.length : Int) (wrap64 (x12_1 + 1))) else (none)) else (none)) else (none)))) else (none)) else (none)) else (none)) = some r := H
     have A10 := Aside0.mk A100
     clear A100
     by_cases c11 : t225.size ≤ 9223372036854775807
     case neg => rw [if_neg c11] at H; exact absurd H (by simp)
     rw [if_pos c11] at H
     have LMc11 := Aside0.mk c11
     clear c11
     by_cases c12 : t226.size ≤ 9223372036854775807
     case neg => rw [if_neg c12] at H; exact absurd H (by simp)
     rw [if_pos c12] at H
     have LMc12 := Aside0.mk c12
     clear c12
     by_cases c13 : t227.size ≤ 9223372036854775807
     case neg => rw [if_neg c13] at H; exact absurd H (by simp)
     rw [if_pos c13] at H
     have LMc13 := Aside0.mk c13
     clear c13
     by_cases c14 : (mget x3_1 (⟨t225, t226, t227⟩ : S212)).getD false = true
     ·rw [if_pos c14] at H
      have c14b0 : (mget x3_1 (⟨t225, t226, t227⟩ : S212)).getD false = true := c14
      clear c14
      obtain rfl := Option.some.inj H
      have p222 : 0 ≤ (x12_1 : Int) := of_decide_eq_true (by first | (with_reducible assumption) | assumption)
      have q222 : x12_1 < (l0.length : Int) := of_decide_eq_true (by first | (with_reducible assumption) | assumption)
      obtain ⟨ad222, e222, hx222_0, hx222_1, hx222_2, hx222_3, hx222_4, hx222_5⟩ := at_T160 HR0.out x12_1 p222 q222
      cases e222
      replace hx222_0 := (HB.out.cell (World.block_lt_of_cell? w _ hx222_0)).trans hx222_0
      replace hx222_1 := (HB.out.cell (World.block_lt_of_cell? w _ hx222_1)).trans hx222_1
      replace hx222_2 := (HB.out.cell (World.block_lt_of_cell? w _ hx222_2)).trans hx222_2
      replace hx222_3 := (HB.out.cell (World.block_lt_of_cell? w _ hx222_3)).trans hx222_3
      replace hx222_4 := (HB.out.cell (World.block_lt_of_cell? w _ hx222_4)).trans hx222_4
      replace hx222_5 := (HB.out.cell (World.block_lt_of_cell? w _ hx222_5)).trans hx222_5
      replace p222 := eq_true p222
      replace q222 := eq_true q222
      go_wp2_with (first | ((with_reducible refine qs0 (N := 5) rfl ?_); (try (refine gate_guard (by rfl) ?_; dsimp only)); refine qt0 ?hg (N := 5) ?hd (cs := #[.string (⟨#[]⟩ : ByteArray), .string (⟨#[]⟩ : ByteArray), .string (⟨#[]⟩ : ByteArray), .int .i64 0, .int .i64 0, .int .i64 0]) (t := 160) ?hr ?_; (case hd => rfl); (case hg => rfl); (case hr => first | (go_simp; done) | (go_simp; rfl)); intro gb223 hg w15 hbox hb; have n0_ := Aside0.mk (Kd.Z_below (by (with_reducible repeat (first | apply Kd.Z_alloc | apply Kd.Z_drewN | apply Kd.Z_drew)); exact HO_3.out) hb); have n1_ := Aside0.mk (qm0 (by repeat (first | (with_reducible first | exact HB.out | apply qc0 | apply qa0 | apply qb0) | exact HB.out)) hb); have n2_ := Aside0.mk (hbox); have n3_ := Aside0.mk ((by rw [hg]; exact (qi0 (by repeat (first | (with_reducible first | exact HB.out | apply qc0 | apply qa0 | apply qb0) | exact HB.out))) : w.heap.size ≤ gb223)); have n4_ := Aside0.mk ((by rw [hg]; exact (qi0 (by repeat (first | (with_reducible first | exact HB.out | apply qc0 | apply qa0 | apply qb0) | exact HB.out))) : w.heap.size ≤ gb223)); clear HO_3; clear HB; have HO_3 := n0_; have HB := n1_; have BK223 := n2_; have GW223 := n3_; have GE223 := n4_; clear n0_ n1_ n2_ n3_ n4_; clear hb hbox hg; have hcz16_0 : w15.cell? ⟨gb223, 0, none⟩ = some (.string (⟨#[]⟩ : ByteArray)) := (qe0 BK223.out 0).trans rfl; have hcz16_1 : w15.cell? ⟨gb223, 1, none⟩ = some (.string (⟨#[]⟩ : ByteArray)) := (qe0 BK223.out 1).trans rfl; have hcz16_2 : w15.cell? ⟨gb223, 2, none⟩ = some (.string (⟨#[]⟩ : ByteArray)) := (qe0 BK223.out 2).trans rfl; have hcz16_3 : w15.cell? ⟨gb223, 3, none⟩ = some (.int .i64 0) := (qe0 BK223.out 3).trans rfl; have hcz16_4 : w15.cell? ⟨gb223, 4, none⟩ = some (.int .i64 0) := (qe0 BK223.out 4).trans rfl; have hcz16_5 : w15.cell? ⟨gb223, 5, none⟩ = some (.int .i64 0) := (qe0 BK223.out 5).trans rfl; have hfz16_0 := qd0 BK223.out 0; have hfz16_1 := qd0 BK223.out 1; have hfz16_2 := qd0 BK223.out 2; have hfz16_3 := qd0 BK223.out 3; have hfz16_4 := qd0 BK223.out 4; have hfz16_5 := qd0 BK223.out 5) | ((with_reducible refine qp0 (f := 171) rfl ?_); refine qy0 (some 17) rfl rfl Try.func171 (by kernel_rfl) rfl #[.agg #[.string ((rd_T160 l0 x12_1).f0), .string ((rd_T160 l0 x12_1).f1), .string ((rd_T160 l0 x12_1).f2), .int .i64 ((rd_T160 l0 x12_1).f3), .int .i64 ((rd_T160 l0 x12_1).f4), .int .i64 ((rd_T160 l0 x12_1).f5)]] rfl (by (try simp only [List.map_toArray, List.map_cons, List.map_nil]); first | done | rfl | (simp only [List.length_drop, List.length_take]; rfl)) ?_; (with_reducible refine (impl_cellOk.calls k1 ((rd_T160 l0 x12_1).f0) ((rd_T160 l0 x12_1).f1) ((rd_T160 l0 x12_1).f2) ((rd_T160 l0 x12_1).f3) ((rd_T160 l0 x12_1).f4) ((rd_T160 l0 x12_1).f5) true _ A8.out).mono ?_); rintro e w17 ⟨rfl, hb⟩; refine ⟨_, rfl, ?_⟩; have n0_ := Aside0.mk (Kd.Z_below (by (with_reducible repeat (first | apply Kd.Z_alloc | apply Kd.Z_drewN | apply Kd.Z_drew)); exact (Kd.Z_mono (Kd.Z_far (p := ⟨gb223, 5, none⟩) (Kd.Z_far (p := ⟨gb223, 4, none⟩) (Kd.Z_far (p := ⟨gb223, 3, none⟩) (Kd.Z_far (p := ⟨gb223, 2, none⟩) (Kd.Z_far (p := ⟨gb223, 1, none⟩) (Kd.Z_far (p := ⟨gb223, 0, none⟩) (Kd.Z_types HO_3.out BK223.out (by decide)) (fun _ hk => hk.2) (.string ((rd_T160 l0 x12_1).f0))) (fun _ hk => hk.2) (.string ((rd_T160 l0 x12_1).f1))) (fun _ hk => hk.2) (.string ((rd_T160 l0 x12_1).f2))) (fun _ hk => hk.2) (.int .i64 ((rd_T160 l0 x12_1).f3))) (fun _ hk => hk.2) (.int .i64 ((rd_T160 l0 x12_1).f4))) (fun _ hk => hk.2) (.int .i64 ((rd_T160 l0 x12_1).f5))) (fun _ h_ => h_.1))) hb); have n1_ := Aside0.mk (qx0 (g := gb223) (o := .cells #[.string ((rd_T160 l0 x12_1).f0), .string ((rd_T160 l0 x12_1).f1), .string ((rd_T160 l0 x12_1).f2), .int .i64 ((rd_T160 l0 x12_1).f3), .int .i64 ((rd_T160 l0 x12_1).f4), .int .i64 ((rd_T160 l0 x12_1).f5)] 160 (0, 0)) (by (with_reducible repeat (first | refine qf0 ?_ _ | refine qj0 ?_ | refine qg0 ?_ _)); refine qu0 (cs := #[.string ((rd_T160 l0 x12_1).f0), .string ((rd_T160 l0 x12_1).f1), .string ((rd_T160 l0 x12_1).f2), .int .i64 ((rd_T160 l0 x12_1).f3), .int .i64 ((rd_T160 l0 x12_1).f4), .int .i64 0]) ?_ 5 _ rfl; (with_reducible repeat (first | refine qf0 ?_ _ | refine qj0 ?_ | refine qg0 ?_ _)); refine qu0 (cs := #[.string ((rd_T160 l0 x12_1).f0), .string ((rd_T160 l0 x12_1).f1), .string ((rd_T160 l0 x12_1).f2), .int .i64 ((rd_T160 l0 x12_1).f3), .int .i64 0, .int .i64 0]) ?_ 4 _ rfl; (with_reducible repeat (first | refine qf0 ?_ _ | refine qj0 ?_ | refine qg0 ?_ _)); refine qu0 (cs := #[.string ((rd_T160 l0 x12_1).f0), .string ((rd_T160 l0 x12_1).f1), .string ((rd_T160 l0 x12_1).f2), .int .i64 0, .int .i64 0, .int .i64 0]) ?_ 3 _ rfl; (with_reducible repeat (first | refine qf0 ?_ _ | refine qj0 ?_ | refine qg0 ?_ _)); refine qu0 (cs := #[.string ((rd_T160 l0 x12_1).f0), .string ((rd_T160 l0 x12_1).f1), .string (⟨#[]⟩ : ByteArray), .int .i64 0, .int .i64 0, .int .i64 0]) ?_ 2 _ rfl; (with_reducible repeat (first | refine qf0 ?_ _ | refine qj0 ?_ | refine qg0 ?_ _)); refine qu0 (cs := #[.string ((rd_T160 l0 x12_1).f0), .string (⟨#[]⟩ : ByteArray), .string (⟨#[]⟩ : ByteArray), .int .i64 0, .int .i64 0, .int .i64 0]) ?_ 1 _ rfl; (with_reducible repeat (first | refine qf0 ?_ _ | refine qj0 ?_ | refine qg0 ?_ _)); refine qu0 (cs := #[.string (⟨#[]⟩ : ByteArray), .string (⟨#[]⟩ : ByteArray), .string (⟨#[]⟩ : ByteArray), .int .i64 0, .int .i64 0, .int .i64 0]) ?_ 0 _ rfl; (with_reducible repeat (first | refine qf0 ?_ _ | refine qj0 ?_ | refine qg0 ?_ _)); exact BK223.out) hb); have n2_ := Aside0.mk (qm0 (by repeat (first | (with_reducible first | exact HB.out | apply qc0 | apply qa0 | apply qb0 | refine qh0 ?_ GE223.out) | exact HB.out)) hb); clear HO_3; clear BK223; clear HB; have HO_3 := n0_; have BK223 := n1_; have HB := n2_; clear n0_ n1_ n2_; (try clear hb); (try clear hb2); (try clear hk); (try clear hi); have hcz18_0 : w17.cell? ⟨gb223, 0, none⟩ = some (.string ((rd_T160 l0 x12_1).f0)) := (qe0 BK223.out 0).trans rfl; have hcz18_1 : w17.cell? ⟨gb223, 1, none⟩ = some (.string ((rd_T160 l0 x12_1).f1)) := (qe0 BK223.out 1).trans rfl; have hcz18_2 : w17.cell? ⟨gb223, 2, none⟩ = some (.string ((rd_T160 l0 x12_1).f2)) := (qe0 BK223.out 2).trans rfl; have hcz18_3 : w17.cell? ⟨gb223, 3, none⟩ = some (.int .i64 ((rd_T160 l0 x12_1).f3)) := (qe0 BK223.out 3).trans rfl; have hcz18_4 : w17.cell? ⟨gb223, 4, none⟩ = some (.int .i64 ((rd_T160 l0 x12_1).f4)) := (qe0 BK223.out 4).trans rfl; have hcz18_5 : w17.cell? ⟨gb223, 5, none⟩ = some (.int .i64 ((rd_T160 l0 x12_1).f5)) := (qe0 BK223.out 5).trans rfl; have hfz18_0 := qd0 BK223.out 0; have hfz18_1 := qd0 BK223.out 1; have hfz18_2 := qd0 BK223.out 2; have hfz18_3 := qd0 BK223.out 3; have hfz18_4 := qd0 BK223.out 4; have hfz18_5 := qd0 BK223.out 5) | (go_at_call 172; (with_reducible refine (impl_Cell_where.calls ((rd_T160 l0 x12_1).f0) ((rd_T160 l0 x12_1).f1) ((rd_T160 l0 x12_1).f2) ((rd_T160 l0 x12_1).f3) ((rd_T160 l0 x12_1).f4) ((rd_T160 l0 x12_1).f5) t225 t226 t227 _ A10.out).mono ?_); rintro e w19 ⟨rfl, hb⟩; have n0_ := Aside0.mk (Kd.Z_below (by (with_reducible repeat (first | apply Kd.Z_alloc | apply Kd.Z_drewN | apply Kd.Z_drew)); exact HO_3.out) hb); have n1_ := Aside0.mk (qx0 (g := gb223) (o := .cells #[.string ((rd_T160 l0 x12_1).f0), .string ((rd_T160 l0 x12_1).f1), .string ((rd_T160 l0 x12_1).f2), .int .i64 ((rd_T160 l0 x12_1).f3), .int .i64 ((rd_T160 l0 x12_1).f4), .int .i64 ((rd_T160 l0 x12_1).f5)] 160 (0, 0)) (by (with_reducible repeat (first | refine qf0 ?_ _ | refine qj0 ?_ | refine qg0 ?_ _)); exact BK223.out) hb); have n2_ := Aside0.mk (qm0 (by repeat (first | (with_reducible first | exact HB.out | apply qc0 | apply qa0 | apply qb0 | refine qh0 ?_ GE223.out) | exact HB.out)) hb); clear HO_3; clear BK223; clear HB; have HO_3 := n0_; have BK223 := n1_; have HB := n2_; clear n0_ n1_ n2_; (try clear hb); (try clear hb2); (try clear hk); (try clear hi)) | ((with_reducible refine qs0 (N := 23) rfl ?_); (try (refine gate_guard (by rfl) ?_; dsimp only)); refine Kd.Z_look_op (base := w.heap.size) (ok := fun _ => True) kz210 210 rfl rfl _ _ 210 rfl kz210_K kz210_inj kz210_t false kz210_z mb221 x3_1 (⟨t225, t226, t227⟩ : S212) rfl rfl (kz210_key (⟨t225, t226, t227⟩ : S212) LMc11.out LMc12.out LMc13.out) ?aO (.bool ((mget x3_1 (⟨t225, t226, t227⟩ : S212)).getD false)) rfl ?_; (case aO => exact (by (with_reducible repeat (first | apply Kd.Z_alloc | apply Kd.Z_drewN | apply Kd.Z_drew)); exact HO_3.out))))
      go_ret
      exact ⟨by first | rfl | (simp [errW_none, errW_some] <;> rfl) | (simp [*, errW_none, errW_some] <;> rfl), by repeat (first | (with_reducible first | exact HB.out | apply qc0 | apply qa0 | apply qb0 | refine qh0 ?_ GE223.out) | exact HB.out)⟩
     rw [if_neg c14] at H
     have c14b0 : (mget x3_1 (⟨t225, t226, t227⟩ : S212)).getD false = false := by simpa using c14
     clear c14
     replace H := Option.bind_eq_some_iff.mp H
     obtain ⟨⟨t228, t229, t230⟩, A200, H⟩ := H
     replace H : (if t228.size ≤ 9223372036854775807 then (if t229.size ≤ 9223372036854775807 then (if t230.size ≤ 9223372036854775807 then (impl_StockOk.l0 k1 (mset x3_1 (⟨t228, t229, t230⟩ : S212) true) l0 (l0.length : Int) (wrap64 (x12_1 + 1))) else (none)) else (none)) else (none)) = some r := H
     have A20 := Aside0.mk A200
     clear A200
     by_cases c21 : t228.size ≤ 9223372036854775807
     case neg => rw [if_neg c21] at H; exact absurd H (by simp)
     rw [if_pos c21] at H
     have LMc21 := Aside0.mk c21
     clear c21
     by_cases c22 : t229.size ≤ 9223372036854775807
     case neg => rw [if_neg c22] at H; exact absurd H (by simp)
     rw [if_pos c22] at H
     have LMc22 := Aside0.mk c22
     clear c22
     by_cases c23 : t230.size ≤ 9223372036854775807
     case neg => rw [if_neg c23] at H; exact absurd H (by simp)
     rw [if_pos c23] at H
     have LMc23 := Aside0.mk c23
     clear c23
     obtain ⟨y231, hy231⟩ : ∃ y_ : List (S212 × Bool), y_ = (mset x3_1 (⟨t228, t229, t230⟩ : S212) true) := ⟨_, rfl⟩
     replace H : (impl_StockOk.l0 k1 y231 l0 (l0.length : Int) (wrap64 (x12_1 + 1))) = some r := by first | (rw [hy231]; with_reducible exact H) | (have H2_ := (Option.bind_some _ _).symm.trans H; rw [hy231]; with_reducible exact H2_) | (have H2_ := (Option.bind_some _ _).symm.trans H; with_reducible exact H2_) | with_reducible exact H | (rw [hy231]; exact H) | exact H
     have Ny231 := Aside0.mk hy231
     clear hy231
     have H' := Aside0.mk H
     clear H
     have p222 : 0 ≤ (x12_1 : Int) := of_decide_eq_true (by first | (with_reducible assumption) | assumption)
     have q222 : x12_1 < (l0.length : Int) := of_decide_eq_true (by first | (with_reducible assumption) | assumption)
     obtain ⟨ad222, e222, hx222_0, hx222_1, hx222_2, hx222_3, hx222_4, hx222_5⟩ := at_T160 HR0.out x12_1 p222 q222
     cases e222
     replace hx222_0 := (HB.out.cell (World.block_lt_of_cell? w _ hx222_0)).trans hx222_0
     replace hx222_1 := (HB.out.cell (World.block_lt_of_cell? w _ hx222_1)).trans hx222_1
     replace hx222_2 := (HB.out.cell (World.block_lt_of_cell? w _ hx222_2)).trans hx222_2
     replace hx222_3 := (HB.out.cell (World.block_lt_of_cell? w _ hx222_3)).trans hx222_3
     replace hx222_4 := (HB.out.cell (World.block_lt_of_cell? w _ hx222_4)).trans hx222_4
     replace hx222_5 := (HB.out.cell (World.block_lt_of_cell? w _ hx222_5)).trans hx222_5
     replace p222 := eq_true p222
     replace q222 := eq_true q222
     go_wp2_with (first | ((with_reducible refine qs0 (N := 5) rfl ?_); (try (refine gate_guard (by rfl) ?_; dsimp only)); refine qt0 ?hg (N := 5) ?hd (cs := #[.string (⟨#[]⟩ : ByteArray), .string (⟨#[]⟩ : ByteArray), .string (⟨#[]⟩ : ByteArray), .int .i64 0, .int .i64 0, .int .i64 0]) (t := 160) ?hr ?_; (case hd => rfl); (case hg => rfl); (case hr => first | (go_simp; done) | (go_simp; rfl)); intro gb223 hg w24 hbox hb; have n0_ := Aside0.mk (Kd.Z_below (by (with_reducible repeat (first | apply Kd.Z_alloc | apply Kd.Z_drewN | apply Kd.Z_drew)); exact HO_3.out) hb); have n1_ := Aside0.mk (qm0 (by repeat (first | (with_reducible first | exact HB.out | apply qc0 | apply qa0 | apply qb0) | exact HB.out)) hb); have n2_ := Aside0.mk (hbox); have n3_ := Aside0.mk ((by rw [hg]; exact (qi0 (by repeat (first | (with_reducible first | exact HB.out | apply qc0 | apply qa0 | apply qb0) | exact HB.out))) : w.heap.size ≤ gb223)); have n4_ := Aside0.mk ((by rw [hg]; exact (qi0 (by repeat (first | (with_reducible first | exact HB.out | apply qc0 | apply qa0 | apply qb0) | exact HB.out))) : w.heap.size ≤ gb223)); clear HO_3; clear HB; have HO_3 := n0_; have HB := n1_; have BK223 := n2_; have GW223 := n3_; have GE223 := n4_; clear n0_ n1_ n2_ n3_ n4_; clear hb hbox hg; have hcz25_0 : w24.cell? ⟨gb223, 0, none⟩ = some (.string (⟨#[]⟩ : ByteArray)) := (qe0 BK223.out 0).trans rfl; have hcz25_1 : w24.cell? ⟨gb223, 1, none⟩ = some (.string (⟨#[]⟩ : ByteArray)) := (qe0 BK223.out 1).trans rfl; have hcz25_2 : w24.cell? ⟨gb223, 2, none⟩ = some (.string (⟨#[]⟩ : ByteArray)) := (qe0 BK223.out 2).trans rfl; have hcz25_3 : w24.cell? ⟨gb223, 3, none⟩ = some (.int .i64 0) := (qe0 BK223.out 3).trans rfl; have hcz25_4 : w24.cell? ⟨gb223, 4, none⟩ = some (.int .i64 0) := (qe0 BK223.out 4).trans rfl; have hcz25_5 : w24.cell? ⟨gb223, 5, none⟩ = some (.int .i64 0) := (qe0 BK223.out 5).trans rfl; have hfz25_0 := qd0 BK223.out 0; have hfz25_1 := qd0 BK223.out 1; have hfz25_2 := qd0 BK223.out 2; have hfz25_3 := qd0 BK223.out 3; have hfz25_4 := qd0 BK223.out 4; have hfz25_5 := qd0 BK223.out 5) | ((with_reducible refine qp0 (f := 171) rfl ?_); refine qy0 (some 17) rfl rfl Try.func171 (by kernel_rfl) rfl #[.agg #[.string ((rd_T160 l0 x12_1).f0), .string ((rd_T160 l0 x12_1).f1), .string ((rd_T160 l0 x12_1).f2), .int .i64 ((rd_T160 l0 x12_1).f3), .int .i64 ((rd_T160 l0 x12_1).f4), .int .i64 ((rd_T160 l0 x12_1).f5)]] rfl (by (try simp only [List.map_toArray, List.map_cons, List.map_nil]); first | done | rfl | (simp only [List.length_drop, List.length_take]; rfl)) ?_; (with_reducible refine (impl_cellOk.calls k1 ((rd_T160 l0 x12_1).f0) ((rd_T160 l0 x12_1).f1) ((rd_T160 l0 x12_1).f2) ((rd_T160 l0 x12_1).f3) ((rd_T160 l0 x12_1).f4) ((rd_T160 l0 x12_1).f5) true _ A8.out).mono ?_); rintro e w26 ⟨rfl, hb⟩; refine ⟨_, rfl, ?_⟩; have n0_ := Aside0.mk (Kd.Z_below (by (with_reducible repeat (first | apply Kd.Z_alloc | apply Kd.Z_drewN | apply Kd.Z_drew)); exact (Kd.Z_mono (Kd.Z_far (p := ⟨gb223, 5, none⟩) (Kd.Z_far (p := ⟨gb223, 4, none⟩) (Kd.Z_far (p := ⟨gb223, 3, none⟩) (Kd.Z_far (p := ⟨gb223, 2, none⟩) (Kd.Z_far (p := ⟨gb223, 1, none⟩) (Kd.Z_far (p := ⟨gb223, 0, none⟩) (Kd.Z_types HO_3.out BK223.out (by decide)) (fun _ hk => hk.2) (.string ((rd_T160 l0 x12_1).f0))) (fun _ hk => hk.2) (.string ((rd_T160 l0 x12_1).f1))) (fun _ hk => hk.2) (.string ((rd_T160 l0 x12_1).f2))) (fun _ hk => hk.2) (.int .i64 ((rd_T160 l0 x12_1).f3))) (fun _ hk => hk.2) (.int .i64 ((rd_T160 l0 x12_1).f4))) (fun _ hk => hk.2) (.int .i64 ((rd_T160 l0 x12_1).f5))) (fun _ h_ => h_.1))) hb); have n1_ := Aside0.mk (qx0 (g := gb223) (o := .cells #[.string ((rd_T160 l0 x12_1).f0), .string ((rd_T160 l0 x12_1).f1), .string ((rd_T160 l0 x12_1).f2), .int .i64 ((rd_T160 l0 x12_1).f3), .int .i64 ((rd_T160 l0 x12_1).f4), .int .i64 ((rd_T160 l0 x12_1).f5)] 160 (0, 0)) (by (with_reducible repeat (first | refine qf0 ?_ _ | refine qj0 ?_ | refine qg0 ?_ _)); refine qu0 (cs := #[.string ((rd_T160 l0 x12_1).f0), .string ((rd_T160 l0 x12_1).f1), .string ((rd_T160 l0 x12_1).f2), .int .i64 ((rd_T160 l0 x12_1).f3), .int .i64 ((rd_T160 l0 x12_1).f4), .int .i64 0]) ?_ 5 _ rfl; (with_reducible repeat (first | refine qf0 ?_ _ | refine qj0 ?_ | refine qg0 ?_ _)); refine qu0 (cs := #[.string ((rd_T160 l0 x12_1).f0), .string ((rd_T160 l0 x12_1).f1), .string ((rd_T160 l0 x12_1).f2), .int .i64 ((rd_T160 l0 x12_1).f3), .int .i64 0, .int .i64 0]) ?_ 4 _ rfl; (with_reducible repeat (first | refine qf0 ?_ _ | refine qj0 ?_ | refine qg0 ?_ _)); refine qu0 (cs := #[.string ((rd_T160 l0 x12_1).f0), .string ((rd_T160 l0 x12_1).f1), .string ((rd_T160 l0 x12_1).f2), .int .i64 0, .int .i64 0, .int .i64 0]) ?_ 3 _ rfl; (with_reducible repeat (first | refine qf0 ?_ _ | refine qj0 ?_ | refine qg0 ?_ _)); refine qu0 (cs := #[.string ((rd_T160 l0 x12_1).f0), .string ((rd_T160 l0 x12_1).f1), .string (⟨#[]⟩ : ByteArray), .int .i64 0, .int .i64 0, .int .i64 0]) ?_ 2 _ rfl; (with_reducible repeat (first | refine qf0 ?_ _ | refine qj0 ?_ | refine qg0 ?_ _)); refine qu0 (cs := #[.string ((rd_T160 l0 x12_1).f0), .string (⟨#[]⟩ : ByteArray), .string (⟨#[]⟩ : ByteArray), .int .i64 0, .int .i64 0, .int .i64 0]) ?_ 1 _ rfl; (with_reducible repeat (first | refine qf0 ?_ _ | refine qj0 ?_ | refine qg0 ?_ _)); refine qu0 (cs := #[.string (⟨#[]⟩ : ByteArray), .string (⟨#[]⟩ : ByteArray), .string (⟨#[]⟩ : ByteArray), .int .i64 0, .int .i64 0, .int .i64 0]) ?_ 0 _ rfl; (with_reducible repeat (first | refine qf0 ?_ _ | refine qj0 ?_ | refine qg0 ?_ _)); exact BK223.out) hb); have n2_ := Aside0.mk (qm0 (by repeat (first | (with_reducible first | exact HB.out | apply qc0 | apply qa0 | apply qb0 | refine qh0 ?_ GE223.out) | exact HB.out)) hb); clear HO_3; clear BK223; clear HB; have HO_3 := n0_; have BK223 := n1_; have HB := n2_; clear n0_ n1_ n2_; (try clear hb); (try clear hb2); (try clear hk); (try clear hi); have hcz27_0 : w26.cell? ⟨gb223, 0, none⟩ = some (.string ((rd_T160 l0 x12_1).f0)) := (qe0 BK223.out 0).trans rfl; have hcz27_1 : w26.cell? ⟨gb223, 1, none⟩ = some (.string ((rd_T160 l0 x12_1).f1)) := (qe0 BK223.out 1).trans rfl; have hcz27_2 : w26.cell? ⟨gb223, 2, none⟩ = some (.string ((rd_T160 l0 x12_1).f2)) := (qe0 BK223.out 2).trans rfl; have hcz27_3 : w26.cell? ⟨gb223, 3, none⟩ = some (.int .i64 ((rd_T160 l0 x12_1).f3)) := (qe0 BK223.out 3).trans rfl; have hcz27_4 : w26.cell? ⟨gb223, 4, none⟩ = some (.int .i64 ((rd_T160 l0 x12_1).f4)) := (qe0 BK223.out 4).trans rfl; have hcz27_5 : w26.cell? ⟨gb223, 5, none⟩ = some (.int .i64 ((rd_T160 l0 x12_1).f5)) := (qe0 BK223.out 5).trans rfl; have hfz27_0 := qd0 BK223.out 0; have hfz27_1 := qd0 BK223.out 1; have hfz27_2 := qd0 BK223.out 2; have hfz27_3 := qd0 BK223.out 3; have hfz27_4 := qd0 BK223.out 4; have hfz27_5 := qd0 BK223.out 5) | (go_at_call 172; (with_reducible refine (impl_Cell_where.calls ((rd_T160 l0 x12_1).f0) ((rd_T160 l0 x12_1).f1) ((rd_T160 l0 x12_1).f2) ((rd_T160 l0 x12_1).f3) ((rd_T160 l0 x12_1).f4) ((rd_T160 l0 x12_1).f5) t225 t226 t227 _ A10.out).mono ?_); rintro e w28 ⟨rfl, hb⟩; have n0_ := Aside0.mk (Kd.Z_below (by (with_reducible repeat (first | apply Kd.Z_alloc | apply Kd.Z_drewN | apply Kd.Z_drew)); exact HO_3.out) hb); have n1_ := Aside0.mk (qx0 (g := gb223) (o := .cells #[.string ((rd_T160 l0 x12_1).f0), .string ((rd_T160 l0 x12_1).f1), .string ((rd_T160 l0 x12_1).f2), .int .i64 ((rd_T160 l0 x12_1).f3), .int .i64 ((rd_T160 l0 x12_1).f4), .int .i64 ((rd_T160 l0 x12_1).f5)] 160 (0, 0)) (by (with_reducible repeat (first | refine qf0 ?_ _ | refine qj0 ?_ | refine qg0 ?_ _)); exact BK223.out) hb); have n2_ := Aside0.mk (qm0 (by repeat (first | (with_reducible first | exact HB.out | apply qc0 | apply qa0 | apply qb0 | refine qh0 ?_ GE223.out) | exact HB.out)) hb); clear HO_3; clear BK223; clear HB; have HO_3 := n0_; have BK223 := n1_; have HB := n2_; clear n0_ n1_ n2_; (try clear hb); (try clear hb2); (try clear hk); (try clear hi)) | ((with_reducible refine qs0 (N := 23) rfl ?_); (try (refine gate_guard (by rfl) ?_; dsimp only)); refine Kd.Z_look_op (base := w.heap.size) (ok := fun _ => True) kz210 210 rfl rfl _ _ 210 rfl kz210_K kz210_inj kz210_t false kz210_z mb221 x3_1 (⟨t225, t226, t227⟩ : S212) rfl rfl (kz210_key (⟨t225, t226, t227⟩ : S212) LMc11.out LMc12.out LMc13.out) ?aO (.bool ((mget x3_1 (⟨t225, t226, t227⟩ : S212)).getD false)) rfl ?_; (case aO => exact (by (with_reducible repeat (first | apply Kd.Z_alloc | apply Kd.Z_drewN | apply Kd.Z_drew)); exact HO_3.out)); have hcz29_0 : w28.cell? ⟨gb223, 0, none⟩ = some (.string ((rd_T160 l0 x12_1).f0)) := (qe0 BK223.out 0).trans rfl; have hcz29_1 : w28.cell? ⟨gb223, 1, none⟩ = some (.string ((rd_T160 l0 x12_1).f1)) := (qe0 BK223.out 1).trans rfl; have hcz29_2 : w28.cell? ⟨gb223, 2, none⟩ = some (.string ((rd_T160 l0 x12_1).f2)) := (qe0 BK223.out 2).trans rfl; have hcz29_3 : w28.cell? ⟨gb223, 3, none⟩ = some (.int .i64 ((rd_T160 l0 x12_1).f3)) := (qe0 BK223.out 3).trans rfl; have hcz29_4 : w28.cell? ⟨gb223, 4, none⟩ = some (.int .i64 ((rd_T160 l0 x12_1).f4)) := (qe0 BK223.out 4).trans rfl; have hcz29_5 : w28.cell? ⟨gb223, 5, none⟩ = some (.int .i64 ((rd_T160 l0 x12_1).f5)) := (qe0 BK223.out 5).trans rfl; have hfz29_0 := qd0 BK223.out 0; have hfz29_1 := qd0 BK223.out 1; have hfz29_2 := qd0 BK223.out 2; have hfz29_3 := qd0 BK223.out 3; have hfz29_4 := qd0 BK223.out 4; have hfz29_5 := qd0 BK223.out 5) | ((with_reducible refine qp0 (f := 172) rfl ?_); refine qy0 (some 27) rfl rfl Try.func172 (by kernel_rfl) rfl #[.agg #[.string ((rd_T160 l0 x12_1).f0), .string ((rd_T160 l0 x12_1).f1), .string ((rd_T160 l0 x12_1).f2), .int .i64 ((rd_T160 l0 x12_1).f3), .int .i64 ((rd_T160 l0 x12_1).f4), .int .i64 ((rd_T160 l0 x12_1).f5)]] rfl (by (try simp only [List.map_toArray, List.map_cons, List.map_nil]); first | done | rfl | (simp only [List.length_drop, List.length_take]; rfl)) ?_; (with_reducible refine (impl_Cell_where.calls ((rd_T160 l0 x12_1).f0) ((rd_T160 l0 x12_1).f1) ((rd_T160 l0 x12_1).f2) ((rd_T160 l0 x12_1).f3) ((rd_T160 l0 x12_1).f4) ((rd_T160 l0 x12_1).f5) t228 t229 t230 _ A20.out).mono ?_); rintro e w30 ⟨rfl, hb⟩; refine ⟨_, rfl, ?_⟩; have n0_ := Aside0.mk (Kd.Z_below (by (with_reducible repeat (first | apply Kd.Z_alloc | apply Kd.Z_drewN | apply Kd.Z_drew)); exact HO_3.out) hb); have n1_ := Aside0.mk (qx0 (g := gb223) (o := .cells #[.string ((rd_T160 l0 x12_1).f0), .string ((rd_T160 l0 x12_1).f1), .string ((rd_T160 l0 x12_1).f2), .int .i64 ((rd_T160 l0 x12_1).f3), .int .i64 ((rd_T160 l0 x12_1).f4), .int .i64 ((rd_T160 l0 x12_1).f5)] 160 (0, 0)) (by (with_reducible repeat (first | refine qf0 ?_ _ | refine qj0 ?_ | refine qg0 ?_ _)); exact BK223.out) hb); have n2_ := Aside0.mk (qm0 (by repeat (first | (with_reducible first | exact HB.out | apply qc0 | apply qa0 | apply qb0 | refine qh0 ?_ GE223.out) | exact HB.out)) hb); clear HO_3; clear BK223; clear HB; have HO_3 := n0_; have BK223 := n1_; have HB := n2_; clear n0_ n1_ n2_; (try clear hb); (try clear hb2); (try clear hk); (try clear hi)) | ((with_reducible refine gate_mapset (t := 210) rfl ?_); refine Kd.Z_set_op (base := w.heap.size) (ok := fun _ => True) kz210 210 rfl rfl _ _ _ 210 rfl rfl kz210_K kz210_inj kz210_t mb221 x3_1 (⟨t228, t229, t230⟩ : S212) true rfl rfl rfl (kz210_key (⟨t228, t229, t230⟩ : S212) LMc21.out LMc22.out LMc23.out) ?aO ?_; (case aO => exact (by (with_reducible repeat (first | apply Kd.Z_alloc | apply Kd.Z_drewN | apply Kd.Z_drew)); exact HO_3.out)); intro w31 ho_ hg hbb_ hz_; rw [← Ny231.out] at ho_; have n0_ := Aside0.mk (ho_); have n1_ := Aside0.mk (blk_grown (g := gb223) (o := .cells #[.string ((rd_T160 l0 x12_1).f0), .string ((rd_T160 l0 x12_1).f1), .string ((rd_T160 l0 x12_1).f2), .int .i64 ((rd_T160 l0 x12_1).f3), .int .i64 ((rd_T160 l0 x12_1).f4), .int .i64 ((rd_T160 l0 x12_1).f5)] 160 (0, 0)) (by (with_reducible repeat (first | refine qf0 ?_ _ | refine qj0 ?_ | refine qg0 ?_ _)); exact BK223.out) hg (blk_neZ (by (with_reducible repeat (first | refine qf0 ?_ _ | refine qj0 ?_ | refine qg0 ?_ _)); exact BK223.out) hz_)); have n2_ := Aside0.mk (pw_below_grown (by repeat (first | (with_reducible first | exact HB.out | apply qc0 | apply qa0 | apply qb0 | refine qh0 ?_ GE223.out) | exact HB.out)) (some mb221) (qi0 (by repeat (first | (with_reducible first | exact HB.out | apply qc0 | apply qa0 | apply qb0 | refine qh0 ?_ GE223.out) | exact HB.out))) hg (fun k_ e_ => by cases e_; exact hbb_)); clear HO_3; clear BK223; clear HB; have HO_3 := n0_; have BK223 := n1_; have HB := n2_; clear n0_ n1_ n2_; clear ho_ hg hbb_ hz_))
     go_roundg k1
     case measure => have := HK1.out; omega
     case rel => exact ⟨(y231), (wrap64 (x12_1 + 1)), (by first | rfl | (simp; done) | (simp [*]; done)), H', ⟨by have := HK1.out; omega⟩, ⟨by (with_reducible repeat (first | apply Kd.Z_alloc | apply Kd.Z_drewN | apply Kd.Z_drew)); exact HO_3.out⟩, ⟨by repeat (first | (with_reducible first | exact HB.out | apply qc0 | apply qa0 | apply qb0 | refine qh0 ?_ GE223.out) | exact HB.out)⟩⟩
    replace c9 := Bool.eq_false_iff.mpr c9
    subst c9
    have H1 : (some false) = some r := by rw [if_neg (show ¬ (false = true) by decide)] at H; exact H
    clear H
    have H := H1
    clear H1
    obtain rfl := Option.some.inj H
    have p222 : 0 ≤ (x12_1 : Int) := of_decide_eq_true (by first | (with_reducible assumption) | assumption)
    have q222 : x12_1 < (l0.length : Int) := of_decide_eq_true (by first | (with_reducible assumption) | assumption)
    obtain ⟨ad222, e222, hx222_0, hx222_1, hx222_2, hx222_3, hx222_4, hx222_5⟩ := at_T160 HR0.out x12_1 p222 q222
    cases e222
    replace hx222_0 := (HB.out.cell (World.block_lt_of_cell? w _ hx222_0)).trans hx222_0
    replace hx222_1 := (HB.out.cell (World.block_lt_of_cell? w _ hx222_1)).trans hx222_1
    replace hx222_2 := (HB.out.cell (World.block_lt_of_cell? w _ hx222_2)).trans hx222_2
    replace hx222_3 := (HB.out.cell (World.block_lt_of_cell? w _ hx222_3)).trans hx222_3
    replace hx222_4 := (HB.out.cell (World.block_lt_of_cell? w _ hx222_4)).trans hx222_4
    replace hx222_5 := (HB.out.cell (World.block_lt_of_cell? w _ hx222_5)).trans hx222_5
    replace p222 := eq_true p222
    replace q222 := eq_true q222
    go_wp2_with (first | ((with_reducible refine qs0 (N := 5) rfl ?_); (try (refine gate_guard (by rfl) ?_; dsimp only)); refine qt0 ?hg (N := 5) ?hd (cs := #[.string (⟨#[]⟩ : ByteArray), .string (⟨#[]⟩ : ByteArray), .string (⟨#[]⟩ : ByteArray), .int .i64 0, .int .i64 0, .int .i64 0]) (t := 160) ?hr ?_; (case hd => rfl); (case hg => rfl); (case hr => first | (go_simp; done) | (go_simp; rfl)); intro gb223 hg w32 hbox hb; have n0_ := Aside0.mk (Kd.Z_below (by (with_reducible repeat (first | apply Kd.Z_alloc | apply Kd.Z_drewN | apply Kd.Z_drew)); exact HO_3.out) hb); have n1_ := Aside0.mk (qm0 (by repeat (first | (with_reducible first | exact HB.out | apply qc0 | apply qa0 | apply qb0) | exact HB.out)) hb); have n2_ := Aside0.mk (hbox); have n3_ := Aside0.mk ((by rw [hg]; exact (qi0 (by repeat (first | (with_reducible first | exact HB.out | apply qc0 | apply qa0 | apply qb0) | exact HB.out))) : w.heap.size ≤ gb223)); have n4_ := Aside0.mk ((by rw [hg]; exact (qi0 (by repeat (first | (with_reducible first | exact HB.out | apply qc0 | apply qa0 | apply qb0) | exact HB.out))) : w.heap.size ≤ gb223)); clear HO_3; clear HB; have HO_3 := n0_; have HB := n1_; have BK223 := n2_; have GW223 := n3_; have GE223 := n4_; clear n0_ n1_ n2_ n3_ n4_; clear hb hbox hg; have hcz33_0 : w32.cell? ⟨gb223, 0, none⟩ = some (.string (⟨#[]⟩ : ByteArray)) := (qe0 BK223.out 0).trans rfl; have hcz33_1 : w32.cell? ⟨gb223, 1, none⟩ = some (.string (⟨#[]⟩ : ByteArray)) := (qe0 BK223.out 1).trans rfl; have hcz33_2 : w32.cell? ⟨gb223, 2, none⟩ = some (.string (⟨#[]⟩ : ByteArray)) := (qe0 BK223.out 2).trans rfl; have hcz33_3 : w32.cell? ⟨gb223, 3, none⟩ = some (.int .i64 0) := (qe0 BK223.out 3).trans rfl; have hcz33_4 : w32.cell? ⟨gb223, 4, none⟩ = some (.int .i64 0) := (qe0 BK223.out 4).trans rfl; have hcz33_5 : w32.cell? ⟨gb223, 5, none⟩ = some (.int .i64 0) := (qe0 BK223.out 5).trans rfl; have hfz33_0 := qd0 BK223.out 0; have hfz33_1 := qd0 BK223.out 1; have hfz33_2 := qd0 BK223.out 2; have hfz33_3 := qd0 BK223.out 3; have hfz33_4 := qd0 BK223.out 4; have hfz33_5 := qd0 BK223.out 5) | ((with_reducible refine qp0 (f := 171) rfl ?_); refine qy0 (some 17) rfl rfl Try.func171 (by kernel_rfl) rfl #[.agg #[.string ((rd_T160 l0 x12_1).f0), .string ((rd_T160 l0 x12_1).f1), .string ((rd_T160 l0 x12_1).f2), .int .i64 ((rd_T160 l0 x12_1).f3), .int .i64 ((rd_T160 l0 x12_1).f4), .int .i64 ((rd_T160 l0 x12_1).f5)]] rfl (by (try simp only [List.map_toArray, List.map_cons, List.map_nil]); first | done | rfl | (simp only [List.length_drop, List.length_take]; rfl)) ?_; (with_reducible refine (impl_cellOk.calls k1 ((rd_T160 l0 x12_1).f0) ((rd_T160 l0 x12_1).f1) ((rd_T160 l0 x12_1).f2) ((rd_T160 l0 x12_1).f3) ((rd_T160 l0 x12_1).f4) ((rd_T160 l0 x12_1).f5) false _ A8.out).mono ?_); rintro e w34 ⟨rfl, hb⟩; refine ⟨_, rfl, ?_⟩; have n0_ := Aside0.mk (Kd.Z_below (by (with_reducible repeat (first | apply Kd.Z_alloc | apply Kd.Z_drewN | apply Kd.Z_drew)); exact (Kd.Z_mono (Kd.Z_far (p := ⟨gb223, 5, none⟩) (Kd.Z_far (p := ⟨gb223, 4, none⟩) (Kd.Z_far (p := ⟨gb223, 3, none⟩) (Kd.Z_far (p := ⟨gb223, 2, none⟩) (Kd.Z_far (p := ⟨gb223, 1, none⟩) (Kd.Z_far (p := ⟨gb223, 0, none⟩) (Kd.Z_types HO_3.out BK223.out (by decide)) (fun _ hk => hk.2) (.string ((rd_T160 l0 x12_1).f0))) (fun _ hk => hk.2) (.string ((rd_T160 l0 x12_1).f1))) (fun _ hk => hk.2) (.string ((rd_T160 l0 x12_1).f2))) (fun _ hk => hk.2) (.int .i64 ((rd_T160 l0 x12_1).f3))) (fun _ hk => hk.2) (.int .i64 ((rd_T160 l0 x12_1).f4))) (fun _ hk => hk.2) (.int .i64 ((rd_T160 l0 x12_1).f5))) (fun _ h_ => h_.1))) hb); have n1_ := Aside0.mk (qx0 (g := gb223) (o := .cells #[.string ((rd_T160 l0 x12_1).f0), .string ((rd_T160 l0 x12_1).f1), .string ((rd_T160 l0 x12_1).f2), .int .i64 ((rd_T160 l0 x12_1).f3), .int .i64 ((rd_T160 l0 x12_1).f4), .int .i64 ((rd_T160 l0 x12_1).f5)] 160 (0, 0)) (by (with_reducible repeat (first | refine qf0 ?_ _ | refine qj0 ?_ | refine qg0 ?_ _)); refine qu0 (cs := #[.string ((rd_T160 l0 x12_1).f0), .string ((rd_T160 l0 x12_1).f1), .string ((rd_T160 l0 x12_1).f2), .int .i64 ((rd_T160 l0 x12_1).f3), .int .i64 ((rd_T160 l0 x12_1).f4), .int .i64 0]) ?_ 5 _ rfl; (with_reducible repeat (first | refine qf0 ?_ _ | refine qj0 ?_ | refine qg0 ?_ _)); refine qu0 (cs := #[.string ((rd_T160 l0 x12_1).f0), .string ((rd_T160 l0 x12_1).f1), .string ((rd_T160 l0 x12_1).f2), .int .i64 ((rd_T160 l0 x12_1).f3), .int .i64 0, .int .i64 0]) ?_ 4 _ rfl; (with_reducible repeat (first | refine qf0 ?_ _ | refine qj0 ?_ | refine qg0 ?_ _)); refine qu0 (cs := #[.string ((rd_T160 l0 x12_1).f0), .string ((rd_T160 l0 x12_1).f1), .string ((rd_T160 l0 x12_1).f2), .int .i64 0, .int .i64 0, .int .i64 0]) ?_ 3 _ rfl; (with_reducible repeat (first | refine qf0 ?_ _ | refine qj0 ?_ | refine qg0 ?_ _)); refine qu0 (cs := #[.string ((rd_T160 l0 x12_1).f0), .string ((rd_T160 l0 x12_1).f1), .string (⟨#[]⟩ : ByteArray), .int .i64 0, .int .i64 0, .int .i64 0]) ?_ 2 _ rfl; (with_reducible repeat (first | refine qf0 ?_ _ | refine qj0 ?_ | refine qg0 ?_ _)); refine qu0 (cs := #[.string ((rd_T160 l0 x12_1).f0), .string (⟨#[]⟩ : ByteArray), .string (⟨#[]⟩ : ByteArray), .int .i64 0, .int .i64 0, .int .i64 0]) ?_ 1 _ rfl; (with_reducible repeat (first | refine qf0 ?_ _ | refine qj0 ?_ | refine qg0 ?_ _)); refine qu0 (cs := #[.string (⟨#[]⟩ : ByteArray), .string (⟨#[]⟩ : ByteArray), .string (⟨#[]⟩ : ByteArray), .int .i64 0, .int .i64 0, .int .i64 0]) ?_ 0 _ rfl; (with_reducible repeat (first | refine qf0 ?_ _ | refine qj0 ?_ | refine qg0 ?_ _)); exact BK223.out) hb); have n2_ := Aside0.mk (qm0 (by repeat (first | (with_reducible first | exact HB.out | apply qc0 | apply qa0 | apply qb0 | refine qh0 ?_ GE223.out) | exact HB.out)) hb); clear HO_3; clear BK223; clear HB; have HO_3 := n0_; have BK223 := n1_; have HB := n2_; clear n0_ n1_ n2_; (try clear hb); (try clear hb2); (try clear hk); (try clear hi)))
    go_ret
    exact ⟨by first | rfl | (simp [errW_none, errW_some] <;> rfl) | (simp [*, errW_none, errW_some] <;> rfl), by repeat (first | (with_reducible first | exact HB.out | apply qc0 | apply qa0 | apply qb0 | refine qh0 ?_ GE223.out) | exact HB.out)⟩
   rw [if_neg c5] at H
   have c5b0 : decide (x12_1 < (l0.length : Int)) = false := decide_eq_false c5
   clear c5
   obtain rfl := Option.some.inj H
   go_wp2
   go_ret
   exact ⟨by first | rfl | (simp [errW_none, errW_some] <;> rfl) | (simp [*, errW_none, errW_some] <;> rfl), by repeat (first | (with_reducible first | exact HB.out | apply qc0 | apply qa0 | apply qb0) | exact HB.out)⟩

/-! ### impl_Picks_1: function 127 -/
def impl_Picks_1.f (a0 : Int) (a1 : Int) (l2 : List (S160)) : Option (Bool) := if 0 ≤ a0 then (if a0 < (l2.length : Int) then (if 0 ≤ a1 then (if a1 < (l2.length : Int) then (some (decide (((rd_T160 l2 a0).f3) < ((rd_T160 l2 a1).f3)))) else (none)) else (none)) else (none)) else (none)
set_option maxHeartbeats 8000000 in
set_option maxRecDepth 100000 in
theorem impl_Picks_1.calls (a0 : Int) (a1 : Int) (g2 : Nat) (A2 : Option Addr) (c2 : Nat) (l2 : List (S160)) (r : Bool) (w : World) (hk2 : w.heap[g2]? = some (.cells #[.slice A2 l2.length c2] 74 (0, 0))) (hr2 : Kd.C k160 w A2 l2.length l2) (hc2 : l2.length ≤ c2) (h : impl_Picks_1.f a0 a1 l2 = some r) :
  Calls Try.prog 127 #[.int .i64 a0, .int .i64 a1, .pointer (some ⟨g2, 0, none⟩)] w fun e w' => e = .returned (.bool r) ∧ Drawn0 w w' := by
 have HR2 := Aside0.mk hr2
 have HC2 := Aside0.mk hc2
 have BK232 := Aside0.mk hk2
 clear hr2 hc2 hk2
 have H : (if 0 ≤ a0 then (if a0 < (l2.length : Int) then (if 0 ≤ a1 then (if a1 < (l2.length : Int) then (some (decide (((rd_T160 l2 a0).f3) < ((rd_T160 l2 a1).f3)))) else (none)) else (none)) else (none)) else (none)) = some r := h
 clear h
 by_cases c3 : 0 ≤ a0
 case neg => rw [if_neg c3] at H; exact absurd H (by simp)
 rw [if_pos c3] at H
 have c3b0 : decide (0 ≤ a0) = true := decide_eq_true c3
 clear c3
 by_cases c4 : a0 < (l2.length : Int)
 case neg => rw [if_neg c4] at H; exact absurd H (by simp)
 rw [if_pos c4] at H
 have c4b0 : decide (a0 < (l2.length : Int)) = true := decide_eq_true c4
 clear c4
 by_cases c5 : 0 ≤ a1
 case neg => rw [if_neg c5] at H; exact absurd H (by simp)
 rw [if_pos c5] at H
 have c5b0 : decide (0 ≤ a1) = true := decide_eq_true c5
 clear c5
 by_cases c6 : a1 < (l2.length : Int)
 case neg => rw [if_neg c6] at H; exact absurd H (by simp)
 rw [if_pos c6] at H
 have c6b0 : decide (a1 < (l2.length : Int)) = true := decide_eq_true c6
 clear c6
 obtain rfl := Option.some.inj H
 have hcz7_0 : w.cell? ⟨g2, 0, none⟩ = some (.slice A2 l2.length c2) := (qe0 BK232.out 0).trans rfl
 have hfz7_0 := qd0 BK232.out 0
 have p233 : 0 ≤ (a0 : Int) := of_decide_eq_true (by first | (with_reducible assumption) | assumption)
 have q233 : a0 < (l2.length : Int) := of_decide_eq_true (by first | (with_reducible assumption) | assumption)
 obtain ⟨ad233, e233, hx233_0, hx233_1, hx233_2, hx233_3, hx233_4, hx233_5⟩ := at_T160 HR2.out a0 p233 q233
 cases e233
 replace p233 := eq_true p233
 replace q233 := eq_true q233
 have p234 : 0 ≤ (a1 : Int) := of_decide_eq_true (by first | (with_reducible assumption) | assumption)
 have q234 : a1 < (l2.length : Int) := of_decide_eq_true (by first | (with_reducible assumption) | assumption)
 obtain ⟨ad234, e234, hx234_0, hx234_1, hx234_2, hx234_3, hx234_4, hx234_5⟩ := at_T160 HR2.out a1 p234 q234
 obtain rfl : ad233 = ad234 := (by injection e234)
 replace p234 := eq_true p234
 replace q234 := eq_true q234
 go_enter Try.func127, Try.ntmps127
 go_wp2
 repeat (go_quiet (fail); try go_wp2)
 go_ret
 exact ⟨by first | rfl | (simp; done) | (simp [*]; done), by repeat (first | exact Drawn0.refl _ | apply Drawn0.step)⟩
theorem impl_Picks_1.ok (W : World) {g2 : Nat} {A2 : Option Addr} {c2 : Nat} {l2 : List (S160)} (hk2 : W.heap[g2]? = some (.cells #[.slice A2 l2.length c2] 74 (0, 0))) (hr2 : Kd.C k160 W A2 l2.length l2) (hc2 : l2.length ≤ c2) : FnOk (α := Int) Try.prog W 127 #[.pointer (some ⟨g2, 0, none⟩)] (Value.int .i64) (fun a_ b_ => impl_Picks_1.f a_ b_ l2) :=
 ⟨fn_enters Try.func127 (by kernel_rfl) rfl, fun x y r hr => (impl_Picks_1.calls x y g2 A2 c2 l2 r W hk2 hr2 hc2 hr).mono fun e w' h => ⟨h.1, h.2.below⟩⟩

end Go.Proofs.Ytlodndejipjceaa.PFnExactPicks
