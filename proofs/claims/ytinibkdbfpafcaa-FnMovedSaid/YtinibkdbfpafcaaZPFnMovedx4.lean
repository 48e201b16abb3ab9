/- Lines by a program (a changed copy of the kit's print: this repo's wip/tools): Go functions as Lean functions, and proofs that the calls answer so. -/
import Derived.Test.YtinibkdbfpafcaaZPFnMovedx0
import Derived.Test.YtinibkdbfpafcaaZPFnMovedx3
namespace Go.Proofs.Ytinibkdbfpafcaa.PFnMoved
open Go.RowKit Go.Proofs.YtinibkdbfpafcaaW.PrintWords Go.Proofs.YtinibkdbfpafcaaW.PrintLast Go.Proofs.YtinibkdbfpafcaaW.PrintMore
attribute [local go_sem] max2_int min2_int max_two min_two max_three min_three max_four min_four   -- for this text's walks alone
set_option linter.unusedVariables false
set_option linter.unusedSimpArgs false

/-! ### impl_StockOk: function 74 -/
def impl_StockOk.l0 : Nat → List (S229 × Bool) → List (S117) → Int → Int → Option (Bool)
 | 0, _, _, _, _ => none
 | k + 1, x3, x10, x11, x12 => if x12 < x11 then (if 0 ≤ x12 then (if x12 < (x10.length : Int) then ((impl_cellOk.f k ((rd_T117 x10 x12).f0) ((rd_T117 x10 x12).f1) ((rd_T117 x10 x12).f2) ((rd_T117 x10 x12).f3) ((rd_T117 x10 x12).f4) ((rd_T117 x10 x12).f5)).bind fun t122 => (if t122 = true then ((impl_Cell_where.f ((rd_T117 x10 x12).f0) ((rd_T117 x10 x12).f1) ((rd_T117 x10 x12).f2) ((rd_T117 x10 x12).f3) ((rd_T117 x10 x12).f4) ((rd_T117 x10 x12).f5)).bind fun bt123 => (if bt123.1.size ≤ 9223372036854775807 then (if bt123.2.1.size ≤ 9223372036854775807 then (if bt123.2.2.size ≤ 9223372036854775807 then (if (mget x3 (⟨bt123.1, bt123.2.1, bt123.2.2⟩ : S229)).getD false = true then (some false) else ((impl_Cell_where.f ((rd_T117 x10 x12).f0) ((rd_T117 x10 x12).f1) ((rd_T117 x10 x12).f2) ((rd_T117 x10 x12).f3) ((rd_T117 x10 x12).f4) ((rd_T117 x10 x12).f5)).bind fun bt126 => (if bt126.1.size ≤ 9223372036854775807 then (if bt126.2.1.size ≤ 9223372036854775807 then (if bt126.2.2.size ≤ 9223372036854775807 then (impl_StockOk.l0 k (mset x3 (⟨bt126.1, bt126.2.1, bt126.2.2⟩ : S229) true) x10 x11 (wrap64 (x12 + 1))) else (none)) else (none)) else (none)))) else (none)) else (none)) else (none))) else (some false))) else (none)) else (none)) else (some true)
def impl_StockOk.f (k : Nat) (l0 : List (S117)) : Option (Bool) := if (l0.length : Int) > 100 then (some false) else (impl_StockOk.l0 k (([] : List (S229 × Bool))) l0 (l0.length : Int) 0)
theorem impl_StockOk.mono_l : ∀ k, (∀ y0 y1 y2 y3, LeO (impl_StockOk.l0 k y0 y1 y2 y3) (impl_StockOk.l0 (k + 1) y0 y1 y2 y3))
 | 0 => fun _ _ _ _ r h => by simp [impl_StockOk.l0] at h
 | k + 1 => by
  have ih0 := impl_StockOk.mono_l k
  ·intro y0 y1 y2 y3
   unfold impl_StockOk.l0
   repeat' first
   | (with_reducible exact ih0 _ _ _ _)
   | (with_reducible exact impl_cellOk.mono _ _ _ _ _ _ _)
   | (with_reducible exact LeO.refl _)
   | (with_reducible exact LeO.none _)
   | (with_reducible refine LeO.ite ?_ ?_)
   | (with_reducible refine LeO.bind ?_ (fun _ => ?_))
   | exact ih0 _ _ _ _
   | exact impl_cellOk.mono _ _ _ _ _ _ _
   | exact LeO.none _
   | refine LeO.ite ?_ ?_
   | refine LeO.bind ?_ (fun _ => ?_)
theorem impl_StockOk.mono : ∀ a0 k, LeO (impl_StockOk.f k a0) (impl_StockOk.f (k + 1) a0) := by
 intro a0 k
 have ih0 := impl_StockOk.mono_l k
 unfold impl_StockOk.f
 repeat' first
   | (with_reducible exact ih0 _ _ _ _)
   | (with_reducible exact impl_cellOk.mono _ _ _ _ _ _ _)
   | (with_reducible exact LeO.refl _)
   | (with_reducible exact LeO.none _)
   | (with_reducible refine LeO.ite ?_ ?_)
   | (with_reducible refine LeO.bind ?_ (fun _ => ?_))
   | exact ih0 _ _ _ _
   | exact impl_cellOk.mono _ _ _ _ _ _ _
   | exact LeO.none _
   | refine LeO.ite ?_ ?_
   | refine LeO.bind ?_ (fun _ => ?_)
set_option maxHeartbeats 8000000 in
set_option maxRecDepth 100000 in
theorem impl_StockOk.calls (k : Nat) (A0 : Option Addr) (c0 : Nat) (l0 : List (S117)) (r : Bool) (w : World) (hr0 : Kd.C k117 w A0 l0.length l0) (hc0 : l0.length ≤ c0) (h : impl_StockOk.f k l0 = some r) :
  Calls Try.prog 74 #[.slice A0 l0.length c0] w fun e w' => e = .returned (.bool r) ∧ Below w.heap.size w w' := by
 have hu117 := Try.underlying117
 have HR0 := Aside0.mk hr0
 have HC0 := Aside0.mk hc0
 clear hr0 hc0
 have HB := Aside0.mk (Below.refl w.heap.size w)
 have H : (if (l0.length : Int) > 100 then (some false) else (impl_StockOk.l0 k (([] : List (S229 × Bool))) l0 (l0.length : Int) 0)) = some r := h
 clear h
 by_cases c2 : (l0.length : Int) > 100
 ·rw [if_pos c2] at H
  have c2b0 : decide (100 < (l0.length : Int)) = true := decide_eq_true c2
  have c2b1 : decide (100 < l0.length) = true := decide_eq_true (by omega)
  clear c2
  obtain rfl := Option.some.inj H
  go_enter Try.func74, Try.ntmps74
  go_wp2
  go_ret
  exact ⟨by first | rfl | (simp [errW_none, errW_some] <;> rfl) | (simp [*, errW_none, errW_some] <;> rfl), by repeat (first | (with_reducible first | exact HB.out | apply qc0 | apply qa0 | apply qb0) | exact HB.out)⟩
 rw [if_neg c2] at H
 have c2b0 : decide (100 < (l0.length : Int)) = false := decide_eq_false c2
 have c2b1 : decide (100 < l0.length) = false := decide_eq_false (by omega)
 clear c2
 obtain ⟨y116, hy116⟩ : ∃ y_ : List (S229 × Bool), y_ = (([] : List (S229 × Bool))) := ⟨_, rfl⟩
 replace H : (impl_StockOk.l0 k y116 l0 (l0.length : Int) 0) = some r := by first | (rw [hy116]; with_reducible exact H) | (have H2_ := (Option.bind_some _ _).symm.trans H; rw [hy116]; with_reducible exact H2_) | (have H2_ := (Option.bind_some _ _).symm.trans H; with_reducible exact H2_) | with_reducible exact H | (rw [hy116]; exact H) | exact H
 have Ny116 := Aside0.mk hy116
 clear hy116
 have H' := Aside0.mk H
 clear H
 go_enter Try.func74, Try.ntmps74
 go_wp2_with (first | ((with_reducible refine gate_dst (N := 9) rfl ?_); (try (refine gate_guard (by rfl) ?_; dsimp only)); refine Kd.Z_make_op kz226 226 (ok := fun _ => True) rfl (N := 9) rfl rfl trivial ?_; intro mb119 hq_ w3 ho4 hb; rw [← Ny116.out] at ho4; have n0_ := Aside0.mk (qk0 (by repeat (first | (with_reducible first | exact HB.out | apply qc0 | apply qa0 | apply qb0) | exact HB.out)) hb); have n1_ := Aside0.mk (Kd.Z_lower ho4 (ql0 (by repeat (first | (with_reducible first | exact HB.out | apply qc0 | apply qa0 | apply qb0) | exact HB.out)))); clear HB; have HB := n0_; have HO118 := n1_; clear n0_ n1_; clear hb ho4 hq_))
 go_loopg [12] k (fun kq v12 w' => ∃ (x3_1 : List (S229 × Bool)) (x12_1 : Int), v12 = .int .i64 x12_1 ∧ Aside0 (impl_StockOk.l0 kq x3_1 l0 (l0.length : Int) x12_1 = some r) ∧ Aside0 (kq ≤ k) ∧ Aside0 (Kd.Z kz226 226 w' w.heap.size (fun _ => True) (.map (some mb119)) x3_1) ∧ Aside0 (Below w.heap.size w w'))
 case atStart => exact ⟨(y116), (0), (by first | rfl | (simp; done) | (simp [*]; done)), H', ⟨Nat.le_refl _⟩, ⟨by (with_reducible repeat (first | apply Kd.Z_alloc | apply Kd.Z_drewN | apply Kd.Z_drew)); exact HO118.out⟩, ⟨by repeat (first | (with_reducible first | exact HB.out | apply qc0 | apply qa0 | apply qb0) | exact HB.out)⟩⟩
 case round =>
  clear H'
  try clear c2
  try clear c2b0
  try clear c2b1
  try clear p2
  obtain ⟨x3_1, x12_1, rfl, HA, HK1, HO_3, HB⟩ := hrel
  cases gk with
  | zero => exact absurd HA.out (by simp [impl_StockOk.l0])
  | succ k1 =>
   have H := HA.out
   clear HA
   simp only [impl_StockOk.l0] at H
   by_cases c5 : x12_1 < (l0.length : Int)
   ·rw [if_pos c5] at H
    have c5b0 : decide (x12_1 < (l0.length : Int)) = true := decide_eq_true c5
    clear c5
    by_cases c6 : 0 ≤ x12_1
    case neg => rw [if_neg c6] at H; exact absurd H (by simp)
    rw [if_pos c6] at H
    have c6b0 : decide (0 ≤ x12_1) = true := decide_eq_true c6
    clear c6
    by_cases c7 : x12_1 < (l0.length : Int)
    case neg => rw [if_neg c7] at H; exact absurd H (by simp)
    rw [if_pos c7] at H
    have c7b0 : decide (x12_1 < (l0.length : Int)) = true := decide_eq_true c7
    clear c7
    replace H := Option.bind_eq_some_iff.mp H
    obtain ⟨t122, A80, H⟩ := H
    replace H : (if t122 = true then ((impl_Cell_where.f ((rd_T117 l0 x12_1).f0) ((rd_T117 l0 x12_1).f1) ((rd_T117 l0 x12_1).f2) ((rd_T117 l0 x12_1).f3) ((rd_T117 l0 x12_1).f4) ((rd_T117 l0 x12_1).f5)).bind fun bt123 => (if bt123.1.size ≤ 9223372036854775807 then (if bt123.2.1.size ≤ 9223372036854775807 then (if bt123.2.2.size ≤ 9223372036854775807 then (if (mget x3_1 (⟨bt123.1, bt123.2.1, bt123.2.2⟩ : S229)).getD false = true then (some false) else ((impl_Cell_where.f ((rd_T117 l0 x12_1).f0) ((rd_T117 l0 x12_1).f1) ((rd_T117 l0 x12_1).f2) ((rd_T117 l0 x12_1).f3) ((rd_T117 l0 x12_1).f4) ((rd_T117 l0 x12_1).f5)).bind fun bt126 => (if bt126.1.size ≤ 9223372036854775807 then (if bt126.2.1.size ≤ 9223372036854775807 then (if bt126.2.2.size ≤ 9223372036854775807 then (impl_StockOk.l0 k1 (mset x3_1 (⟨bt126.1, bt126.2.1, bt126.2.2⟩ : S229) true) l0 (l0.length : Int) (wrap64 (x12_1 + 1))) else (none)) else (none)) else (none)))) else (none)) else (none)) else (none))) else (some false)) = some r := H
    have A8 := Aside0.mk A80
    clear A80
    by_cases c9 : t122 = true
    ·subst c9
     have H1 : ((impl_Cell_where.f ((rd_T117 l0 x12_1).f0) ((rd_T117 l0 x12_1).f1) ((rd_T117 l0 x12_1).f2) ((rd_T117 l0 x12_1).f3) ((rd_T117 l0 x12_1).f4) ((rd_T117 l0 x12_1).f5)).bind fun bt123 => (if bt123.1.size ≤ 9223372036854775807 then (if bt123.2.1.size ≤ 9223372036854775807 then (if bt123.2.2.size ≤ 9223372036854775807 then (if (mget x3_1 (⟨bt123.1, bt123.2.1, bt123.2.2⟩ : S229)).getD false = true then (some false) else ((impl_Cell_where.f ((rd_T117 l0 x12_1).f0) ((rd_T117 l0 x12_1).f1) ((rd_T117 l0 x12_1).f2) ((rd_T117 l0 x12_1).f3) ((rd_T117 l0 x12_1).f4) ((rd_T117 l0 x12_1).f5)).bind fun bt126 => (if bt126.1.size ≤ 9223372036854775807 then (if bt126.2.1.size ≤ 9223372036854775807 then (if bt126.2.2.size ≤ 9223372036854775807 then (impl_StockOk.l0 k1 (mset x3_1 (⟨bt126.1, bt126.2.1, bt126.2.2⟩ : S229) true) l0 (l0.length : Int) (wrap64 (x12_1 + 1))) else (none)) else (none)) else (none)))) else (none)) else (none)) else (none))) = some r := by rw [if_pos rfl] at H; exact H
     clear H
     have H := H1
     clear H1
     replace H := Option.bind_eq_some_iff.mp H
     obtain ⟨⟨t123, t124, t125⟩, A100, H⟩ := H
     replace H : (if t123.size ≤ 9223372036854775807 then (if t124.size ≤ 9223372036854775807 then (if t125.size ≤ 9223372036854775807 then (if (mget x3_1 (⟨t123, t124, t125⟩ : S229)).getD false = true then (some false) else ((impl_Cell_where.f ((rd_T117 l0 x12_1).f0) ((rd_T117 l0 x12_1).f1) ((rd_T117 l0 x12_1).f2) ((rd_T117 l0 x12_1).f3) ((rd_T117 l0 x12_1).f4) ((rd_T117 l0 x12_1).f5)).bind fun bt126 => (if bt126.1.size ≤ 9223372036854775807 then (if bt126.2.1.size ≤ 9223372036854775807 then (if bt126.2.2.size ≤ 9223372036854775807 then (impl_StockOk.l0 k1 (mset x3_1 (⟨bt126.1, bt126.2.1, bt126.2.2⟩ : S229) true) l0 (l0.length : Int) (wrap64 (x12_1 + 1))) else (none)) else (none)) else (none)))) else (none)) else (none)) else (none)) = some r := H
     have A10 := Aside0.mk A100
     clear A100
     by_cases c11 : t123.size ≤ 9223372036854775807
     case neg => rw [if_neg c11] at H; exact absurd H (by simp)
     rw [if_pos c11] at H
     have LMc11 := Aside0.mk c11
     clear c11
     by_cases c12 : t124.size ≤ 9223372036854775807
     case neg => rw [if_neg c12] at H; exact absurd H (by simp)
     rw [if_pos c12] at H
     have LMc12 := Aside0.mk c12
     clear c12
     by_cases c13 : t125.size ≤ 9223372036854775807
     case neg => rw [if_neg c13] at H; exact absurd H (by simp)
     rw [if_pos c13] at H
     have LMc13 := Aside0.mk c13
     clear c13
     by_cases c14 : (mget x3_1 (⟨t123, t124, t125⟩ : S229)).getD false = true
     ·rw [if_pos c14] at H
      have c14b0 : (mget x3_1 (⟨t123, t124, t125⟩ : S229)).getD false = true := c14
      clear c14
      obtain rfl := Option.some.inj H
      have p120 : 0 ≤ (x12_1 : Int) := of_decide_eq_true (by first | (with_reducible assumption) | assumption)
      have q120 : x12_1 < (l0.length : Int) := of_decide_eq_true (by first | (with_reducible assumption) | assumption)
      obtain ⟨ad120, e120, hx120_0, hx120_1, hx120_2, hx120_3, hx120_4, hx120_5⟩ := at_T117 HR0.out x12_1 p120 q120
      cases e120
      replace hx120_0 := (HB.out.cell (World.block_lt_of_cell? w _ hx120_0)).trans hx120_0
      replace hx120_1 := (HB.out.cell (World.block_lt_of_cell? w _ hx120_1)).trans hx120_1
      replace hx120_2 := (HB.out.cell (World.block_lt_of_cell? w _ hx120_2)).trans hx120_2
      replace hx120_3 := (HB.out.cell (World.block_lt_of_cell? w _ hx120_3)).trans hx120_3
      replace hx120_4 := (HB.out.cell (World.block_lt_of_cell? w _ hx120_4)).trans hx120_4
      replace hx120_5 := (HB.out.cell (World.block_lt_of_cell? w _ hx120_5)).trans hx120_5
      replace p120 := eq_true p120
      replace q120 := eq_true q120
      go_wp2_with (first | ((with_reducible refine gate_dst (N := 5) rfl ?_); (try (refine gate_guard (by rfl) ?_; dsimp only)); refine qh1 ?hg (N := 5) ?hd (cs := #[.string (⟨#[]⟩ : ByteArray), .string (⟨#[]⟩ : ByteArray), .string (⟨#[]⟩ : ByteArray), .int .i64 0, .int .i64 0, .int .i64 0]) (t := 117) ?hr ?_; (case hd => rfl); (case hg => rfl); (case hr => first | (go_simp; done) | (go_simp; rfl)); intro gb121 hg w15 hbox hb; have n0_ := Aside0.mk (Kd.Z_below (by (with_reducible repeat (first | apply Kd.Z_alloc | apply Kd.Z_drewN | apply Kd.Z_drew)); exact HO_3.out) hb); have n1_ := Aside0.mk (qk0 (by repeat (first | (with_reducible first | exact HB.out | apply qc0 | apply qa0 | apply qb0) | exact HB.out)) hb); have n2_ := Aside0.mk (hbox); have n3_ := Aside0.mk ((by rw [hg]; exact (ql0 (by repeat (first | (with_reducible first | exact HB.out | apply qc0 | apply qa0 | apply qb0) | exact HB.out))) : w.heap.size ≤ gb121)); have n4_ := Aside0.mk ((by rw [hg]; exact (ql0 (by repeat (first | (with_reducible first | exact HB.out | apply qc0 | apply qa0 | apply qb0) | exact HB.out))) : w.heap.size ≤ gb121)); clear HO_3; clear HB; have HO_3 := n0_; have HB := n1_; have BK121 := n2_; have GW121 := n3_; have GE121 := n4_; clear n0_ n1_ n2_ n3_ n4_; clear hb hbox hg; have hcz16_0 : w15.cell? ⟨gb121, 0, none⟩ = some (.string (⟨#[]⟩ : ByteArray)) := (qe0 BK121.out 0).trans rfl; have hcz16_1 : w15.cell? ⟨gb121, 1, none⟩ = some (.string (⟨#[]⟩ : ByteArray)) := (qe0 BK121.out 1).trans rfl; have hcz16_2 : w15.cell? ⟨gb121, 2, none⟩ = some (.string (⟨#[]⟩ : ByteArray)) := (qe0 BK121.out 2).trans rfl; have hcz16_3 : w15.cell? ⟨gb121, 3, none⟩ = some (.int .i64 0) := (qe0 BK121.out 3).trans rfl; have hcz16_4 : w15.cell? ⟨gb121, 4, none⟩ = some (.int .i64 0) := (qe0 BK121.out 4).trans rfl; have hcz16_5 : w15.cell? ⟨gb121, 5, none⟩ = some (.int .i64 0) := (qe0 BK121.out 5).trans rfl; have hfz16_0 := qd0 BK121.out 0; have hfz16_1 := qd0 BK121.out 1; have hfz16_2 := qd0 BK121.out 2; have hfz16_3 := qd0 BK121.out 3; have hfz16_4 := qd0 BK121.out 4; have hfz16_5 := qd0 BK121.out 5) | ((with_reducible refine qo0 (f := 161) rfl ?_); refine qz0 (some 17) rfl rfl Try.func161 (by kernel_rfl) rfl #[.agg #[.string ((rd_T117 l0 x12_1).f0), .string ((rd_T117 l0 x12_1).f1), .string ((rd_T117 l0 x12_1).f2), .int .i64 ((rd_T117 l0 x12_1).f3), .int .i64 ((rd_T117 l0 x12_1).f4), .int .i64 ((rd_T117 l0 x12_1).f5)]] rfl (by (try simp only [List.map_toArray, List.map_cons, List.map_nil]); first | done | rfl | (simp only [List.length_drop, List.length_take]; rfl)) ?_; (with_reducible refine (impl_cellOk.calls k1 ((rd_T117 l0 x12_1).f0) ((rd_T117 l0 x12_1).f1) ((rd_T117 l0 x12_1).f2) ((rd_T117 l0 x12_1).f3) ((rd_T117 l0 x12_1).f4) ((rd_T117 l0 x12_1).f5) true _ A8.out).mono ?_); rintro e w17 ⟨rfl, hb⟩; refine ⟨_, rfl, ?_⟩; have n0_ := Aside0.mk (Kd.Z_below (by (with_reducible repeat (first | apply Kd.Z_alloc | apply Kd.Z_drewN | apply Kd.Z_drew)); exact (Kd.Z_mono (Kd.Z_far (p := ⟨gb121, 5, none⟩) (Kd.Z_far (p := ⟨gb121, 4, none⟩) (Kd.Z_far (p := ⟨gb121, 3, none⟩) (Kd.Z_far (p := ⟨gb121, 2, none⟩) (Kd.Z_far (p := ⟨gb121, 1, none⟩) (Kd.Z_far (p := ⟨gb121, 0, none⟩) (Kd.Z_types HO_3.out BK121.out (by decide)) (fun _ hk => hk.2) (.string ((rd_T117 l0 x12_1).f0))) (fun _ hk => hk.2) (.string ((rd_T117 l0 x12_1).f1))) (fun _ hk => hk.2) (.string ((rd_T117 l0 x12_1).f2))) (fun _ hk => hk.2) (.int .i64 ((rd_T117 l0 x12_1).f3))) (fun _ hk => hk.2) (.int .i64 ((rd_T117 l0 x12_1).f4))) (fun _ hk => hk.2) (.int .i64 ((rd_T117 l0 x12_1).f5))) (fun _ h_ => h_.1))) hb); have n1_ := Aside0.mk (ql1 (g := gb121) (o := .cells #[.string ((rd_T117 l0 x12_1).f0), .string ((rd_T117 l0 x12_1).f1), .string ((rd_T117 l0 x12_1).f2), .int .i64 ((rd_T117 l0 x12_1).f3), .int .i64 ((rd_T117 l0 x12_1).f4), .int .i64 ((rd_T117 l0 x12_1).f5)] 117 (0, 0)) (by (with_reducible repeat (first | refine qm0 ?_ _ | refine qp0 ?_ | refine qn0 ?_ _)); refine qx0 (cs := #[.string ((rd_T117 l0 x12_1).f0), .string ((rd_T117 l0 x12_1).f1), .string ((rd_T117 l0 x12_1).f2), .int .i64 ((rd_T117 l0 x12_1).f3), .int .i64 ((rd_T117 l0 x12_1).f4), .int .i64 0]) ?_ 5 _ rfl; (with_reducible repeat (first | refine qm0 ?_ _ | refine qp0 ?_ | refine qn0 ?_ _)); refine qx0 (cs := #[.string ((rd_T117 l0 x12_1).f0), .string ((rd_T117 l0 x12_1).f1), .string ((rd_T117 l0 x12_1).f2), .int .i64 ((rd_T117 l0 x12_1).f3), .int .i64 0, .int .i64 0]) ?_ 4 _ rfl; (with_reducible repeat (first | refine qm0 ?_ _ | refine qp0 ?_ | refine qn0 ?_ _)); refine qx0 (cs := #[.string ((rd_T117 l0 x12_1).f0), .string ((rd_T117 l0 x12_1).f1), .string ((rd_T117 l0 x12_1).f2), .int .i64 0, .int .i64 0, .int .i64 0]) ?_ 3 _ rfl; (with_reducible repeat (first | refine qm0 ?_ _ | refine qp0 ?_ | refine qn0 ?_ _)); refine qx0 (cs := #[.string ((rd_T117 l0 x12_1).f0), .string ((rd_T117 l0 x12_1).f1), .string (⟨#[]⟩ : ByteArray), .int .i64 0, .int .i64 0, .int .i64 0]) ?_ 2 _ rfl; (with_reducible repeat (first | refine qm0 ?_ _ | refine qp0 ?_ | refine qn0 ?_ _)); refine qx0 (cs := #[.string ((rd_T117 l0 x12_1).f0), .string (⟨#[]⟩ : ByteArray), .string (⟨#[]⟩ : ByteArray), .int .i64 0, .int .i64 0, .int .i64 0]) ?_ 1 _ rfl; (with_reducible repeat (first | refine qm0 ?_ _ | refine qp0 ?_ | refine qn0 ?_ _)); refine qx0 (cs := #[.string (⟨#[]⟩ : ByteArray), .string (⟨#[]⟩ : ByteArray), .string (⟨#[]⟩ : ByteArray), .int .i64 0, .int .i64 0, .int .i64 0]) ?_ 0 _ rfl; (with_reducible repeat (first | refine qm0 ?_ _ | refine qp0 ?_ | refine qn0 ?_ _)); exact BK121.out) hb); have n2_ := Aside0.mk (qk0 (by repeat (first | (with_reducible first | exact HB.out | apply qc0 | apply qa0 | apply qb0 | refine qg0 ?_ GE121.out) | exact HB.out)) hb); clear HO_3; clear BK121; clear HB; have HO_3 := n0_; have BK121 := n1_; have HB := n2_; clear n0_ n1_ n2_; (try clear hb); (try clear hb2); (try clear hk); (try clear hi); have hcz18_0 : w17.cell? ⟨gb121, 0, none⟩ = some (.string ((rd_T117 l0 x12_1).f0)) := (qe0 BK121.out 0).trans rfl; have hcz18_1 : w17.cell? ⟨gb121, 1, none⟩ = some (.string ((rd_T117 l0 x12_1).f1)) := (qe0 BK121.out 1).trans rfl; have hcz18_2 : w17.cell? ⟨gb121, 2, none⟩ = some (.string ((rd_T117 l0 x12_1).f2)) := (qe0 BK121.out 2).trans rfl; have hcz18_3 : w17.cell? ⟨gb121, 3, none⟩ = some (.int .i64 ((rd_T117 l0 x12_1).f3)) := (qe0 BK121.out 3).trans rfl; have hcz18_4 : w17.cell? ⟨gb121, 4, none⟩ = some (.int .i64 ((rd_T117 l0 x12_1).f4)) := (qe0 BK121.out 4).trans rfl; have hcz18_5 : w17.cell? ⟨gb121, 5, none⟩ = some (.int .i64 ((rd_T117 l0 x12_1).f5)) := (qe0 BK121.out 5).trans rfl; have hfz18_0 := qd0 BK121.out 0; have hfz18_1 := qd0 BK121.out 1; have hfz18_2 := qd0 BK121.out 2; have hfz18_3 := qd0 BK121.out 3; have hfz18_4 := qd0 BK121.out 4; have hfz18_5 := qd0 BK121.out 5) | (go_at_call 162; (with_reducible refine (impl_Cell_where.calls ((rd_T117 l0 x12_1).f0) ((rd_T117 l0 x12_1).f1) ((rd_T117 l0 x12_1).f2) ((rd_T117 l0 x12_1).f3) ((rd_T117 l0 x12_1).f4) ((rd_T117 l0 x12_1).f5) t123 t124 t125 _ A10.out).mono ?_); rintro e w19 ⟨rfl, hb⟩; have n0_ := Aside0.mk (Kd.Z_below (by (with_reducible repeat (first | apply Kd.Z_alloc | apply Kd.Z_drewN | apply Kd.Z_drew)); exact HO_3.out) hb); have n1_ := Aside0.mk (ql1 (g := gb121) (o := .cells #[.string ((rd_T117 l0 x12_1).f0), .string ((rd_T117 l0 x12_1).f1), .string ((rd_T117 l0 x12_1).f2), .int .i64 ((rd_T117 l0 x12_1).f3), .int .i64 ((rd_T117 l0 x12_1).f4), .int .i64 ((rd_T117 l0 x12_1).f5)] 117 (0, 0)) (by (with_reducible repeat (first | refine qm0 ?_ _ | refine qp0 ?_ | refine qn0 ?_ _)); exact BK121.out) hb); have n2_ := Aside0.mk (qk0 (by repeat (first | (with_reducible first | exact HB.out | apply qc0 | apply qa0 | apply qb0 | refine qg0 ?_ GE121.out) | exact HB.out)) hb); clear HO_3; clear BK121; clear HB; have HO_3 := n0_; have BK121 := n1_; have HB := n2_; clear n0_ n1_ n2_; (try clear hb); (try clear hb2); (try clear hk); (try clear hi)) | ((with_reducible refine gate_dst (N := 23) rfl ?_); (try (refine gate_guard (by rfl) ?_; dsimp only)); refine Kd.Z_look_op (base := w.heap.size) (ok := fun _ => True) kz226 226 rfl rfl _ _ 226 rfl kz226_K kz226_inj kz226_t false kz226_z mb119 x3_1 (⟨t123, t124, t125⟩ : S229) rfl rfl (kz226_key (⟨t123, t124, t125⟩ : S229) LMc11.out LMc12.out LMc13.out) ?aO (.bool ((mget x3_1 (⟨t123, t124, t125⟩ : S229)).getD false)) rfl ?_; (case aO => exact (by (with_reducible repeat (first | apply Kd.Z_alloc | apply Kd.Z_drewN | apply Kd.Z_drew)); exact HO_3.out))))
      go_ret
      exact ⟨by first | rfl | (simp [errW_none, errW_some] <;> rfl) | (simp [*, errW_none, errW_some] <;> rfl), by repeat (first | (with_reducible first | exact HB.out | apply qc0 | apply qa0 | apply qb0 | refine qg0 ?_ GE121.out) | exact HB.out)⟩
     rw [if_neg c14] at H
     have c14b0 : (mget x3_1 (⟨t123, t124, t125⟩ : S229)).getD false = false := by simpa using c14
     clear c14
     replace H := Option.bind_eq_some_iff.mp H
     obtain ⟨⟨t126, t127, t128⟩, A200, H⟩ := H
     replace H : (if t126.size ≤ 9223372036854775807 then (if t127.size ≤ 9223372036854775807 then (if t128.size ≤ 9223372036854775807 then (impl_StockOk.l0 k1 (mset x3_1 (⟨t126, t127, t128⟩ : S229) true) l0 (l0.length : Int) (wrap64 (x12_1 + 1))) else (none)) else (none)) else (none)) = some r := H
     have A20 := Aside0.mk A200
     clear A200
     by_cases c21 : t126.size ≤ 9223372036854775807
     case neg => rw [if_neg c21] at H; exact absurd H (by simp)
     rw [if_pos c21] at H
     have LMc21 := Aside0.mk c21
     clear c21
     by_cases c22 : t127.size ≤ 9223372036854775807
     case neg => rw [if_neg c22] at H; exact absurd H (by simp)
     rw [if_pos c22] at H
     have LMc22 := Aside0.mk c22
     clear c22
     by_cases c23 : t128.size ≤ 9223372036854775807
     case neg => rw [if_neg c23] at H; exact absurd H (by simp)
     rw [if_pos c23] at H
     have LMc23 := Aside0.mk c23
     clear c23
     obtain ⟨y129, hy129⟩ : ∃ y_ : List (S229 × Bool), y_ = (mset x3_1 (⟨t126, t127, t128⟩ : S229) true) := ⟨_, rfl⟩
     replace H : (impl_StockOk.l0 k1 y129 l0 (l0.length : Int) (wrap64 (x12_1 + 1))) = some r := by first | (rw [hy129]; with_reducible exact H) | (have H2_ := (Option.bind_some _ _).symm.trans H; rw [hy129]; with_reducible exact H2_) | (have H2_ := (Option.bind_some _ _).symm.trans H; with_reducible exact H2_) | with_reducible exact H | (rw [hy129]; exact H) | exact H
     have Ny129 := Aside0.mk hy129
     clear hy129
     have H' := Aside0.mk H
     clear H
     have p120 : 0 ≤ (x12_1 : Int) := of_decide_eq_true (by first | (with_reducible assumption) | assumption)
     have q120 : x12_1 < (l0.length : Int) := of_decide_eq_true (by first | (with_reducible assumption) | assumption)
     obtain ⟨ad120, e120, hx120_0, hx120_1, hx120_2, hx120_3, hx120_4, hx120_5⟩ := at_T117 HR0.out x12_1 p120 q120
     cases e120
     replace hx120_0 := (HB.out.cell (World.block_lt_of_cell? w _ hx120_0)).trans hx120_0
     replace hx120_1 := (HB.out.cell (World.block_lt_of_cell? w _ hx120_1)).trans hx120_1
     replace hx120_2 := (HB.out.cell (World.block_lt_of_cell? w _ hx120_2)).trans hx120_2
     replace hx120_3 := (HB.out.cell (World.block_lt_of_cell? w _ hx120_3)).trans hx120_3
     replace hx120_4 := (HB.out.cell (World.block_lt_of_cell? w _ hx120_4)).trans hx120_4
     replace hx120_5 := (HB.out.cell (World.block_lt_of_cell? w _ hx120_5)).trans hx120_5
     replace p120 := eq_true p120
     replace q120 := eq_true q120
     go_wp2_with (first | ((with_reducible refine gate_dst (N := 5) rfl ?_); (try (refine gate_guard (by rfl) ?_; dsimp only)); refine qh1 ?hg (N := 5) ?hd (cs := #[.string (⟨#[]⟩ : ByteArray), .string (⟨#[]⟩ : ByteArray), .string (⟨#[]⟩ : ByteArray), .int .i64 0, .int .i64 0, .int .i64 0]) (t := 117) ?hr ?_; (case hd => rfl); (case hg => rfl); (case hr => first | (go_simp; done) | (go_simp; rfl)); intro gb121 hg w24 hbox hb; have n0_ := Aside0.mk (Kd.Z_below (by (with_reducible repeat (first | apply Kd.Z_alloc | apply Kd.Z_drewN | apply Kd.Z_drew)); exact HO_3.out) hb); have n1_ := Aside0.mk (qk0 (by repeat (first | (with_reducible first | exact HB.out | apply qc0 | apply qa0 | apply qb0) | exact HB.out)) hb); have n2_ := Aside0.mk (hbox); have n3_ := Aside0.mk ((by rw [hg]; exact (ql0 (by repeat (first | (with_reducible first | exact HB.out | apply qc0 | apply qa0 | apply qb0) | exact HB.out))) : w.heap.size ≤ gb121)); have n4_ := Aside0.mk ((by rw [hg]; exact (ql0 (by repeat (first | (with_reducible first | exact HB.out | apply qc0 | apply qa0 | apply qb0) | exact HB.out))) : w.heap.size ≤ gb121)); clear HO_3; clear HB; have HO_3 := n0_; have HB := n1_; have BK121 := n2_; have GW121 := n3_; have GE121 := n4_; clear n0_ n1_ n2_ n3_ n4_; clear hb hbox hg; have hcz25_0 : w24.cell? ⟨gb121, 0, none⟩ = some (.string (⟨#[]⟩ : ByteArray)) := (qe0 BK121.out 0).trans rfl; have hcz25_1 : w24.cell? ⟨gb121, 1, none⟩ = some (.string (⟨#[]⟩ : ByteArray)) := (qe0 BK121.out 1).trans rfl; have hcz25_2 : w24.cell? ⟨gb121, 2, none⟩ = some (.string (⟨#[]⟩ : ByteArray)) := (qe0 BK121.out 2).trans rfl; have hcz25_3 : w24.cell? ⟨gb121, 3, none⟩ = some (.int .i64 0) := (qe0 BK121.out 3).trans rfl; have hcz25_4 : w24.cell? ⟨gb121, 4, none⟩ = some (.int .i64 0) := (qe0 BK121.out 4).trans rfl; have hcz25_5 : w24.cell? ⟨gb121, 5, none⟩ = some (.int .i64 0) := (qe0 BK121.out 5).trans rfl; have hfz25_0 := qd0 BK121.out 0; have hfz25_1 := qd0 BK121.out 1; have hfz25_2 := qd0 BK121.out 2; have hfz25_3 := qd0 BK121.out 3; have hfz25_4 := qd0 BK121.out 4; have hfz25_5 := qd0 BK121.out 5) | ((with_reducible refine qo0 (f := 161) rfl ?_); refine qz0 (some 17) rfl rfl Try.func161 (by kernel_rfl) rfl #[.agg #[.string ((rd_T117 l0 x12_1).f0), .string ((rd_T117 l0 x12_1).f1), .string ((rd_T117 l0 x12_1).f2), .int .i64 ((rd_T117 l0 x12_1).f3), .int .i64 ((rd_T117 l0 x12_1).f4), .int .i64 ((rd_T117 l0 x12_1).f5)]] rfl (by (try simp only [List.map_toArray, List.map_cons, List.map_nil]); first | done | rfl | (simp only [List.length_drop, List.length_take]; rfl)) ?_; (with_reducible refine (impl_cellOk.calls k1 ((rd_T117 l0 x12_1).f0) ((rd_T117 l0 x12_1).f1) ((rd_T117 l0 x12_1).f2) ((rd_T117 l0 x12_1).f3) ((rd_T117 l0 x12_1).f4) ((rd_T117 l0 x12_1).f5) true _ A8.out).mono ?_); rintro e w26 ⟨rfl, hb⟩; refine ⟨_, rfl, ?_⟩; have n0_ := Aside0.mk (Kd.Z_below (by (with_reducible repeat (first | apply Kd.Z_alloc | apply Kd.Z_drewN | apply Kd.Z_drew)); exact (Kd.Z_mono (Kd.Z_far (p := ⟨gb121, 5, none⟩) (Kd.Z_far (p := ⟨gb121, 4, none⟩) (Kd.Z_far (p := ⟨gb121, 3, none⟩) (Kd.Z_far (p := ⟨gb121, 2, none⟩) (Kd.Z_far (p := ⟨gb121, 1, none⟩) (Kd.Z_far (p := ⟨gb121, 0, none⟩) (Kd.Z_types HO_3.out BK121.out (by decide)) (fun _ hk => hk.2) (.string ((rd_T117 l0 x12_1).f0))) (fun _ hk => hk.2) (.string ((rd_T117 l0 x12_1).f1))) (fun _ hk => hk.2) (.string ((rd_T117 l0 x12_1).f2))) (fun _ hk => hk.2) (.int .i64 ((rd_T117 l0 x12_1).f3))) (fun _ hk => hk.2) (.int .i64 ((rd_T117 l0 x12_1).f4))) (fun _ hk => hk.2) (.int .i64 ((rd_T117 l0 x12_1).f5))) (fun _ h_ => h_.1))) hb); have n1_ := Aside0.mk (ql1 (g := gb121) (o := .cells #[.string ((rd_T117 l0 x12_1).f0), .string ((rd_T117 l0 x12_1).f1), .string ((rd_T117 l0 x12_1).f2), .int .i64 ((rd_T117 l0 x12_1).f3), .int .i64 ((rd_T117 l0 x12_1).f4), .int .i64 ((rd_T117 l0 x12_1).f5)] 117 (0, 0)) (by (with_reducible repeat (first | refine qm0 ?_ _ | refine qp0 ?_ | refine qn0 ?_ _)); refine qx0 (cs := #[.string ((rd_T117 l0 x12_1).f0), .string ((rd_T117 l0 x12_1).f1), .string ((rd_T117 l0 x12_1).f2), .int .i64 ((rd_T117 l0 x12_1).f3), .int .i64 ((rd_T117 l0 x12_1).f4), .int .i64 0]) ?_ 5 _ rfl; (with_reducible repeat (first | refine qm0 ?_ _ | refine qp0 ?_ | refine qn0 ?_ _)); refine qx0 (cs := #[.string ((rd_T117 l0 x12_1).f0), .string ((rd_T117 l0 x12_1).f1), .string ((rd_T117 l0 x12_1).f2), .int .i64 ((rd_T117 l0 x12_1).f3), .int .i64 0, .int .i64 0]) ?_ 4 _ rfl; (with_reducible repeat (first | refine qm0 ?_ _ | refine qp0 ?_ | refine qn0 ?_ _)); refine qx0 (cs := #[.string ((rd_T117 l0 x12_1).f0), .string ((rd_T117 l0 x12_1).f1), .string ((rd_T117 l0 x12_1).f2), .int .i64 0, .int .i64 0, .int .i64 0]) ?_ 3 _ rfl; (with_reducible repeat (first | refine qm0 ?_ _ | refine qp0 ?_ | refine qn0 ?_ _)); refine qx0 (cs := #[.string ((rd_T117 l0 x12_1).f0), .string ((rd_T117 l0 x12_1).f1), .string (⟨#[]⟩ : ByteArray), .int .i64 0, .int .i64 0, .int .i64 0]) ?_ 2 _ rfl; (with_reducible repeat (first | refine qm0 ?_ _ | refine qp0 ?_ | refine qn0 ?_ _)); refine qx0 (cs := #[.string ((rd_T117 l0 x12_1).f0), .string (⟨#[]⟩ : ByteArray), .string (⟨#[]⟩ : ByteArray), .int .i64 0, .int .i64 0, .int .i64 0]) ?_ 1 _ rfl; (with_reducible repeat (first | refine qm0 ?_ _ | refine qp0 ?_ | refine qn0 ?_ _)); refine qx0 (cs := #[.string (⟨#[]⟩ : ByteArray), .string (⟨#[]⟩ : ByteArray), .string (⟨#[]⟩ : ByteArray), .int .i64 0, .int .i64 0, .int .i64 0]) ?_ 0 _ rfl; (with_reducible repeat (first | refine qm0 ?_ _ | refine qp0 ?_ | refine qn0 ?_ _)); exact BK121.out) hb); have n2_ := Aside0.mk (qk0 (by repeat (first | (with_reducible first | exact HB.out | apply qc0 | apply qa0 | apply qb0 | refine qg0 ?_ GE121.out) | exact HB.out)) hb); clear HO_3; clear BK121; clear HB; have HO_3 := n0_; have BK121 := n1_; have HB := n2_; clear n0_ n1_ n2_; (try clear hb); (try clear hb2); (try clear hk); (try clear hi); have hcz27_0 : w26.cell? ⟨gb121, 0, none⟩ = some (.string ((rd_T117 l0 x12_1).f0)) := (qe0 BK121.out 0).trans rfl; have hcz27_1 : w26.cell? ⟨gb121, 1, none⟩ = some (.string ((rd_T117 l0 x12_1).f1)) := (qe0 BK121.out 1).trans rfl; have hcz27_2 : w26.cell? ⟨gb121, 2, none⟩ = some (.string ((rd_T117 l0 x12_1).f2)) := (qe0 BK121.out 2).trans rfl; have hcz27_3 : w26.cell? ⟨gb121, 3, none⟩ = some (.int .i64 ((rd_T117 l0 x12_1).f3)) := (qe0 BK121.out 3).trans rfl; have hcz27_4 : w26.cell? ⟨gb121, 4, none⟩ = some (.int .i64 ((rd_T117 l0 x12_1).f4)) := (qe0 BK121.out 4).trans rfl; have hcz27_5 : w26.cell? ⟨gb121, 5, none⟩ = some (.int .i64 ((rd_T117 l0 x12_1).f5)) := (qe0 BK121.out 5).trans rfl; have hfz27_0 := qd0 BK121.out 0; have hfz27_1 := qd0 BK121.out 1; have hfz27_2 := qd0 BK121.out 2; have hfz27_3 := qd0 BK121.out 3; have hfz27_4 := qd0 BK121.out 4; have hfz27_5 := qd0 BK121.out 5) | (go_at_call 162; (with_reducible refine (impl_Cell_where.calls ((rd_T117 l0 x12_1).f0) ((rd_T117 l0 x12_1).f1) ((rd_T117 l0 x12_1).f2) ((rd_T117 l0 x12_1).f3) ((rd_T117 l0 x12_1).f4) ((rd_T117 l0 x12_1).f5) t123 t124 t125 _ A10.out).mono ?_); rintro e w28 ⟨rfl, hb⟩; have n0_ := Aside0.mk (Kd.Z_below (by (with_reducible repeat (first | apply Kd.Z_alloc | apply Kd.Z_drewN | apply Kd.Z_drew)); exact HO_3.out) hb); have n1_ := Aside0.mk (ql1 (g := gb121) (o := .cells #[.string ((rd_T117 l0 x12_1).f0), .string ((rd_T117 l0 x12_1).f1), .string ((rd_T117 l0 x12_1).f2), .int .i64 ((rd_T117 l0 x12_1).f3), .int .i64 ((rd_T117 l0 x12_1).f4), .int .i64 ((rd_T117 l0 x12_1).f5)] 117 (0, 0)) (by (with_reducible repeat (first | refine qm0 ?_ _ | refine qp0 ?_ | refine qn0 ?_ _)); exact BK121.out) hb); have n2_ := Aside0.mk (qk0 (by repeat (first | (with_reducible first | exact HB.out | apply qc0 | apply qa0 | apply qb0 | refine qg0 ?_ GE121.out) | exact HB.out)) hb); clear HO_3; clear BK121; clear HB; have HO_3 := n0_; have BK121 := n1_; have HB := n2_; clear n0_ n1_ n2_; (try clear hb); (try clear hb2); (try clear hk); (try clear hi)) | ((with_reducible refine gate_dst (N := 23) rfl ?_); (try (refine gate_guard (by rfl) ?_; dsimp only)); refine Kd.Z_look_op (base := w.heap.size) (ok := fun _ => True) kz226 226 rfl rfl _ _ 226 rfl kz226_K kz226_inj kz226_t false kz226_z mb119 x3_1 (⟨t123, t124, t125⟩ : S229) rfl rfl (kz226_key (⟨t123, t124, t125⟩ : S229) LMc11.out LMc12.out LMc13.out) ?aO (.bool ((mget x3_1 (⟨t123, t124, t125⟩ : S229)).getD false)) rfl ?_; (case aO => exact (by (with_reducible repeat (first | apply Kd.Z_alloc | apply Kd.Z_drewN | apply Kd.Z_drew)); exact HO_3.out)); have hcz29_0 : w28.cell? ⟨gb121, 0, none⟩ = some (.string ((rd_T117 l0 x12_1).f0)) := (qe0 BK121.out 0).trans rfl; have hcz29_1 : w28.cell? ⟨gb121, 1, none⟩ = some (.string ((rd_T117 l0 x12_1).f1)) := (qe0 BK121.out 1).trans rfl; have hcz29_2 : w28.cell? ⟨gb121, 2, none⟩ = some (.string ((rd_T117 l0 x12_1).f2)) := (qe0 BK121.out 2).trans rfl; have hcz29_3 : w28.cell? ⟨gb121, 3, none⟩ = some (.int .i64 ((rd_T117 l0 x12_1).f3)) := (qe0 BK121.out 3).trans rfl; have hcz29_4 : w28.cell? ⟨gb121, 4, none⟩ = some (.int .i64 ((rd_T117 l0 x12_1).f4)) := (qe0 BK121.out 4).trans rfl; have hcz29_5 : w28.cell? ⟨gb121, 5, none⟩ = some (.int .i64 ((rd_T117 l0 x12_1).f5)) := (qe0 BK121.out 5).trans rfl; have hfz29_0 := qd0 BK121.out 0; have hfz29_1 := qd0 BK121.out 1; have hfz29_2 := qd0 BK121.out 2; have hfz29_3 := qd0 BK121.out 3; have hfz29_4 := qd0 BK121.out 4; have hfz29_5 := qd0 BK121.out 5) | ((with_reducible refine qo0 (f := 162) rfl ?_); refine qz0 (some 27) rfl rfl Try.func162 (by kernel_rfl) rfl #[.agg #[.string ((rd_T117 l0 x12_1).f0), .string ((rd_T117 l0 x12_1).f1), .string ((rd_T117 l0 x12_1).f2), .int .i64 ((rd_T117 l0 x12_1).f3), .int .i64 ((rd_T117 l0 x12_1).f4), .int .i64 ((rd_T117 l0 x12_1).f5)]] rfl (by (try simp only [List.map_toArray, List.map_cons, List.map_nil]); first | done | rfl | (simp only [List.length_drop, List.length_take]; rfl)) ?_; (with_reducible refine (impl_Cell_where.calls ((rd_T117 l0 x12_1).f0) ((rd_T117 l0 x12_1).f1) ((rd_T117 l0 x12_1).f2) ((rd_T117 l0 x12_1).f3) ((rd_T117 l0 x12_1).f4) ((rd_T117 l0 x12_1).f5) t126 t127 t128 _ A20.out).mono ?_); rintro e w30 ⟨rfl, hb⟩; refine ⟨_, rfl, ?_⟩; have n0_ := Aside0.mk (Kd.Z_below (by (with_reducible repeat (first | apply Kd.Z_alloc | apply Kd.Z_drewN | apply Kd.Z_drew)); exact HO_3.out) hb); have n1_ := Aside0.mk (ql1 (g := gb121) (o := .cells #[.string ((rd_T117 l0 x12_1).f0), .string ((rd_T117 l0 x12_1).f1), .string ((rd_T117 l0 x12_1).f2), .int .i64 ((rd_T117 l0 x12_1).f3), .int .i64 ((rd_T117 l0 x12_1).f4), .int .i64 ((rd_T117 l0 x12_1).f5)] 117 (0, 0)) (by (with_reducible repeat (first | refine qm0 ?_ _ | refine qp0 ?_ | refine qn0 ?_ _)); exact BK121.out) hb); have n2_ := Aside0.mk (qk0 (by repeat (first | (with_reducible first | exact HB.out | apply qc0 | apply qa0 | apply qb0 | refine qg0 ?_ GE121.out) | exact HB.out)) hb); clear HO_3; clear BK121; clear HB; have HO_3 := n0_; have BK121 := n1_; have HB := n2_; clear n0_ n1_ n2_; (try clear hb); (try clear hb2); (try clear hk); (try clear hi)) | ((with_reducible refine gate_mapset (t := 226) rfl ?_); refine Kd.Z_set_op (base := w.heap.size) (ok := fun _ => True) kz226 226 rfl rfl _ _ _ 226 rfl rfl kz226_K kz226_inj kz226_t mb119 x3_1 (⟨t126, t127, t128⟩ : S229) true rfl rfl rfl (kz226_key (⟨t126, t127, t128⟩ : S229) LMc21.out LMc22.out LMc23.out) ?aO ?_; (case aO => exact (by (with_reducible repeat (first | apply Kd.Z_alloc | apply Kd.Z_drewN | apply Kd.Z_drew)); exact HO_3.out)); intro w31 ho_ hg hbb_ hz_; rw [← Ny129.out] at ho_; have n0_ := Aside0.mk (ho_); have n1_ := Aside0.mk (blk_grown (g := gb121) (o := .cells #[.string ((rd_T117 l0 x12_1).f0), .string ((rd_T117 l0 x12_1).f1), .string ((rd_T117 l0 x12_1).f2), .int .i64 ((rd_T117 l0 x12_1).f3), .int .i64 ((rd_T117 l0 x12_1).f4), .int .i64 ((rd_T117 l0 x12_1).f5)] 117 (0, 0)) (by (with_reducible repeat (first | refine qm0 ?_ _ | refine qp0 ?_ | refine qn0 ?_ _)); exact BK121.out) hg (blk_neZ (by (with_reducible repeat (first | refine qm0 ?_ _ | refine qp0 ?_ | refine qn0 ?_ _)); exact BK121.out) hz_)); have n2_ := Aside0.mk (pw_below_grown (by repeat (first | (with_reducible first | exact HB.out | apply qc0 | apply qa0 | apply qb0 | refine qg0 ?_ GE121.out) | exact HB.out)) (some mb119) (ql0 (by repeat (first | (with_reducible first | exact HB.out | apply qc0 | apply qa0 | apply qb0 | refine qg0 ?_ GE121.out) | exact HB.out))) hg (fun k_ e_ => by cases e_; exact hbb_)); clear HO_3; clear BK121; clear HB; have HO_3 := n0_; have BK121 := n1_; have HB := n2_; clear n0_ n1_ n2_; clear ho_ hg hbb_ hz_))
     go_roundg k1
     case measure => have := HK1.out; omega
     case rel => exact ⟨(y129), (wrap64 (x12_1 + 1)), (by first | rfl | (simp; done) | (simp [*]; done)), H', ⟨by have := HK1.out; omega⟩, ⟨by (with_reducible repeat (first | apply Kd.Z_alloc | apply Kd.Z_drewN | apply Kd.Z_drew)); exact HO_3.out⟩, ⟨by repeat (first | (with_reducible first | exact HB.out | apply qc0 | apply qa0 | apply qb0 | refine qg0 ?_ GE121.out) | exact HB.out)⟩⟩
    replace c9 := Bool.eq_false_iff.mpr c9
    subst c9
    have H1 : (some false) = some r := by rw [if_neg (show ¬ (false = true) by decide)] at H; exact H
    clear H
    have H := H1
    clear H1
    obtain rfl := Option.some.inj H
    have p120 : 0 ≤ (x12_1 : Int) := of_decide_eq_true (by first | (with_reducible assumption) | assumption)
    have q120 : x12_1 < (l0.length : Int) := of_decide_eq_true (by first | (with_reducible assumption) | assumption)
    obtain ⟨ad120, e120, hx120_0, hx120_1, hx120_2, hx120_3, hx120_4, hx120_5⟩ := at_T117 HR0.out x12_1 p120 q120
    cases e120
    replace hx120_0 := (HB.out.cell (World.block_lt_of_cell? w _ hx120_0)).trans hx120_0
    replace hx120_1 := (HB.out.cell (World.block_lt_of_cell? w _ hx120_1)).trans hx120_1
    replace hx120_2 := (HB.out.cell (World.block_lt_of_cell? w _ hx120_2)).trans hx120_2
    replace hx120_3 := (HB.out.cell (World.block_lt_of_cell? w _ hx120_3)).trans hx120_3
    replace hx120_4 := (HB.out.cell (World.block_lt_of_cell? w _ hx120_4)).trans hx120_4
    replace hx120_5 := (HB.out.cell (World.block_lt_of_cell? w _ hx120_5)).trans hx120_5
    replace p120 := eq_true p120
    replace q120 := eq_true q120
    go_wp2_with (first | ((with_reducible refine gate_dst (N := 5) rfl ?_); (try (refine gate_guard (by rfl) ?_; dsimp only)); refine qh1 ?hg (N := 5) ?hd (cs := #[.string (⟨#[]⟩ : ByteArray), .string (⟨#[]⟩ : ByteArray), .string (⟨#[]⟩ : ByteArray), .int .i64 0, .int .i64 0, .int .i64 0]) (t := 117) ?hr ?_; (case hd => rfl); (case hg => rfl); (case hr => first | (go_simp; done) | (go_simp; rfl)); intro gb121 hg w32 hbox hb; have n0_ := Aside0.mk (Kd.Z_below (by (with_reducible repeat (first | apply Kd.Z_alloc | apply Kd.Z_drewN | apply Kd.Z_drew)); exact HO_3.out) hb); have n1_ := Aside0.mk (qk0 (by repeat (first | (with_reducible first | exact HB.out | apply qc0 | apply qa0 | apply qb0) | exact HB.out)) hb); have n2_ := Aside0.mk (hbox); have n3_ := Aside0.mk ((by rw [hg]; exact (ql0 (by repeat (first | (with_reducible first | exact HB.out | apply qc0 | apply qa0 | apply qb0) | exact HB.out))) : w.heap.size ≤ gb121)); have n4_ := Aside0.mk ((by rw [hg]; exact (ql0 (by repeat (first | (with_reducible first | exact HB.out | apply qc0 | apply qa0 | apply qb0) | exact HB.out))) : w.heap.size ≤ gb121)); clear HO_3; clear HB; have HO_3 := n0_; have HB := n1_; have BK121 := n2_; have GW121 := n3_; have GE121 := n4_; clear n0_ n1_ n2_ n3_ n4_; clear hb hbox hg; have hcz33_0 : w32.cell? ⟨gb121, 0, none⟩ = some (.string (⟨#[]⟩ : ByteArray)) := (qe0 BK121.out 0).trans rfl; have hcz33_1 : w32.cell? ⟨gb121, 1, none⟩ = some (.string (⟨#[]⟩ : ByteArray)) := (qe0 BK121.out 1).trans rfl; have hcz33_2 : w32.cell? ⟨gb121, 2, none⟩ = some (.string (⟨#[]⟩ : ByteArray)) := (qe0 BK121.out 2).trans rfl; have hcz33_3 : w32.cell? ⟨gb121, 3, none⟩ = some (.int .i64 0) := (qe0 BK121.out 3).trans rfl; have hcz33_4 : w32.cell? ⟨gb121, 4, none⟩ = some (.int .i64 0) := (qe0 BK121.out 4).trans rfl; have hcz33_5 : w32.cell? ⟨gb121, 5, none⟩ = some (.int .i64 0) := (qe0 BK121.out 5).trans rfl; have hfz33_0 := qd0 BK121.out 0; have hfz33_1 := qd0 BK121.out 1; have hfz33_2 := qd0 BK121.out 2; have hfz33_3 := qd0 BK121.out 3; have hfz33_4 := qd0 BK121.out 4; have hfz33_5 := qd0 BK121.out 5) | ((with_reducible refine qo0 (f := 161) rfl ?_); refine qz0 (some 17) rfl rfl Try.func161 (by kernel_rfl) rfl #[.agg #[.string ((rd_T117 l0 x12_1).f0), .string ((rd_T117 l0 x12_1).f1), .string ((rd_T117 l0 x12_1).f2), .int .i64 ((rd_T117 l0 x12_1).f3), .int .i64 ((rd_T117 l0 x12_1).f4), .int .i64 ((rd_T117 l0 x12_1).f5)]] rfl (by (try simp only [List.map_toArray, List.map_cons, List.map_nil]); first | done | rfl | (simp only [List.length_drop, List.length_take]; rfl)) ?_; (with_reducible refine (impl_cellOk.calls k1 ((rd_T117 l0 x12_1).f0) ((rd_T117 l0 x12_1).f1) ((rd_T117 l0 x12_1).f2) ((rd_T117 l0 x12_1).f3) ((rd_T117 l0 x12_1).f4) ((rd_T117 l0 x12_1).f5) false _ A8.out).mono ?_); rintro e w34 ⟨rfl, hb⟩; refine ⟨_, rfl, ?_⟩; have n0_ := Aside0.mk (Kd.Z_below (by (with_reducible repeat (first | apply Kd.Z_alloc | apply Kd.Z_drewN | apply Kd.Z_drew)); exact (Kd.Z_mono (Kd.Z_far (p := ⟨gb121, 5, none⟩) (Kd.Z_far (p := ⟨gb121, 4, none⟩) (Kd.Z_far (p := ⟨gb121, 3, none⟩) (Kd.Z_far (p := ⟨gb121, 2, none⟩) (Kd.Z_far (p := ⟨gb121, 1, none⟩) (Kd.Z_far (p := ⟨gb121, 0, none⟩) (Kd.Z_types HO_3.out BK121.out (by decide)) (fun _ hk => hk.2) (.string ((rd_T117 l0 x12_1).f0))) (fun _ hk => hk.2) (.string ((rd_T117 l0 x12_1).f1))) (fun _ hk => hk.2) (.string ((rd_T117 l0 x12_1).f2))) (fun _ hk => hk.2) (.int .i64 ((rd_T117 l0 x12_1).f3))) (fun _ hk => hk.2) (.int .i64 ((rd_T117 l0 x12_1).f4))) (fun _ hk => hk.2) (.int .i64 ((rd_T117 l0 x12_1).f5))) (fun _ h_ => h_.1))) hb); have n1_ := Aside0.mk (ql1 (g := gb121) (o := .cells #[.string ((rd_T117 l0 x12_1).f0), .string ((rd_T117 l0 x12_1).f1), .string ((rd_T117 l0 x12_1).f2), .int .i64 ((rd_T117 l0 x12_1).f3), .int .i64 ((rd_T117 l0 x12_1).f4), .int .i64 ((rd_T117 l0 x12_1).f5)] 117 (0, 0)) (by (with_reducible repeat (first | refine qm0 ?_ _ | refine qp0 ?_ | refine qn0 ?_ _)); refine qx0 (cs := #[.string ((rd_T117 l0 x12_1).f0), .string ((rd_T117 l0 x12_1).f1), .string ((rd_T117 l0 x12_1).f2), .int .i64 ((rd_T117 l0 x12_1).f3), .int .i64 ((rd_T117 l0 x12_1).f4), .int .i64 0]) ?_ 5 _ rfl; (with_reducible repeat (first | refine qm0 ?_ _ | refine qp0 ?_ | refine qn0 ?_ _)); refine qx0 (cs := #[.string ((rd_T117 l0 x12_1).f0), .string ((rd_T117 l0 x12_1).f1), .string ((rd_T117 l0 x12_1).f2), .int .i64 ((rd_T117 l0 x12_1).f3), .int .i64 0, .int .i64 0]) ?_ 4 _ rfl; (with_reducible repeat (first | refine qm0 ?_ _ | refine qp0 ?_ | refine qn0 ?_ _)); refine qx0 (cs := #[.string ((rd_T117 l0 x12_1).f0), .string ((rd_T117 l0 x12_1).f1), .string ((rd_T117 l0 x12_1).f2), .int .i64 0, .int .i64 0, .int .i64 0]) ?_ 3 _ rfl; (with_reducible repeat (first | refine qm0 ?_ _ | refine qp0 ?_ | refine qn0 ?_ _)); refine qx0 (cs := #[.string ((rd_T117 l0 x12_1).f0), .string ((rd_T117 l0 x12_1).f1), .string (⟨#[]⟩ : ByteArray), .int .i64 0, .int .i64 0, .int .i64 0]) ?_ 2 _ rfl; (with_reducible repeat (first | refine qm0 ?_ _ | refine qp0 ?_ | refine qn0 ?_ _)); refine qx0 (cs := #[.string ((rd_T117 l0 x12_1).f0), .string (⟨#[]⟩ : ByteArray), .string (⟨#[]⟩ : ByteArray), .int .i64 0, .int .i64 0, .int .i64 0]) ?_ 1 _ rfl; (with_reducible repeat (first | refine qm0 ?_ _ | refine qp0 ?_ | refine qn0 ?_ _)); refine qx0 (cs := #[.string (⟨#[]⟩ : ByteArray), .string (⟨#[]⟩ : ByteArray), .string (⟨#[]⟩ : ByteArray), .int .i64 0, .int .i64 0, .int .i64 0]) ?_ 0 _ rfl; (with_reducible repeat (first | refine qm0 ?_ _ | refine qp0 ?_ | refine qn0 ?_ _)); exact BK121.out) hb); have n2_ := Aside0.mk (qk0 (by repeat (first | (with_reducible first | exact HB.out | apply qc0 | apply qa0 | apply qb0 | refine qg0 ?_ GE121.out) | exact HB.out)) hb); clear HO_3; clear BK121; clear HB; have HO_3 := n0_; have BK121 := n1_; have HB := n2_; clear n0_ n1_ n2_; (try clear hb); (try clear hb2); (try clear hk); (try clear hi)))
    go_ret
    exact ⟨by first | rfl | (simp [errW_none, errW_some] <;> rfl) | (simp [*, errW_none, errW_some] <;> rfl), by repeat (first | (with_reducible first | exact HB.out | apply qc0 | apply qa0 | apply qb0 | refine qg0 ?_ GE121.out) | exact HB.out)⟩
   rw [if_neg c5] at H
   have c5b0 : decide (x12_1 < (l0.length : Int)) = false := decide_eq_false c5
   clear c5
   obtain rfl := Option.some.inj H
   go_wp2
   go_ret
   exact ⟨by first | rfl | (simp [errW_none, errW_some] <;> rfl) | (simp [*, errW_none, errW_some] <;> rfl), by repeat (first | (with_reducible first | exact HB.out | apply qc0 | apply qa0 | apply qb0) | exact HB.out)⟩

/-! ### impl_copyStock: function 155 -/
def impl_copyStock.f (l0 : List (S117)) : Option ((List (S117))) := (some (([] : List (S117)) : List (S117))).bind fun y130 => (if y130.length + l0.length < 1954687338268 then (some (y130 ++ l0)) else (none))
set_option maxHeartbeats 8000000 in
set_option maxRecDepth 100000 in
theorem impl_copyStock.calls (A0 : Option Addr) (c0 : Nat) (l0 : List (S117)) (r : List (S117)) (w : World) (hr0 : Kd.C k117 w A0 l0.length l0) (hc0 : l0.length ≤ c0) (h : impl_copyStock.f l0 = some r) :
  Calls Try.prog 155 #[.slice A0 l0.length c0] w fun e w' => ∃ v0_ : Value, e = .returned (v0_) ∧ Kd.R k117 117 w' w.heap.size (fun _ => True) v0_ r ∧ Below w.heap.size w w' := by
 have HR0 := Aside0.mk hr0
 have HC0 := Aside0.mk hc0
 clear hr0 hc0
 have HB := Aside0.mk (Below.refl w.heap.size w)
 have H : ((some (([] : List (S117)) : List (S117))).bind fun y130 => (if y130.length + l0.length < 1954687338268 then (some (y130 ++ l0)) else (none))) = some r := h
 clear h
 obtain ⟨y130, hy130⟩ : ∃ y_ : List (S117), y_ = (([] : List (S117))) := ⟨_, rfl⟩
 replace H : (if y130.length + l0.length < 1954687338268 then (some (y130 ++ l0)) else (none)) = some r := by first | (rw [hy130]; with_reducible exact H) | (have H2_ := (Option.bind_some _ _).symm.trans H; rw [hy130]; with_reducible exact H2_) | (have H2_ := (Option.bind_some _ _).symm.trans H; with_reducible exact H2_) | with_reducible exact H | (rw [hy130]; exact H) | exact H
 have Ny130 := Aside0.mk hy130
 clear hy130
 by_cases c2 : y130.length + l0.length < 1954687338268
 case neg => rw [if_neg c2] at H; exact absurd H (by simp)
 rw [if_pos c2] at H
 have LMc2 := Aside0.mk c2
 clear c2
 obtain ⟨y133, hy133⟩ : ∃ y_ : List (S117), y_ = (y130 ++ l0) := ⟨_, rfl⟩
 replace H : (some y133) = some r := by first | (rw [hy133]; with_reducible exact H) | (have H2_ := (Option.bind_some _ _).symm.trans H; rw [hy133]; with_reducible exact H2_) | (have H2_ := (Option.bind_some _ _).symm.trans H; with_reducible exact H2_) | with_reducible exact H | (rw [hy133]; exact H) | exact H
 have Ny133 := Aside0.mk hy133
 clear hy133
 obtain rfl := Option.some.inj H
 go_enter Try.func155, Try.ntmps155
 go_wp2_with (first | ((with_reducible refine gate_dst (N := 3) rfl ?_); refine Kd.R_lit k117 _ 117 ?hg (N := 3) ?hd (xs := ([] : List (S117))) (inner := []) (ok := fun _ => True) (okp := fun _ => True) ?hr ?hp (fun _ hk => hk) trivial (Below.refl _ _) (Nat.le_refl _) (by simp) ?_; (case hd => rfl); (case hg => rfl); (case hr => first | (go_simp; done) | (go_simp; rfl)); (case hp => exact (Reps.none _ _)); intro v131 w3 ho4 hb hg_ hnew_; clear hg_ hnew_; (first | rw [← Ny130.out] at ho4 | (simp only [Int.reduceToNat] at ho4; rw [← Ny130.out] at ho4)); have n0_ := Aside0.mk (Kd.qb1 ho4 (ql0 (by repeat (first | (with_reducible first | exact HB.out | apply qc0 | apply qa0 | apply qb0) | exact HB.out)))); have n1_ := Aside0.mk (qk0 (by repeat (first | (with_reducible first | exact HB.out | apply qc0 | apply qa0 | apply qb0) | exact HB.out)) hb); clear HB; have HO132 := n0_; have HB := n1_; clear n0_ n1_; clear hb ho4) | ((with_reducible refine gate_builtin (b := .append) (xs := #[.tmp 3, .tmp 4]) rfl ?_); at_builtin; refine Kd.R_append_rows k117 (w0 := w) w.heap.size rfl (.tmp 3) (.tmp 4) 72 117 (.agg #[(.string ⟨#[]⟩), (.string ⟨#[]⟩), (.string ⟨#[]⟩), (.int .i64 0), (.int .i64 0), (.int .i64 0)]) 72 rfl Try.underlying72 info117 rfl (by decide) (by omega) v131 y130 l0 _ _ _ (fun _ => True) (fun _ => False) rfl rfl ?aO ?aR (fun _ _ h => h) (fun _ h => h.elim) ?aF ?aB ?aS ?aL ?_; (case aR => repeat (first | exact (Kd.qp1 HR0.out HB.out) | (with_reducible refine Kd.qu0 ?_ _) | (with_reducible refine Kd.qt0 ?_ _) | (with_reducible refine Kd.qy0 ?_))); (case aB => exact (by repeat (first | (with_reducible first | exact HB.out | apply qc0 | apply qa0 | apply qb0) | exact HB.out))); (case aF => exact (fun _ _ => trivial)); (case aO => exact (by (with_reducible repeat (first | apply Kd.qi0 | apply Kd.qh0 | apply Kd.qj0)); exact HO132.out)); (case aS => exact (ql0 (by repeat (first | (with_reducible first | exact HB.out | apply qc0 | apply qa0 | apply qb0) | exact HB.out)))); (case aL => have := LMc2.out; omega); intro v134 w5 ho hb hg hat; rw [← Ny133.out] at ho; have n0_ := Aside0.mk (hb); have n1_ := Aside0.mk (ho); clear HB; clear HO132; have HB := n0_; have HO135 := n1_; clear n0_ n1_; clear ho hb hg hat))
 go_ret
 exact ⟨_, by first | rfl | (simp [errW_none, errW_some] <;> rfl) | (simp [*, errW_none, errW_some] <;> rfl), by (with_reducible repeat (first | apply Kd.qi0 | apply Kd.qh0 | apply Kd.qj0)); exact HO135.out, by repeat (first | (with_reducible first | exact HB.out | apply qc0 | apply qa0 | apply qb0) | exact HB.out)⟩

end Go.Proofs.Ytinibkdbfpafcaa.PFnMoved
