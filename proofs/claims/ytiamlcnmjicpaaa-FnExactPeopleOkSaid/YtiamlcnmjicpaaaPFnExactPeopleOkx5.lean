/- Lines by a program (a changed copy of the kit's print: this repo's wip/tools): Go functions as Lean functions, and proofs that the calls answer so. -/
import Derived.Test.YtiamlcnmjicpaaaPFnExactPeopleOkx0
import Derived.Test.YtiamlcnmjicpaaaPFnExactPeopleOkx4
namespace Go.Proofs.Ytiamlcnmjicpaaa.PFnExactPeopleOk
open Go.RowKit Go.Proofs.YtiamlcnmjicpaaaW.PrintWords Go.Proofs.YtiamlcnmjicpaaaW.PrintLast Go.Proofs.YtiamlcnmjicpaaaW.PrintMore
attribute [local go_sem] max2_int min2_int max_two min_two max_three min_three max_four min_four   -- for this text's walks alone
set_option linter.unusedVariables false
set_option linter.unusedSimpArgs false

/-! ### impl_PeopleOk: function 16 -/
mutual
def impl_PeopleOk.l0 : Nat → List (S106) → List (ByteArray × Bool) → List (S106) → Int → Int → Option (Bool)
  | 0, _, _, _, _, _ => none
  | k + 1, x0, x3, x14, x15, x16 => if x16 < x15 then (if 0 ≤ x16 then (if x16 < (x14.length : Int) then ((impl_NameOk.f k ((rd_T106 x14 x16).f0)).bind fun t147 => (if t147 = true then (if ((rd_T106 x14 x16).f0).size ≤ 9223372036854775807 then (if (mget x3 ((rd_T106 x14 x16).f0)).getD false = true then (impl_PeopleOk.j1 k x0 x3 x14 x15 x16 true ((rd_T106 x14 x16).f0) ((rd_T106 x14 x16).f1) ((rd_T106 x14 x16).f2) ((rd_T106 x14 x16).f3) ((rd_T106 x14 x16).f4)) else (if (((rd_T106 x14 x16).f1).length : Int) > 8 then (impl_PeopleOk.j1 k x0 x3 x14 x15 x16 true ((rd_T106 x14 x16).f0) ((rd_T106 x14 x16).f1) ((rd_T106 x14 x16).f2) ((rd_T106 x14 x16).f3) ((rd_T106 x14 x16).f4)) else ((impl_money.f ((rd_T106 x14 x16).f2)).bind fun t148 => (impl_PeopleOk.j1 k x0 x3 x14 x15 x16 (!t148) ((rd_T106 x14 x16).f0) ((rd_T106 x14 x16).f1) ((rd_T106 x14 x16).f2) ((rd_T106 x14 x16).f3) ((rd_T106 x14 x16).f4))))) else (none)) else (impl_PeopleOk.j1 k x0 x3 x14 x15 x16 true ((rd_T106 x14 x16).f0) ((rd_T106 x14 x16).f1) ((rd_T106 x14 x16).f2) ((rd_T106 x14 x16).f3) ((rd_T106 x14 x16).f4)))) else (none)) else (none)) else (impl_PeopleOk.l2 k x3 x0 (x0.length : Int) 0)
def impl_PeopleOk.j1 : Nat → List (S106) → List (ByteArray × Bool) → List (S106) → Int → Int → Bool → ByteArray → List ByteArray → Int → ByteArray → Bool → Option (Bool)
  | 0, _, _, _, _, _, _, _, _, _, _, _ => none
  | k + 1, x0, x3, x14, x15, x16, x41, x147000, x147001, x147002, x147003, x147004 => if x41 = true then (some false) else (impl_PeopleOk.l1 k x0 x3 x14 x15 x16 x147001 (x147001.length : Int) 0 x147000 x147001 x147002 x147003 x147004)
def impl_PeopleOk.l1 : Nat → List (S106) → List (ByteArray × Bool) → List (S106) → Int → Int → List ByteArray → Int → Int → ByteArray → List ByteArray → Int → ByteArray → Bool → Option (Bool)
  | 0, _, _, _, _, _, _, _, _, _, _, _, _, _ => none
  | k + 1, x0, x3, x14, x15, x16, x43, x44, x45, x147000, x147001, x147002, x147003, x147004 => if x45 < x44 then (if 0 ≤ x45 then (if x45 < (x43.length : Int) then ((impl_NameOk.f k (rdOf ByteArray.empty x43 x45)).bind fun t150 => (if t150 = true then (impl_PeopleOk.l1 k x0 x3 x14 x15 x16 x43 x44 (wrap64 (x45 + 1)) x147000 x147001 x147002 x147003 x147004) else (some false))) else (none)) else (none)) else (if x147000.size ≤ 9223372036854775807 then (impl_PeopleOk.l0 k x0 (mset x3 x147000 true) x14 x15 (wrap64 (x16 + 1))) else (none))
def impl_PeopleOk.l2 : Nat → List (ByteArray × Bool) → List (S106) → Int → Int → Option (Bool)
  | 0, _, _, _, _ => none
  | k + 1, x3, x57, x58, x59 => if x59 < x58 then (if 0 ≤ x59 then (if x59 < (x57.length : Int) then (if ((rd_T106 x57 x59).f3).toList = ([] : List UInt8) then (impl_PeopleOk.l2 k x3 x57 x58 (wrap64 (x59 + 1))) else (if ((rd_T106 x57 x59).f3).toList = ((rd_T106 x57 x59).f0).toList then (some false) else (if ((rd_T106 x57 x59).f3).size ≤ 9223372036854775807 then (if ((mget x3 ((rd_T106 x57 x59).f3)).getD false = true) then (impl_PeopleOk.l2 k x3 x57 x58 (wrap64 (x59 + 1))) else (some false)) else (none)))) else (none)) else (none)) else (some true)
end
def impl_PeopleOk.f (k : Nat) (l0 : List (S106)) : Option (Bool) := if (l0.length : Int) > 40 then (some false) else (impl_PeopleOk.l0 k l0 (([] : List (ByteArray × Bool))) l0 (l0.length : Int) 0)
theorem impl_PeopleOk.mono_l : ∀ k, (∀ y0 y1 y2 y3 y4, LeO (impl_PeopleOk.l0 k y0 y1 y2 y3 y4) (impl_PeopleOk.l0 (k + 1) y0 y1 y2 y3 y4)) ∧ (∀ y0 y1 y2 y3 y4 y5 y6 y7 y8 y9 y10, LeO (impl_PeopleOk.j1 k y0 y1 y2 y3 y4 y5 y6 y7 y8 y9 y10) (impl_PeopleOk.j1 (k + 1) y0 y1 y2 y3 y4 y5 y6 y7 y8 y9 y10)) ∧ (∀ y0 y1 y2 y3 y4 y5 y6 y7 y8 y9 y10 y11 y12, LeO (impl_PeopleOk.l1 k y0 y1 y2 y3 y4 y5 y6 y7 y8 y9 y10 y11 y12) (impl_PeopleOk.l1 (k + 1) y0 y1 y2 y3 y4 y5 y6 y7 y8 y9 y10 y11 y12)) ∧ (∀ y0 y1 y2 y3, LeO (impl_PeopleOk.l2 k y0 y1 y2 y3) (impl_PeopleOk.l2 (k + 1) y0 y1 y2 y3))
  | 0 => ⟨fun _ _ _ _ _ r h => by simp [impl_PeopleOk.l0] at h, fun _ _ _ _ _ _ _ _ _ _ _ r h => by simp [impl_PeopleOk.j1] at h, fun _ _ _ _ _ _ _ _ _ _ _ _ _ r h => by simp [impl_PeopleOk.l1] at h, fun _ _ _ _ r h => by simp [impl_PeopleOk.l2] at h⟩
  | k + 1 => by
    obtain ⟨ih0, ih1, ih2, ih3⟩ := impl_PeopleOk.mono_l k
    refine ⟨?_, ?_, ?_, ?_⟩
    · intro y0 y1 y2 y3 y4
      unfold impl_PeopleOk.l0
      repeat' first
      | (with_reducible exact ih0 _ _ _ _ _)
      | (with_reducible exact ih1 _ _ _ _ _ _ _ _ _ _ _)
      | (with_reducible exact ih2 _ _ _ _ _ _ _ _ _ _ _ _ _)
      | (with_reducible exact ih3 _ _ _ _)
      | (with_reducible exact impl_NameOk.mono _ _)
      | (with_reducible exact LeO.refl _)
      | (with_reducible exact LeO.none _)
      | (with_reducible refine LeO.ite ?_ ?_)
      | (with_reducible refine LeO.bind ?_ (fun _ => ?_))
      | exact ih0 _ _ _ _ _
      | exact ih1 _ _ _ _ _ _ _ _ _ _ _
      | exact ih2 _ _ _ _ _ _ _ _ _ _ _ _ _
      | exact ih3 _ _ _ _
      | exact impl_NameOk.mono _ _
      | exact LeO.none _
      | refine LeO.ite ?_ ?_
      | refine LeO.bind ?_ (fun _ => ?_)
    · intro y0 y1 y2 y3 y4 y5 y6 y7 y8 y9 y10
      unfold impl_PeopleOk.j1
      repeat' first
      | (with_reducible exact ih0 _ _ _ _ _)
      | (with_reducible exact ih1 _ _ _ _ _ _ _ _ _ _ _)
      | (with_reducible exact ih2 _ _ _ _ _ _ _ _ _ _ _ _ _)
      | (with_reducible exact ih3 _ _ _ _)
      | (with_reducible exact impl_NameOk.mono _ _)
      | (with_reducible exact LeO.refl _)
      | (with_reducible exact LeO.none _)
      | (with_reducible refine LeO.ite ?_ ?_)
      | (with_reducible refine LeO.bind ?_ (fun _ => ?_))
      | exact ih0 _ _ _ _ _
      | exact ih1 _ _ _ _ _ _ _ _ _ _ _
      | exact ih2 _ _ _ _ _ _ _ _ _ _ _ _ _
      | exact ih3 _ _ _ _
      | exact impl_NameOk.mono _ _
      | exact LeO.none _
      | refine LeO.ite ?_ ?_
      | refine LeO.bind ?_ (fun _ => ?_)
    · intro y0 y1 y2 y3 y4 y5 y6 y7 y8 y9 y10 y11 y12
      unfold impl_PeopleOk.l1
      repeat' first
      | (with_reducible exact ih0 _ _ _ _ _)
      | (with_reducible exact ih1 _ _ _ _ _ _ _ _ _ _ _)
      | (with_reducible exact ih2 _ _ _ _ _ _ _ _ _ _ _ _ _)
      | (with_reducible exact ih3 _ _ _ _)
      | (with_reducible exact impl_NameOk.mono _ _)
      | (with_reducible exact LeO.refl _)
      | (with_reducible exact LeO.none _)
      | (with_reducible refine LeO.ite ?_ ?_)
      | (with_reducible refine LeO.bind ?_ (fun _ => ?_))
      | exact ih0 _ _ _ _ _
      | exact ih1 _ _ _ _ _ _ _ _ _ _ _
      | exact ih2 _ _ _ _ _ _ _ _ _ _ _ _ _
      | exact ih3 _ _ _ _
      | exact impl_NameOk.mono _ _
      | exact LeO.none _
      | refine LeO.ite ?_ ?_
      | refine LeO.bind ?_ (fun _ => ?_)
    · intro y0 y1 y2 y3
      unfold impl_PeopleOk.l2
      repeat' first
      | (with_reducible exact ih0 _ _ _ _ _)
      | (with_reducible exact ih1 _ _ _ _ _ _ _ _ _ _ _)
      | (with_reducible exact ih2 _ _ _ _ _ _ _ _ _ _ _ _ _)
      | (with_reducible exact ih3 _ _ _ _)
      | (with_reducible exact impl_NameOk.mono _ _)
      | (with_reducible exact LeO.refl _)
      | (with_reducible exact LeO.none _)
      | (with_reducible refine LeO.ite ?_ ?_)
      | (with_reducible refine LeO.bind ?_ (fun _ => ?_))
      | exact ih0 _ _ _ _ _
      | exact ih1 _ _ _ _ _ _ _ _ _ _ _
      | exact ih2 _ _ _ _ _ _ _ _ _ _ _ _ _
      | exact ih3 _ _ _ _
      | exact impl_NameOk.mono _ _
      | exact LeO.none _
      | refine LeO.ite ?_ ?_
      | refine LeO.bind ?_ (fun _ => ?_)
theorem impl_PeopleOk.mono : ∀ a0 k, LeO (impl_PeopleOk.f k a0) (impl_PeopleOk.f (k + 1) a0) := by
  intro a0 k
  obtain ⟨ih0, ih1, ih2, ih3⟩ := impl_PeopleOk.mono_l k
  unfold impl_PeopleOk.f
  repeat' first
      | (with_reducible exact ih0 _ _ _ _ _)
      | (with_reducible exact ih1 _ _ _ _ _ _ _ _ _ _ _)
      | (with_reducible exact ih2 _ _ _ _ _ _ _ _ _ _ _ _ _)
      | (with_reducible exact ih3 _ _ _ _)
      | (with_reducible exact impl_NameOk.mono _ _)
      | (with_reducible exact LeO.refl _)
      | (with_reducible exact LeO.none _)
      | (with_reducible refine LeO.ite ?_ ?_)
      | (with_reducible refine LeO.bind ?_ (fun _ => ?_))
      | exact ih0 _ _ _ _ _
      | exact ih1 _ _ _ _ _ _ _ _ _ _ _
      | exact ih2 _ _ _ _ _ _ _ _ _ _ _ _ _
      | exact ih3 _ _ _ _
      | exact impl_NameOk.mono _ _
      | exact LeO.none _
      | refine LeO.ite ?_ ?_
      | refine LeO.bind ?_ (fun _ => ?_)
set_option maxHeartbeats 8000000 in
set_option maxRecDepth 100000 in
theorem impl_PeopleOk.calls (k : Nat) (A0 : Option Addr) (c0 : Nat) (l0 : List (S106)) (r : Bool) (w : World) (hr0 : Kd.C k106 w A0 l0.length l0) (hc0 : l0.length ≤ c0) (h : impl_PeopleOk.f k l0 = some r) :
    Calls Try.prog 16 #[.slice A0 l0.length c0] w fun e w' => e = .returned (.bool r) ∧ Below w.heap.size w w' := by
  have hu106 := Try.underlying106
  have HR0 := Aside0.mk hr0
  have HC0 := Aside0.mk hc0
  clear hr0 hc0
  have HB := Aside0.mk (Below.refl w.heap.size w)
  have H : (if (l0.length : Int) > 40 then (some false) else (impl_PeopleOk.l0 k l0 (([] : List (ByteArray × Bool))) l0 (l0.length : Int) 0)) = some r := h
  clear h
  by_cases c2 : (l0.length : Int) > 40
  · rw [if_pos c2] at H
    have c2b0 : decide (40 < (l0.length : Int)) = true := decide_eq_true c2
    have c2b1 : decide (40 < l0.length) = true := decide_eq_true (by omega)
    clear c2
    obtain rfl := Option.some.inj H
    go_enter Try.func16, Try.ntmps16
    go_wp2
    go_ret
    exact ⟨by first | rfl | (simp [errW_none, errW_some] <;> rfl) | (simp [*, errW_none, errW_some] <;> rfl), by repeat (first | (with_reducible first | exact HB.out | apply below_alloc | apply pw_below_drewN | apply below_drew1) | exact HB.out)⟩
  · rw [if_neg c2] at H
    have c2b0 : decide (40 < (l0.length : Int)) = false := decide_eq_false c2
    have c2b1 : decide (40 < l0.length) = false := decide_eq_false (by omega)
    clear c2
    obtain ⟨y141, hy141⟩ : ∃ y_ : List (ByteArray × Bool), y_ = (([] : List (ByteArray × Bool))) := ⟨_, rfl⟩
    replace H : (impl_PeopleOk.l0 k l0 y141 l0 (l0.length : Int) 0) = some r := by first | (rw [hy141]; with_reducible exact H) | (have H2_ := (Option.bind_some _ _).symm.trans H; rw [hy141]; with_reducible exact H2_) | (have H2_ := (Option.bind_some _ _).symm.trans H; with_reducible exact H2_) | with_reducible exact H | (rw [hy141]; exact H) | exact H
    have Ny141 := Aside0.mk hy141
    clear hy141
    have H' := Aside0.mk H
    clear H
    go_enter Try.func16, Try.ntmps16
    go_wp2_with (first | ((with_reducible refine gate_dst (N := 13) rfl ?_); (try (refine gate_guard (by rfl) ?_; dsimp only)); refine Kd.Z_make_op kz111 111 (ok := fun _ => True) rfl (N := 13) rfl rfl trivial ?_; intro mb144 hq_ w3 ho4 hb; rw [← Ny141.out] at ho4; have n0_ := Aside0.mk (below_step (by repeat (first | (with_reducible first | exact HB.out | apply below_alloc | apply pw_below_drewN | apply below_drew1) | exact HB.out)) hb); have n1_ := Aside0.mk (Kd.Z_lower ho4 (below_size (by repeat (first | (with_reducible first | exact HB.out | apply below_alloc | apply pw_below_drewN | apply below_drew1) | exact HB.out)))); clear HB; have HB := n0_; have HO143 := n1_; clear n0_ n1_; clear hb ho4 hq_))
    go_loopg [16] k (fun kq v16 w' => ∃ (x3_1 : List (ByteArray × Bool)) (x16_1 : Int), v16 = .int .i64 x16_1 ∧ Aside0 (impl_PeopleOk.l0 kq l0 x3_1 l0 (l0.length : Int) x16_1 = some r) ∧ Aside0 (kq ≤ k) ∧ Aside0 (Kd.Z kz111 111 w' w.heap.size (fun _ => True) (.map (some mb144)) x3_1) ∧ Aside0 (Below w.heap.size w w'))
    case atStart => exact ⟨(y141), (0), (by first | rfl | (simp; done) | (simp [*]; done)), H', ⟨Nat.le_refl _⟩, ⟨by (with_reducible repeat (first | apply Kd.Z_alloc | apply Kd.Z_drewN | apply Kd.Z_drew)); exact HO143.out⟩, ⟨by repeat (first | (with_reducible first | exact HB.out | apply below_alloc | apply pw_below_drewN | apply below_drew1) | exact HB.out)⟩⟩
    case round =>
      clear H'
      try clear c1
      try clear c2
      try clear c2b0
      try clear c2b1
      try clear p2
      obtain ⟨x3_1, x16_1, rfl, HA, HK1, HO_3, HB⟩ := hrel
      cases gk with
      | zero => exact absurd HA.out (by simp [impl_PeopleOk.l0])
      | succ k1 =>
        have H := HA.out
        clear HA
        simp only [impl_PeopleOk.l0] at H
        by_cases c5 : x16_1 < (l0.length : Int)
        · rw [if_pos c5] at H
          have c5b0 : decide (x16_1 < (l0.length : Int)) = true := decide_eq_true c5
          clear c5
          by_cases c6 : 0 ≤ x16_1
          · rw [if_pos c6] at H
            have c6b0 : decide (0 ≤ x16_1) = true := decide_eq_true c6
            clear c6
            by_cases c7 : x16_1 < (l0.length : Int)
            · rw [if_pos c7] at H
              have c7b0 : decide (x16_1 < (l0.length : Int)) = true := decide_eq_true c7
              clear c7
              have HC8 := Aside0.mk H
              clear H
              have p145 : 0 ≤ (x16_1 : Int) := of_decide_eq_true (by first | (with_reducible assumption) | assumption)
              have q145 : x16_1 < (l0.length : Int) := of_decide_eq_true (by first | (with_reducible assumption) | assumption)
              obtain ⟨ad145, A145_1, c145_1, e145, hx145_0, hx145_1, hx145_2, hx145_3, hx145_4, hl145_1, hi145_1⟩ := at_T106 HR0.out x16_1 p145 q145
              cases e145
              replace hx145_0 := (HB.out.cell (World.block_lt_of_cell? w _ hx145_0)).trans hx145_0
              replace hx145_1 := (HB.out.cell (World.block_lt_of_cell? w _ hx145_1)).trans hx145_1
              replace hx145_2 := (HB.out.cell (World.block_lt_of_cell? w _ hx145_2)).trans hx145_2
              replace hx145_3 := (HB.out.cell (World.block_lt_of_cell? w _ hx145_3)).trans hx145_3
              replace hx145_4 := (HB.out.cell (World.block_lt_of_cell? w _ hx145_4)).trans hx145_4
              have HR145_1 := Aside0.mk hi145_1
              have HC145_1 := Aside0.mk hl145_1
              clear hi145_1 hl145_1
              replace p145 := eq_true p145
              replace q145 := eq_true q145
              go_upto_region 7 with (first | ((with_reducible refine gate_dst (N := 5) rfl ?_); (try (refine gate_guard (by rfl) ?_; dsimp only)); refine box_event ?hg (N := 5) ?hd (cs := #[.string (⟨#[]⟩ : ByteArray), .slice none 0 0, .int .i64 0, .string (⟨#[]⟩ : ByteArray), .bool false]) (t := 106) ?hr ?_; (case hd => rfl); (case hg => rfl); (case hr => first | (go_simp; done) | (go_simp; rfl)); intro gb146 hg w9 hbox hb; have n0_ := Aside0.mk (Kd.Z_below (by (with_reducible repeat (first | apply Kd.Z_alloc | apply Kd.Z_drewN | apply Kd.Z_drew)); exact HO_3.out) hb); have n1_ := Aside0.mk (below_step (by repeat (first | (with_reducible first | exact HB.out | apply below_alloc | apply pw_below_drewN | apply below_drew1) | exact HB.out)) hb); have n2_ := Aside0.mk (hbox); have n3_ := Aside0.mk ((by rw [hg]; exact (below_size (by repeat (first | (with_reducible first | exact HB.out | apply below_alloc | apply pw_below_drewN | apply below_drew1) | exact HB.out))) : w.heap.size ≤ gb146)); have n4_ := Aside0.mk ((by rw [hg]; exact (below_size (by repeat (first | (with_reducible first | exact HB.out | apply below_alloc | apply pw_below_drewN | apply below_drew1) | exact HB.out))) : w.heap.size ≤ gb146)); clear HO_3; clear HB; have HO_3 := n0_; have HB := n1_; have BK146 := n2_; have GW146 := n3_; have GE146 := n4_; clear n0_ n1_ n2_ n3_ n4_; clear hb hbox hg; have hcz10_0 : w9.cell? ⟨gb146, 0, none⟩ = some (.string (⟨#[]⟩ : ByteArray)) := (blk_cell BK146.out 0).trans rfl; have hcz10_1 : w9.cell? ⟨gb146, 1, none⟩ = some (.slice none 0 0) := (blk_cell BK146.out 1).trans rfl; have hcz10_2 : w9.cell? ⟨gb146, 2, none⟩ = some (.int .i64 0) := (blk_cell BK146.out 2).trans rfl; have hcz10_3 : w9.cell? ⟨gb146, 3, none⟩ = some (.string (⟨#[]⟩ : ByteArray)) := (blk_cell BK146.out 3).trans rfl; have hcz10_4 : w9.cell? ⟨gb146, 4, none⟩ = some (.bool false) := (blk_cell BK146.out 4).trans rfl; have hfz10_0 := blk_frozen BK146.out 0; have hfz10_1 := blk_frozen BK146.out 1; have hfz10_2 := blk_frozen BK146.out 2; have hfz10_3 := blk_frozen BK146.out 3; have hfz10_4 := blk_frozen BK146.out 4))
              (try simp only [Act.put, List.setIfInBounds_toArray, List.set_cons_zero, List.set_cons_succ])
              go_cut [41] (fun v41 wc => ∃ (kq : Nat) (x41_7 : Bool), v41 = .bool x41_7 ∧ Aside0 (impl_PeopleOk.j1 kq l0 x3_1 l0 (l0.length : Int) x16_1 x41_7 ((rd_T106 l0 x16_1).f0) ((rd_T106 l0 x16_1).f1) ((rd_T106 l0 x16_1).f2) ((rd_T106 l0 x16_1).f3) ((rd_T106 l0 x16_1).f4) = some r) ∧ Aside0 (kq ≤ k1) ∧ Aside0 (Kd.Z kz111 111 wc w.heap.size (fun _ => True) (.map (some mb144)) x3_1) ∧ Aside0 (wc.heap[gb146]? = some (.cells #[.string ((rd_T106 l0 x16_1).f0), (.slice A145_1 ((rd_T106 l0 x16_1).f1).length c145_1), .int .i64 ((rd_T106 l0 x16_1).f2), .string ((rd_T106 l0 x16_1).f3), .bool ((rd_T106 l0 x16_1).f4)] 106 (0, 0))) ∧ Aside0 (Below w.heap.size w wc))
              case first =>
                have H := HC8.out
                clear HC8
                replace H := Option.bind_eq_some_iff.mp H
                obtain ⟨t147, A110, H⟩ := H
                replace H : (if t147 = true then (if ((rd_T106 l0 x16_1).f0).size ≤ 9223372036854775807 then (if (mget x3_1 ((rd_T106 l0 x16_1).f0)).getD false = true then (impl_PeopleOk.j1 k1 l0 x3_1 l0 (l0.length : Int) x16_1 true ((rd_T106 l0 x16_1).f0) ((rd_T106 l0 x16_1).f1) ((rd_T106 l0 x16_1).f2) ((rd_T106 l0 x16_1).f3) ((rd_T106 l0 x16_1).f4)) else (if (((rd_T106 l0 x16_1).f1).length : Int) > 8 then (impl_PeopleOk.j1 k1 l0 x3_1 l0 (l0.length : Int) x16_1 true ((rd_T106 l0 x16_1).f0) ((rd_T106 l0 x16_1).f1) ((rd_T106 l0 x16_1).f2) ((rd_T106 l0 x16_1).f3) ((rd_T106 l0 x16_1).f4)) else ((impl_money.f ((rd_T106 l0 x16_1).f2)).bind fun t148 => (impl_PeopleOk.j1 k1 l0 x3_1 l0 (l0.length : Int) x16_1 (!t148) ((rd_T106 l0 x16_1).f0) ((rd_T106 l0 x16_1).f1) ((rd_T106 l0 x16_1).f2) ((rd_T106 l0 x16_1).f3) ((rd_T106 l0 x16_1).f4))))) else (none)) else (impl_PeopleOk.j1 k1 l0 x3_1 l0 (l0.length : Int) x16_1 true ((rd_T106 l0 x16_1).f0) ((rd_T106 l0 x16_1).f1) ((rd_T106 l0 x16_1).f2) ((rd_T106 l0 x16_1).f3) ((rd_T106 l0 x16_1).f4))) = some r := H
                have A11 := Aside0.mk A110
                clear A110
                by_cases c12 : t147 = true
                · subst c12
                  have H1 : (if ((rd_T106 l0 x16_1).f0).size ≤ 9223372036854775807 then (if (mget x3_1 ((rd_T106 l0 x16_1).f0)).getD false = true then (impl_PeopleOk.j1 k1 l0 x3_1 l0 (l0.length : Int) x16_1 true ((rd_T106 l0 x16_1).f0) ((rd_T106 l0 x16_1).f1) ((rd_T106 l0 x16_1).f2) ((rd_T106 l0 x16_1).f3) ((rd_T106 l0 x16_1).f4)) else (if (((rd_T106 l0 x16_1).f1).length : Int) > 8 then (impl_PeopleOk.j1 k1 l0 x3_1 l0 (l0.length : Int) x16_1 true ((rd_T106 l0 x16_1).f0) ((rd_T106 l0 x16_1).f1) ((rd_T106 l0 x16_1).f2) ((rd_T106 l0 x16_1).f3) ((rd_T106 l0 x16_1).f4)) else ((impl_money.f ((rd_T106 l0 x16_1).f2)).bind fun t148 => (impl_PeopleOk.j1 k1 l0 x3_1 l0 (l0.length : Int) x16_1 (!t148) ((rd_T106 l0 x16_1).f0) ((rd_T106 l0 x16_1).f1) ((rd_T106 l0 x16_1).f2) ((rd_T106 l0 x16_1).f3) ((rd_T106 l0 x16_1).f4))))) else (none)) = some r := by rw [if_pos rfl] at H; exact H
                  clear H
                  have H := H1
                  clear H1
                  by_cases c13 : ((rd_T106 l0 x16_1).f0).size ≤ 9223372036854775807
                  · rw [if_pos c13] at H
                    have LMc13 := Aside0.mk c13
                    clear c13
                    by_cases c14 : (mget x3_1 ((rd_T106 l0 x16_1).f0)).getD false = true
                    · rw [if_pos c14] at H
                      have c14b0 : (mget x3_1 ((rd_T106 l0 x16_1).f0)).getD false = true := c14
                      clear c14
                      (first | rw [c14b0] | (simp only [i64_w, i32_w]; rw [c14b0]) | skip)
                      have H' := Aside0.mk H
                      clear H
                      have hcz15_0 : w9.cell? ⟨gb146, 0, none⟩ = some (.string (⟨#[]⟩ : ByteArray)) := (blk_cell BK146.out 0).trans rfl
                      have hcz15_1 : w9.cell? ⟨gb146, 1, none⟩ = some (.slice none 0 0) := (blk_cell BK146.out 1).trans rfl
                      have hcz15_2 : w9.cell? ⟨gb146, 2, none⟩ = some (.int .i64 0) := (blk_cell BK146.out 2).trans rfl
                      have hcz15_3 : w9.cell? ⟨gb146, 3, none⟩ = some (.string (⟨#[]⟩ : ByteArray)) := (blk_cell BK146.out 3).trans rfl
                      have hcz15_4 : w9.cell? ⟨gb146, 4, none⟩ = some (.bool false) := (blk_cell BK146.out 4).trans rfl
                      have hfz15_0 := blk_frozen BK146.out 0
                      have hfz15_1 := blk_frozen BK146.out 1
                      have hfz15_2 := blk_frozen BK146.out 2
                      have hfz15_3 := blk_frozen BK146.out 3
                      have hfz15_4 := blk_frozen BK146.out 4
                      go_wp2_with (first | ((with_reducible refine gate_callee (f := 72) rfl ?_); refine goesL_ (some 22) rfl rfl Try.func72 (by kernel_rfl) rfl #[.string ((rd_T106 l0 x16_1).f0)] rfl (by (try simp only [List.map_toArray, List.map_cons, List.map_nil]); first | done | rfl | (simp only [List.length_drop, List.length_take]; rfl)) ?_; (with_reducible refine (impl_NameOk.calls k1 ((rd_T106 l0 x16_1).f0) true _ A11.out).mono ?_); rintro e w' ⟨rfl, ⟨nd, rfl⟩⟩; refine ⟨_, rfl, ?_⟩) | ((with_reducible refine gate_dst (N := 28) rfl ?_); (try (refine gate_guard (by rfl) ?_; dsimp only)); refine Kd.Z_look_op (base := w.heap.size) (ok := fun _ => True) kz111 111 rfl rfl _ _ 111 rfl kz111_K kz111_inj kz111_t false kz111_z mb144 x3_1 ((rd_T106 l0 x16_1).f0) rfl rfl (kz111_key ((rd_T106 l0 x16_1).f0) LMc13.out) ?aO (.bool ((mget x3_1 ((rd_T106 l0 x16_1).f0)).getD false)) rfl ?_; (case aO => exact (by (with_reducible repeat (first | apply Kd.Z_alloc | apply Kd.Z_drewN | apply Kd.Z_drew)); exact (Kd.Z_mono (Kd.Z_far (p := ⟨gb146, 4, none⟩) (Kd.Z_far (p := ⟨gb146, 3, none⟩) (Kd.Z_far (p := ⟨gb146, 2, none⟩) (Kd.Z_far (p := ⟨gb146, 1, none⟩) (Kd.Z_far (p := ⟨gb146, 0, none⟩) (Kd.Z_types HO_3.out BK146.out (by decide)) (fun _ hk => hk.2) (.string ((rd_T106 l0 x16_1).f0))) (fun _ hk => hk.2) (.slice A145_1 ((rd_T106 l0 x16_1).f1).length c145_1)) (fun _ hk => hk.2) (.int .i64 ((rd_T106 l0 x16_1).f2))) (fun _ hk => hk.2) (.string ((rd_T106 l0 x16_1).f3))) (fun _ hk => hk.2) (.bool ((rd_T106 l0 x16_1).f4))) (fun _ h_ => h_.1))))))
                      go_meet
                      case rel => exact ⟨_, (true), (by first | rfl | (simp; done) | (simp [*]; done)), H', ⟨by have := HK1.out; first | omega | exact Nat.le_refl _⟩, ⟨by (with_reducible repeat (first | apply Kd.Z_alloc | apply Kd.Z_drewN | apply Kd.Z_drew)); exact Kd.Z_mono (Kd.Z_far (p := ⟨gb146, 4, none⟩) (Kd.Z_far (p := ⟨gb146, 3, none⟩) (Kd.Z_far (p := ⟨gb146, 2, none⟩) (Kd.Z_far (p := ⟨gb146, 1, none⟩) (Kd.Z_far (p := ⟨gb146, 0, none⟩) (Kd.Z_types HO_3.out BK146.out (by decide)) (fun _ hk => hk.2) (.string ((rd_T106 l0 x16_1).f0))) (fun _ hk => hk.2) (.slice A145_1 ((rd_T106 l0 x16_1).f1).length c145_1)) (fun _ hk => hk.2) (.int .i64 ((rd_T106 l0 x16_1).f2))) (fun _ hk => hk.2) (.string ((rd_T106 l0 x16_1).f3))) (fun _ hk => hk.2) (.bool ((rd_T106 l0 x16_1).f4))) (fun _ hk => trivial)⟩, ⟨by (with_reducible repeat (first | refine blk_drewN ?_ _ | refine blk_drew ?_ | refine blk_alloc ?_ _)); refine blk_put (cs := #[.string ((rd_T106 l0 x16_1).f0), .slice A145_1 ((rd_T106 l0 x16_1).f1).length c145_1, .int .i64 ((rd_T106 l0 x16_1).f2), .string ((rd_T106 l0 x16_1).f3), .bool false]) ?_ 4 _ rfl; (with_reducible repeat (first | refine blk_drewN ?_ _ | refine blk_drew ?_ | refine blk_alloc ?_ _)); refine blk_put (cs := #[.string ((rd_T106 l0 x16_1).f0), .slice A145_1 ((rd_T106 l0 x16_1).f1).length c145_1, .int .i64 ((rd_T106 l0 x16_1).f2), .string (⟨#[]⟩ : ByteArray), .bool false]) ?_ 3 _ rfl; (with_reducible repeat (first | refine blk_drewN ?_ _ | refine blk_drew ?_ | refine blk_alloc ?_ _)); refine blk_put (cs := #[.string ((rd_T106 l0 x16_1).f0), .slice A145_1 ((rd_T106 l0 x16_1).f1).length c145_1, .int .i64 0, .string (⟨#[]⟩ : ByteArray), .bool false]) ?_ 2 _ rfl; (with_reducible repeat (first | refine blk_drewN ?_ _ | refine blk_drew ?_ | refine blk_alloc ?_ _)); refine blk_put (cs := #[.string ((rd_T106 l0 x16_1).f0), .slice none 0 0, .int .i64 0, .string (⟨#[]⟩ : ByteArray), .bool false]) ?_ 1 _ rfl; (with_reducible repeat (first | refine blk_drewN ?_ _ | refine blk_drew ?_ | refine blk_alloc ?_ _)); refine blk_put (cs := #[.string (⟨#[]⟩ : ByteArray), .slice none 0 0, .int .i64 0, .string (⟨#[]⟩ : ByteArray), .bool false]) ?_ 0 _ rfl; (with_reducible repeat (first | refine blk_drewN ?_ _ | refine blk_drew ?_ | refine blk_alloc ?_ _)); exact BK146.out⟩, ⟨by repeat (first | (with_reducible first | exact HB.out | apply below_alloc | apply pw_below_drewN | apply below_drew1 | refine below_set ?_ GE146.out) | exact HB.out)⟩⟩
                    · rw [if_neg c14] at H
                      have c14b0 : (mget x3_1 ((rd_T106 l0 x16_1).f0)).getD false = false := by simpa using c14
                      clear c14
                      (first | rw [c14b0] | (simp only [i64_w, i32_w]; rw [c14b0]) | skip)
                      by_cases c16 : (((rd_T106 l0 x16_1).f1).length : Int) > 8
                      · rw [if_pos c16] at H
                        have c16b0 : decide (8 < (((rd_T106 l0 x16_1).f1).length : Int)) = true := decide_eq_true c16
                        have c16b1 : decide (8 < ((rd_T106 l0 x16_1).f1).length) = true := decide_eq_true (by omega)
                        clear c16
                        have H' := Aside0.mk H
                        clear H
                        have hcz17_0 : w9.cell? ⟨gb146, 0, none⟩ = some (.string (⟨#[]⟩ : ByteArray)) := (blk_cell BK146.out 0).trans rfl
                        have hcz17_1 : w9.cell? ⟨gb146, 1, none⟩ = some (.slice none 0 0) := (blk_cell BK146.out 1).trans rfl
                        have hcz17_2 : w9.cell? ⟨gb146, 2, none⟩ = some (.int .i64 0) := (blk_cell BK146.out 2).trans rfl
                        have hcz17_3 : w9.cell? ⟨gb146, 3, none⟩ = some (.string (⟨#[]⟩ : ByteArray)) := (blk_cell BK146.out 3).trans rfl
                        have hcz17_4 : w9.cell? ⟨gb146, 4, none⟩ = some (.bool false) := (blk_cell BK146.out 4).trans rfl
                        have hfz17_0 := blk_frozen BK146.out 0
                        have hfz17_1 := blk_frozen BK146.out 1
                        have hfz17_2 := blk_frozen BK146.out 2
                        have hfz17_3 := blk_frozen BK146.out 3
                        have hfz17_4 := blk_frozen BK146.out 4
                        go_wp2_with (first | ((with_reducible refine gate_callee (f := 72) rfl ?_); refine goesL_ (some 22) rfl rfl Try.func72 (by kernel_rfl) rfl #[.string ((rd_T106 l0 x16_1).f0)] rfl (by (try simp only [List.map_toArray, List.map_cons, List.map_nil]); first | done | rfl | (simp only [List.length_drop, List.length_take]; rfl)) ?_; (with_reducible refine (impl_NameOk.calls k1 ((rd_T106 l0 x16_1).f0) true _ A11.out).mono ?_); rintro e w' ⟨rfl, ⟨nd, rfl⟩⟩; refine ⟨_, rfl, ?_⟩) | ((with_reducible refine gate_dst (N := 28) rfl ?_); (try (refine gate_guard (by rfl) ?_; dsimp only)); refine Kd.Z_look_op (base := w.heap.size) (ok := fun _ => True) kz111 111 rfl rfl _ _ 111 rfl kz111_K kz111_inj kz111_t false kz111_z mb144 x3_1 ((rd_T106 l0 x16_1).f0) rfl rfl (kz111_key ((rd_T106 l0 x16_1).f0) LMc13.out) ?aO (.bool ((mget x3_1 ((rd_T106 l0 x16_1).f0)).getD false)) rfl ?_; (case aO => exact (by (with_reducible repeat (first | apply Kd.Z_alloc | apply Kd.Z_drewN | apply Kd.Z_drew)); exact (Kd.Z_mono (Kd.Z_far (p := ⟨gb146, 4, none⟩) (Kd.Z_far (p := ⟨gb146, 3, none⟩) (Kd.Z_far (p := ⟨gb146, 2, none⟩) (Kd.Z_far (p := ⟨gb146, 1, none⟩) (Kd.Z_far (p := ⟨gb146, 0, none⟩) (Kd.Z_types HO_3.out BK146.out (by decide)) (fun _ hk => hk.2) (.string ((rd_T106 l0 x16_1).f0))) (fun _ hk => hk.2) (.slice A145_1 ((rd_T106 l0 x16_1).f1).length c145_1)) (fun _ hk => hk.2) (.int .i64 ((rd_T106 l0 x16_1).f2))) (fun _ hk => hk.2) (.string ((rd_T106 l0 x16_1).f3))) (fun _ hk => hk.2) (.bool ((rd_T106 l0 x16_1).f4))) (fun _ h_ => h_.1))))))
                        go_meet
                        case rel => exact ⟨_, (true), (by first | rfl | (simp; done) | (simp [*]; done)), H', ⟨by have := HK1.out; first | omega | exact Nat.le_refl _⟩, ⟨by (with_reducible repeat (first | apply Kd.Z_alloc | apply Kd.Z_drewN | apply Kd.Z_drew)); exact Kd.Z_mono (Kd.Z_far (p := ⟨gb146, 4, none⟩) (Kd.Z_far (p := ⟨gb146, 3, none⟩) (Kd.Z_far (p := ⟨gb146, 2, none⟩) (Kd.Z_far (p := ⟨gb146, 1, none⟩) (Kd.Z_far (p := ⟨gb146, 0, none⟩) (Kd.Z_types HO_3.out BK146.out (by decide)) (fun _ hk => hk.2) (.string ((rd_T106 l0 x16_1).f0))) (fun _ hk => hk.2) (.slice A145_1 ((rd_T106 l0 x16_1).f1).length c145_1)) (fun _ hk => hk.2) (.int .i64 ((rd_T106 l0 x16_1).f2))) (fun _ hk => hk.2) (.string ((rd_T106 l0 x16_1).f3))) (fun _ hk => hk.2) (.bool ((rd_T106 l0 x16_1).f4))) (fun _ hk => trivial)⟩, ⟨by (with_reducible repeat (first | refine blk_drewN ?_ _ | refine blk_drew ?_ | refine blk_alloc ?_ _)); refine blk_put (cs := #[.string ((rd_T106 l0 x16_1).f0), .slice A145_1 ((rd_T106 l0 x16_1).f1).length c145_1, .int .i64 ((rd_T106 l0 x16_1).f2), .string ((rd_T106 l0 x16_1).f3), .bool false]) ?_ 4 _ rfl; (with_reducible repeat (first | refine blk_drewN ?_ _ | refine blk_drew ?_ | refine blk_alloc ?_ _)); refine blk_put (cs := #[.string ((rd_T106 l0 x16_1).f0), .slice A145_1 ((rd_T106 l0 x16_1).f1).length c145_1, .int .i64 ((rd_T106 l0 x16_1).f2), .string (⟨#[]⟩ : ByteArray), .bool false]) ?_ 3 _ rfl; (with_reducible repeat (first | refine blk_drewN ?_ _ | refine blk_drew ?_ | refine blk_alloc ?_ _)); refine blk_put (cs := #[.string ((rd_T106 l0 x16_1).f0), .slice A145_1 ((rd_T106 l0 x16_1).f1).length c145_1, .int .i64 0, .string (⟨#[]⟩ : ByteArray), .bool false]) ?_ 2 _ rfl; (with_reducible repeat (first | refine blk_drewN ?_ _ | refine blk_drew ?_ | refine blk_alloc ?_ _)); refine blk_put (cs := #[.string ((rd_T106 l0 x16_1).f0), .slice none 0 0, .int .i64 0, .string (⟨#[]⟩ : ByteArray), .bool false]) ?_ 1 _ rfl; (with_reducible repeat (first | refine blk_drewN ?_ _ | refine blk_drew ?_ | refine blk_alloc ?_ _)); refine blk_put (cs := #[.string (⟨#[]⟩ : ByteArray), .slice none 0 0, .int .i64 0, .string (⟨#[]⟩ : ByteArray), .bool false]) ?_ 0 _ rfl; (with_reducible repeat (first | refine blk_drewN ?_ _ | refine blk_drew ?_ | refine blk_alloc ?_ _)); exact BK146.out⟩, ⟨by repeat (first | (with_reducible first | exact HB.out | apply below_alloc | apply pw_below_drewN | apply below_drew1 | refine below_set ?_ GE146.out) | exact HB.out)⟩⟩
                      · rw [if_neg c16] at H
                        have c16b0 : decide (8 < (((rd_T106 l0 x16_1).f1).length : Int)) = false := decide_eq_false c16
                        have c16b1 : decide (8 < ((rd_T106 l0 x16_1).f1).length) = false := decide_eq_false (by omega)
                        clear c16
                        replace H := Option.bind_eq_some_iff.mp H
                        obtain ⟨t148, A180, H⟩ := H
                        replace H : (impl_PeopleOk.j1 k1 l0 x3_1 l0 (l0.length : Int) x16_1 (!t148) ((rd_T106 l0 x16_1).f0) ((rd_T106 l0 x16_1).f1) ((rd_T106 l0 x16_1).f2) ((rd_T106 l0 x16_1).f3) ((rd_T106 l0 x16_1).f4)) = some r := H
                        have A18 := Aside0.mk A180
                        clear A180
                        have H' := Aside0.mk H
                        clear H
                        have hcz19_0 : w9.cell? ⟨gb146, 0, none⟩ = some (.string (⟨#[]⟩ : ByteArray)) := (blk_cell BK146.out 0).trans rfl
                        have hcz19_1 : w9.cell? ⟨gb146, 1, none⟩ = some (.slice none 0 0) := (blk_cell BK146.out 1).trans rfl
                        have hcz19_2 : w9.cell? ⟨gb146, 2, none⟩ = some (.int .i64 0) := (blk_cell BK146.out 2).trans rfl
                        have hcz19_3 : w9.cell? ⟨gb146, 3, none⟩ = some (.string (⟨#[]⟩ : ByteArray)) := (blk_cell BK146.out 3).trans rfl
                        have hcz19_4 : w9.cell? ⟨gb146, 4, none⟩ = some (.bool false) := (blk_cell BK146.out 4).trans rfl
                        have hfz19_0 := blk_frozen BK146.out 0
                        have hfz19_1 := blk_frozen BK146.out 1
                        have hfz19_2 := blk_frozen BK146.out 2
                        have hfz19_3 := blk_frozen BK146.out 3
                        have hfz19_4 := blk_frozen BK146.out 4
                        go_wp2_with (first | ((with_reducible refine gate_callee (f := 72) rfl ?_); refine goesL_ (some 22) rfl rfl Try.func72 (by kernel_rfl) rfl #[.string ((rd_T106 l0 x16_1).f0)] rfl (by (try simp only [List.map_toArray, List.map_cons, List.map_nil]); first | done | rfl | (simp only [List.length_drop, List.length_take]; rfl)) ?_; (with_reducible refine (impl_NameOk.calls k1 ((rd_T106 l0 x16_1).f0) true _ A11.out).mono ?_); rintro e w' ⟨rfl, ⟨nd, rfl⟩⟩; refine ⟨_, rfl, ?_⟩) | ((with_reducible refine gate_dst (N := 28) rfl ?_); (try (refine gate_guard (by rfl) ?_; dsimp only)); refine Kd.Z_look_op (base := w.heap.size) (ok := fun _ => True) kz111 111 rfl rfl _ _ 111 rfl kz111_K kz111_inj kz111_t false kz111_z mb144 x3_1 ((rd_T106 l0 x16_1).f0) rfl rfl (kz111_key ((rd_T106 l0 x16_1).f0) LMc13.out) ?aO (.bool ((mget x3_1 ((rd_T106 l0 x16_1).f0)).getD false)) rfl ?_; (case aO => exact (by (with_reducible repeat (first | apply Kd.Z_alloc | apply Kd.Z_drewN | apply Kd.Z_drew)); exact (Kd.Z_mono (Kd.Z_far (p := ⟨gb146, 4, none⟩) (Kd.Z_far (p := ⟨gb146, 3, none⟩) (Kd.Z_far (p := ⟨gb146, 2, none⟩) (Kd.Z_far (p := ⟨gb146, 1, none⟩) (Kd.Z_far (p := ⟨gb146, 0, none⟩) (Kd.Z_types HO_3.out BK146.out (by decide)) (fun _ hk => hk.2) (.string ((rd_T106 l0 x16_1).f0))) (fun _ hk => hk.2) (.slice A145_1 ((rd_T106 l0 x16_1).f1).length c145_1)) (fun _ hk => hk.2) (.int .i64 ((rd_T106 l0 x16_1).f2))) (fun _ hk => hk.2) (.string ((rd_T106 l0 x16_1).f3))) (fun _ hk => hk.2) (.bool ((rd_T106 l0 x16_1).f4))) (fun _ h_ => h_.1))))) | (go_at_call 73; (with_reducible refine (impl_money.calls ((rd_T106 l0 x16_1).f2) t148 _ A18.out).mono ?_); rintro e w' ⟨rfl, ⟨nd, rfl⟩⟩))
                        go_meet
                        case rel => exact ⟨_, (!t148), (by first | rfl | (simp; done) | (simp [*]; done)), H', ⟨by have := HK1.out; first | omega | exact Nat.le_refl _⟩, ⟨by (with_reducible repeat (first | apply Kd.Z_alloc | apply Kd.Z_drewN | apply Kd.Z_drew)); exact Kd.Z_mono (Kd.Z_far (p := ⟨gb146, 4, none⟩) (Kd.Z_far (p := ⟨gb146, 3, none⟩) (Kd.Z_far (p := ⟨gb146, 2, none⟩) (Kd.Z_far (p := ⟨gb146, 1, none⟩) (Kd.Z_far (p := ⟨gb146, 0, none⟩) (Kd.Z_types HO_3.out BK146.out (by decide)) (fun _ hk => hk.2) (.string ((rd_T106 l0 x16_1).f0))) (fun _ hk => hk.2) (.slice A145_1 ((rd_T106 l0 x16_1).f1).length c145_1)) (fun _ hk => hk.2) (.int .i64 ((rd_T106 l0 x16_1).f2))) (fun _ hk => hk.2) (.string ((rd_T106 l0 x16_1).f3))) (fun _ hk => hk.2) (.bool ((rd_T106 l0 x16_1).f4))) (fun _ hk => trivial)⟩, ⟨by (with_reducible repeat (first | refine blk_drewN ?_ _ | refine blk_drew ?_ | refine blk_alloc ?_ _)); refine blk_put (cs := #[.string ((rd_T106 l0 x16_1).f0), .slice A145_1 ((rd_T106 l0 x16_1).f1).length c145_1, .int .i64 ((rd_T106 l0 x16_1).f2), .string ((rd_T106 l0 x16_1).f3), .bool false]) ?_ 4 _ rfl; (with_reducible repeat (first | refine blk_drewN ?_ _ | refine blk_drew ?_ | refine blk_alloc ?_ _)); refine blk_put (cs := #[.string ((rd_T106 l0 x16_1).f0), .slice A145_1 ((rd_T106 l0 x16_1).f1).length c145_1, .int .i64 ((rd_T106 l0 x16_1).f2), .string (⟨#[]⟩ : ByteArray), .bool false]) ?_ 3 _ rfl; (with_reducible repeat (first | refine blk_drewN ?_ _ | refine blk_drew ?_ | refine blk_alloc ?_ _)); refine blk_put (cs := #[.string ((rd_T106 l0 x16_1).f0), .slice A145_1 ((rd_T106 l0 x16_1).f1).length c145_1, .int .i64 0, .string (⟨#[]⟩ : ByteArray), .bool false]) ?_ 2 _ rfl; (with_reducible repeat (first | refine blk_drewN ?_ _ | refine blk_drew ?_ | refine blk_alloc ?_ _)); refine blk_put (cs := #[.string ((rd_T106 l0 x16_1).f0), .slice none 0 0, .int .i64 0, .string (⟨#[]⟩ : ByteArray), .bool false]) ?_ 1 _ rfl; (with_reducible repeat (first | refine blk_drewN ?_ _ | refine blk_drew ?_ | refine blk_alloc ?_ _)); refine blk_put (cs := #[.string (⟨#[]⟩ : ByteArray), .slice none 0 0, .int .i64 0, .string (⟨#[]⟩ : ByteArray), .bool false]) ?_ 0 _ rfl; (with_reducible repeat (first | refine blk_drewN ?_ _ | refine blk_drew ?_ | refine blk_alloc ?_ _)); exact BK146.out⟩, ⟨by repeat (first | (with_reducible first | exact HB.out | apply below_alloc | apply pw_below_drewN | apply below_drew1 | refine below_set ?_ GE146.out) | exact HB.out)⟩⟩
                  · rw [if_neg c13] at H
                    exact absurd H (by simp)
                · replace c12 := Bool.eq_false_iff.mpr c12
                  subst c12
                  have H1 : (impl_PeopleOk.j1 k1 l0 x3_1 l0 (l0.length : Int) x16_1 true ((rd_T106 l0 x16_1).f0) ((rd_T106 l0 x16_1).f1) ((rd_T106 l0 x16_1).f2) ((rd_T106 l0 x16_1).f3) ((rd_T106 l0 x16_1).f4)) = some r := by rw [if_neg (show ¬ (false = true) by decide)] at H; exact H
                  clear H
                  have H := H1
                  clear H1
                  have H' := Aside0.mk H
                  clear H
                  have hcz20_0 : w9.cell? ⟨gb146, 0, none⟩ = some (.string (⟨#[]⟩ : ByteArray)) := (blk_cell BK146.out 0).trans rfl
                  have hcz20_1 : w9.cell? ⟨gb146, 1, none⟩ = some (.slice none 0 0) := (blk_cell BK146.out 1).trans rfl
                  have hcz20_2 : w9.cell? ⟨gb146, 2, none⟩ = some (.int .i64 0) := (blk_cell BK146.out 2).trans rfl
                  have hcz20_3 : w9.cell? ⟨gb146, 3, none⟩ = some (.string (⟨#[]⟩ : ByteArray)) := (blk_cell BK146.out 3).trans rfl
                  have hcz20_4 : w9.cell? ⟨gb146, 4, none⟩ = some (.bool false) := (blk_cell BK146.out 4).trans rfl
                  have hfz20_0 := blk_frozen BK146.out 0
                  have hfz20_1 := blk_frozen BK146.out 1
                  have hfz20_2 := blk_frozen BK146.out 2
                  have hfz20_3 := blk_frozen BK146.out 3
                  have hfz20_4 := blk_frozen BK146.out 4
                  go_wp2_with (first | ((with_reducible refine gate_callee (f := 72) rfl ?_); refine goesL_ (some 22) rfl rfl Try.func72 (by kernel_rfl) rfl #[.string ((rd_T106 l0 x16_1).f0)] rfl (by (try simp only [List.map_toArray, List.map_cons, List.map_nil]); first | done | rfl | (simp only [List.length_drop, List.length_take]; rfl)) ?_; (with_reducible refine (impl_NameOk.calls k1 ((rd_T106 l0 x16_1).f0) false _ A11.out).mono ?_); rintro e w' ⟨rfl, ⟨nd, rfl⟩⟩; refine ⟨_, rfl, ?_⟩))
                  go_meet
                  case rel => exact ⟨_, (true), (by first | rfl | (simp; done) | (simp [*]; done)), H', ⟨by have := HK1.out; first | omega | exact Nat.le_refl _⟩, ⟨by (with_reducible repeat (first | apply Kd.Z_alloc | apply Kd.Z_drewN | apply Kd.Z_drew)); exact Kd.Z_mono (Kd.Z_far (p := ⟨gb146, 4, none⟩) (Kd.Z_far (p := ⟨gb146, 3, none⟩) (Kd.Z_far (p := ⟨gb146, 2, none⟩) (Kd.Z_far (p := ⟨gb146, 1, none⟩) (Kd.Z_far (p := ⟨gb146, 0, none⟩) (Kd.Z_types HO_3.out BK146.out (by decide)) (fun _ hk => hk.2) (.string ((rd_T106 l0 x16_1).f0))) (fun _ hk => hk.2) (.slice A145_1 ((rd_T106 l0 x16_1).f1).length c145_1)) (fun _ hk => hk.2) (.int .i64 ((rd_T106 l0 x16_1).f2))) (fun _ hk => hk.2) (.string ((rd_T106 l0 x16_1).f3))) (fun _ hk => hk.2) (.bool ((rd_T106 l0 x16_1).f4))) (fun _ hk => trivial)⟩, ⟨by (with_reducible repeat (first | refine blk_drewN ?_ _ | refine blk_drew ?_ | refine blk_alloc ?_ _)); refine blk_put (cs := #[.string ((rd_T106 l0 x16_1).f0), .slice A145_1 ((rd_T106 l0 x16_1).f1).length c145_1, .int .i64 ((rd_T106 l0 x16_1).f2), .string ((rd_T106 l0 x16_1).f3), .bool false]) ?_ 4 _ rfl; (with_reducible repeat (first | refine blk_drewN ?_ _ | refine blk_drew ?_ | refine blk_alloc ?_ _)); refine blk_put (cs := #[.string ((rd_T106 l0 x16_1).f0), .slice A145_1 ((rd_T106 l0 x16_1).f1).length c145_1, .int .i64 ((rd_T106 l0 x16_1).f2), .string (⟨#[]⟩ : ByteArray), .bool false]) ?_ 3 _ rfl; (with_reducible repeat (first | refine blk_drewN ?_ _ | refine blk_drew ?_ | refine blk_alloc ?_ _)); refine blk_put (cs := #[.string ((rd_T106 l0 x16_1).f0), .slice A145_1 ((rd_T106 l0 x16_1).f1).length c145_1, .int .i64 0, .string (⟨#[]⟩ : ByteArray), .bool false]) ?_ 2 _ rfl; (with_reducible repeat (first | refine blk_drewN ?_ _ | refine blk_drew ?_ | refine blk_alloc ?_ _)); refine blk_put (cs := #[.string ((rd_T106 l0 x16_1).f0), .slice none 0 0, .int .i64 0, .string (⟨#[]⟩ : ByteArray), .bool false]) ?_ 1 _ rfl; (with_reducible repeat (first | refine blk_drewN ?_ _ | refine blk_drew ?_ | refine blk_alloc ?_ _)); refine blk_put (cs := #[.string (⟨#[]⟩ : ByteArray), .slice none 0 0, .int .i64 0, .string (⟨#[]⟩ : ByteArray), .bool false]) ?_ 0 _ rfl; (with_reducible repeat (first | refine blk_drewN ?_ _ | refine blk_drew ?_ | refine blk_alloc ?_ _)); exact BK146.out⟩, ⟨by repeat (first | (with_reducible first | exact HB.out | apply below_alloc | apply pw_below_drewN | apply below_drew1 | refine below_set ?_ GE146.out) | exact HB.out)⟩⟩
              case rest =>
                clear HC8
                try clear c1
                try clear p1
                try clear q1
                try clear hx1
                try clear c2
                try clear c2b0
                try clear c2b1
                try clear p2
                try clear c5
                try clear c5b0
                try clear c6
                try clear c6b0
                try clear c7
                try clear c7b0
                try clear c12
                try clear c13
                try clear c14
                try clear c14b0
                try clear p14
                try clear q14
                try clear hx14
                try clear c16
                try clear c16b0
                try clear c16b1
                try clear hcz10_0
                try clear hcz10_1
                try clear hcz10_2
                try clear hcz10_3
                try clear hcz10_4
                try clear hcz15_0
                try clear hcz15_1
                try clear hcz15_2
                try clear hcz15_3
                try clear hcz15_4
                try clear hcz17_0
                try clear hcz17_1
                try clear hcz17_2
                try clear hcz17_3
                try clear hcz17_4
                try clear hcz19_0
                try clear hcz19_1
                try clear hcz19_2
                try clear hcz19_3
                try clear hcz19_4
                try clear hcz20_0
                try clear hcz20_1
                try clear hcz20_2
                try clear hcz20_3
                try clear hcz20_4
                try clear hfz10_0
                try clear hfz10_1
                try clear hfz10_2
                try clear hfz10_3
                try clear hfz10_4
                try clear hfz15_0
                try clear hfz15_1
                try clear hfz15_2
                try clear hfz15_3
                try clear hfz15_4
                try clear hfz17_0
                try clear hfz17_1
                try clear hfz17_2
                try clear hfz17_3
                try clear hfz17_4
                try clear hfz19_0
                try clear hfz19_1
                try clear hfz19_2
                try clear hfz19_3
                try clear hfz19_4
                try clear hfz20_0
                try clear hfz20_1
                try clear hfz20_2
                try clear hfz20_3
                try clear hfz20_4
                try clear hx145_0
                try clear hx145_1
                try clear hx145_2
                try clear hx145_3
                try clear hx145_4
                try clear p145
                try clear p2
                try clear q145
                obtain ⟨kq, x41_7, rfl, HA, HJ7, HO_3, BK146, HB⟩ := hcut
                cases kq with
                | zero => exact absurd HA.out (by simp [impl_PeopleOk.j1])
                | succ kj7 =>
                  have H := HA.out
                  clear HA
                  simp only [impl_PeopleOk.j1] at H
                  by_cases c21 : x41_7 = true
                  · subst c21
                    have H1 : (some false) = some r := by rw [if_pos rfl] at H; exact H
                    clear H
                    have H := H1
                    clear H1
                    obtain rfl := Option.some.inj H
                    go_wp2
                    go_ret
                    exact ⟨by first | rfl | (simp [errW_none, errW_some] <;> rfl) | (simp [*, errW_none, errW_some] <;> rfl), by repeat (first | (with_reducible first | exact HB.out | apply below_alloc | apply pw_below_drewN | apply below_drew1 | refine below_set ?_ GE146.out) | exact HB.out)⟩
                  · replace c21 := Bool.eq_false_iff.mpr c21
                    subst c21
                    have H1 : (impl_PeopleOk.l1 kj7 l0 x3_1 l0 (l0.length : Int) x16_1 ((rd_T106 l0 x16_1).f1) (((rd_T106 l0 x16_1).f1).length : Int) 0 ((rd_T106 l0 x16_1).f0) ((rd_T106 l0 x16_1).f1) ((rd_T106 l0 x16_1).f2) ((rd_T106 l0 x16_1).f3) ((rd_T106 l0 x16_1).f4)) = some r := by rw [if_neg (show ¬ (false = true) by decide)] at H; exact H
                    clear H
                    have H := H1
                    clear H1
                    have H' := Aside0.mk H
                    clear H
                    have hcz22_0 : wc.cell? ⟨gb146, 0, none⟩ = some (.string ((rd_T106 l0 x16_1).f0)) := (blk_cell BK146.out 0).trans rfl
                    have hcz22_1 : wc.cell? ⟨gb146, 1, none⟩ = some (.slice A145_1 ((rd_T106 l0 x16_1).f1).length c145_1) := (blk_cell BK146.out 1).trans rfl
                    have hcz22_2 : wc.cell? ⟨gb146, 2, none⟩ = some (.int .i64 ((rd_T106 l0 x16_1).f2)) := (blk_cell BK146.out 2).trans rfl
                    have hcz22_3 : wc.cell? ⟨gb146, 3, none⟩ = some (.string ((rd_T106 l0 x16_1).f3)) := (blk_cell BK146.out 3).trans rfl
                    have hcz22_4 : wc.cell? ⟨gb146, 4, none⟩ = some (.bool ((rd_T106 l0 x16_1).f4)) := (blk_cell BK146.out 4).trans rfl
                    have hfz22_0 := blk_frozen BK146.out 0
                    have hfz22_1 := blk_frozen BK146.out 1
                    have hfz22_2 := blk_frozen BK146.out 2
                    have hfz22_3 := blk_frozen BK146.out 3
                    have hfz22_4 := blk_frozen BK146.out 4
                    go_wp2
                    go_loopg [45] kj7 (fun kq v45 w' => ∃ (x45_3 : Int), v45 = .int .i64 x45_3 ∧ Aside0 (impl_PeopleOk.l1 kq l0 x3_1 l0 (l0.length : Int) x16_1 ((rd_T106 l0 x16_1).f1) (((rd_T106 l0 x16_1).f1).length : Int) x45_3 ((rd_T106 l0 x16_1).f0) ((rd_T106 l0 x16_1).f1) ((rd_T106 l0 x16_1).f2) ((rd_T106 l0 x16_1).f3) ((rd_T106 l0 x16_1).f4) = some r) ∧ Aside0 (kq ≤ kj7) ∧ Aside0 (Kd.Z kz111 111 w' w.heap.size (fun _ => True) (.map (some mb144)) x3_1) ∧ Aside0 (w'.heap[gb146]? = some (.cells #[.string ((rd_T106 l0 x16_1).f0), (.slice A145_1 ((rd_T106 l0 x16_1).f1).length c145_1), .int .i64 ((rd_T106 l0 x16_1).f2), .string ((rd_T106 l0 x16_1).f3), .bool ((rd_T106 l0 x16_1).f4)] 106 (0, 0))) ∧ Aside0 (Below w.heap.size w w'))
                    case atStart => exact ⟨(0), (by first | rfl | (simp; done) | (simp [*]; done)), H', ⟨Nat.le_refl _⟩, ⟨by (with_reducible repeat (first | apply Kd.Z_alloc | apply Kd.Z_drewN | apply Kd.Z_drew)); exact HO_3.out⟩, ⟨by (with_reducible repeat (first | refine blk_drewN ?_ _ | refine blk_drew ?_ | refine blk_alloc ?_ _)); exact BK146.out⟩, ⟨by repeat (first | (with_reducible first | exact HB.out | apply below_alloc | apply pw_below_drewN | apply below_drew1 | refine below_set ?_ GE146.out) | exact HB.out)⟩⟩
                    case round =>
                      clear H'
                      try clear c1
                      try clear p1
                      try clear q1
                      try clear hx1
                      try clear c2
                      try clear c2b0
                      try clear c2b1
                      try clear p2
                      try clear c5
                      try clear c5b0
                      try clear c6
                      try clear c6b0
                      try clear c7
                      try clear c7b0
                      try clear c12
                      try clear c13
                      try clear c14
                      try clear c14b0
                      try clear p14
                      try clear q14
                      try clear hx14
                      try clear c16
                      try clear c16b0
                      try clear c16b1
                      try clear c21
                      try clear hcz10_0
                      try clear hcz10_1
                      try clear hcz10_2
                      try clear hcz10_3
                      try clear hcz10_4
                      try clear hcz15_0
                      try clear hcz15_1
                      try clear hcz15_2
                      try clear hcz15_3
                      try clear hcz15_4
                      try clear hcz17_0
                      try clear hcz17_1
                      try clear hcz17_2
                      try clear hcz17_3
                      try clear hcz17_4
                      try clear hcz19_0
                      try clear hcz19_1
                      try clear hcz19_2
                      try clear hcz19_3
                      try clear hcz19_4
                      try clear hcz20_0
                      try clear hcz20_1
                      try clear hcz20_2
                      try clear hcz20_3
                      try clear hcz20_4
                      try clear hcz22_0
                      try clear hcz22_1
                      try clear hcz22_2
                      try clear hcz22_3
                      try clear hcz22_4
                      try clear hfz10_0
                      try clear hfz10_1
                      try clear hfz10_2
                      try clear hfz10_3
                      try clear hfz10_4
                      try clear hfz15_0
                      try clear hfz15_1
                      try clear hfz15_2
                      try clear hfz15_3
                      try clear hfz15_4
                      try clear hfz17_0
                      try clear hfz17_1
                      try clear hfz17_2
                      try clear hfz17_3
                      try clear hfz17_4
                      try clear hfz19_0
                      try clear hfz19_1
                      try clear hfz19_2
                      try clear hfz19_3
                      try clear hfz19_4
                      try clear hfz20_0
                      try clear hfz20_1
                      try clear hfz20_2
                      try clear hfz20_3
                      try clear hfz20_4
                      try clear hfz22_0
                      try clear hfz22_1
                      try clear hfz22_2
                      try clear hfz22_3
                      try clear hfz22_4
                      try clear hx145_0
                      try clear hx145_1
                      try clear hx145_2
                      try clear hx145_3
                      try clear hx145_4
                      try clear p1
                      try clear p14
                      try clear p145
                      try clear p2
                      try clear q1
                      try clear q14
                      try clear q145
                      obtain ⟨x45_3, rfl, HA, HK3, HO_3, BK146, HB⟩ := hrel
                      cases gk with
                      | zero => exact absurd HA.out (by simp [impl_PeopleOk.l1])
                      | succ k3 =>
                        have H := HA.out
                        clear HA
                        simp only [impl_PeopleOk.l1] at H
                        by_cases c23 : x45_3 < (((rd_T106 l0 x16_1).f1).length : Int)
                        · rw [if_pos c23] at H
                          have c23b0 : decide (x45_3 < (((rd_T106 l0 x16_1).f1).length : Int)) = true := decide_eq_true c23
                          clear c23
                          by_cases c24 : 0 ≤ x45_3
                          · rw [if_pos c24] at H
                            have c24b0 : decide (0 ≤ x45_3) = true := decide_eq_true c24
                            clear c24
                            by_cases c25 : x45_3 < (((rd_T106 l0 x16_1).f1).length : Int)
                            · rw [if_pos c25] at H
                              have c25b0 : decide (x45_3 < (((rd_T106 l0 x16_1).f1).length : Int)) = true := decide_eq_true c25
                              clear c25
                              replace H := Option.bind_eq_some_iff.mp H
                              obtain ⟨t150, A260, H⟩ := H
                              replace H : (if t150 = true then (impl_PeopleOk.l1 k3 l0 x3_1 l0 (l0.length : Int) x16_1 ((rd_T106 l0 x16_1).f1) (((rd_T106 l0 x16_1).f1).length : Int) (wrap64 (x45_3 + 1)) ((rd_T106 l0 x16_1).f0) ((rd_T106 l0 x16_1).f1) ((rd_T106 l0 x16_1).f2) ((rd_T106 l0 x16_1).f3) ((rd_T106 l0 x16_1).f4)) else (some false)) = some r := H
                              have A26 := Aside0.mk A260
                              clear A260
                              by_cases c27 : t150 = true
                              · subst c27
                                have H1 : (impl_PeopleOk.l1 k3 l0 x3_1 l0 (l0.length : Int) x16_1 ((rd_T106 l0 x16_1).f1) (((rd_T106 l0 x16_1).f1).length : Int) (wrap64 (x45_3 + 1)) ((rd_T106 l0 x16_1).f0) ((rd_T106 l0 x16_1).f1) ((rd_T106 l0 x16_1).f2) ((rd_T106 l0 x16_1).f3) ((rd_T106 l0 x16_1).f4)) = some r := by rw [if_pos rfl] at H; exact H
                                clear H
                                have H := H1
                                clear H1
                                have H' := Aside0.mk H
                                clear H
                                have p149 : 0 ≤ (x45_3 : Int) := of_decide_eq_true (by first | (with_reducible assumption) | assumption)
                                have q149 : x45_3 < (((rd_T106 l0 x16_1).f1).length : Int) := of_decide_eq_true (by first | (with_reducible assumption) | assumption)
                                obtain ⟨ad149, e149, hx149_0⟩ := Kd.at_string HR145_1.out x45_3 p149 q149
                                cases e149
                                replace hx149_0 := (HB.out.cell (World.block_lt_of_cell? w _ hx149_0)).trans hx149_0
                                replace p149 := eq_true p149
                                replace q149 := eq_true q149
                                go_wp2_with (first | ((with_reducible refine gate_callee (f := 72) rfl ?_); refine goesL_ (some 50) rfl rfl Try.func72 (by kernel_rfl) rfl #[.string (rdOf ByteArray.empty ((rd_T106 l0 x16_1).f1) x45_3)] rfl (by (try simp only [List.map_toArray, List.map_cons, List.map_nil]); first | done | rfl | (simp only [List.length_drop, List.length_take]; rfl)) ?_; (with_reducible refine (impl_NameOk.calls k3 (rdOf ByteArray.empty ((rd_T106 l0 x16_1).f1) x45_3) true _ A26.out).mono ?_); rintro e w' ⟨rfl, ⟨nd, rfl⟩⟩; refine ⟨_, rfl, ?_⟩))
                                go_roundg k3
                                case measure => have := HK1.out; have := HJ7.out; have := HK3.out; omega
                                case rel => exact ⟨(wrap64 (x45_3 + 1)), (by first | rfl | (simp; done) | (simp [*]; done)), H', ⟨by have := HK1.out; have := HJ7.out; have := HK3.out; omega⟩, ⟨by (with_reducible repeat (first | apply Kd.Z_alloc | apply Kd.Z_drewN | apply Kd.Z_drew)); exact HO_3.out⟩, ⟨by (with_reducible repeat (first | refine blk_drewN ?_ _ | refine blk_drew ?_ | refine blk_alloc ?_ _)); exact BK146.out⟩, ⟨by repeat (first | (with_reducible first | exact HB.out | apply below_alloc | apply pw_below_drewN | apply below_drew1 | refine below_set ?_ GE146.out) | exact HB.out)⟩⟩
                              · replace c27 := Bool.eq_false_iff.mpr c27
                                subst c27
                                have H1 : (some false) = some r := by rw [if_neg (show ¬ (false = true) by decide)] at H; exact H
                                clear H
                                have H := H1
                                clear H1
                                obtain rfl := Option.some.inj H
                                have p149 : 0 ≤ (x45_3 : Int) := of_decide_eq_true (by first | (with_reducible assumption) | assumption)
                                have q149 : x45_3 < (((rd_T106 l0 x16_1).f1).length : Int) := of_decide_eq_true (by first | (with_reducible assumption) | assumption)
                                obtain ⟨ad149, e149, hx149_0⟩ := Kd.at_string HR145_1.out x45_3 p149 q149
                                cases e149
                                replace hx149_0 := (HB.out.cell (World.block_lt_of_cell? w _ hx149_0)).trans hx149_0
                                replace p149 := eq_true p149
                                replace q149 := eq_true q149
                                go_wp2_with (first | ((with_reducible refine gate_callee (f := 72) rfl ?_); refine goesL_ (some 50) rfl rfl Try.func72 (by kernel_rfl) rfl #[.string (rdOf ByteArray.empty ((rd_T106 l0 x16_1).f1) x45_3)] rfl (by (try simp only [List.map_toArray, List.map_cons, List.map_nil]); first | done | rfl | (simp only [List.length_drop, List.length_take]; rfl)) ?_; (with_reducible refine (impl_NameOk.calls k3 (rdOf ByteArray.empty ((rd_T106 l0 x16_1).f1) x45_3) false _ A26.out).mono ?_); rintro e w' ⟨rfl, ⟨nd, rfl⟩⟩; refine ⟨_, rfl, ?_⟩))
                                go_ret
                                exact ⟨by first | rfl | (simp [errW_none, errW_some] <;> rfl) | (simp [*, errW_none, errW_some] <;> rfl), by repeat (first | (with_reducible first | exact HB.out | apply below_alloc | apply pw_below_drewN | apply below_drew1 | refine below_set ?_ GE146.out) | exact HB.out)⟩
                            · rw [if_neg c25] at H
                              exact absurd H (by simp)
                          · rw [if_neg c24] at H
                            exact absurd H (by simp)
                        · rw [if_neg c23] at H
                          have c23b0 : decide (x45_3 < (((rd_T106 l0 x16_1).f1).length : Int)) = false := decide_eq_false c23
                          clear c23
                          by_cases c28 : ((rd_T106 l0 x16_1).f0).size ≤ 9223372036854775807
                          · rw [if_pos c28] at H
                            have LMc28 := Aside0.mk c28
                            clear c28
                            obtain ⟨y151, hy151⟩ : ∃ y_ : List (ByteArray × Bool), y_ = (mset x3_1 ((rd_T106 l0 x16_1).f0) true) := ⟨_, rfl⟩
                            replace H : (impl_PeopleOk.l0 k3 l0 y151 l0 (l0.length : Int) (wrap64 (x16_1 + 1))) = some r := by first | (rw [hy151]; with_reducible exact H) | (have H2_ := (Option.bind_some _ _).symm.trans H; rw [hy151]; with_reducible exact H2_) | (have H2_ := (Option.bind_some _ _).symm.trans H; with_reducible exact H2_) | with_reducible exact H | (rw [hy151]; exact H) | exact H
                            have Ny151 := Aside0.mk hy151
                            clear hy151
                            have H' := Aside0.mk H
                            clear H
                            have hcz29_0 : wr.cell? ⟨gb146, 0, none⟩ = some (.string ((rd_T106 l0 x16_1).f0)) := (blk_cell BK146.out 0).trans rfl
                            have hcz29_1 : wr.cell? ⟨gb146, 1, none⟩ = some (.slice A145_1 ((rd_T106 l0 x16_1).f1).length c145_1) := (blk_cell BK146.out 1).trans rfl
                            have hcz29_2 : wr.cell? ⟨gb146, 2, none⟩ = some (.int .i64 ((rd_T106 l0 x16_1).f2)) := (blk_cell BK146.out 2).trans rfl
                            have hcz29_3 : wr.cell? ⟨gb146, 3, none⟩ = some (.string ((rd_T106 l0 x16_1).f3)) := (blk_cell BK146.out 3).trans rfl
                            have hcz29_4 : wr.cell? ⟨gb146, 4, none⟩ = some (.bool ((rd_T106 l0 x16_1).f4)) := (blk_cell BK146.out 4).trans rfl
                            have hfz29_0 := blk_frozen BK146.out 0
                            have hfz29_1 := blk_frozen BK146.out 1
                            have hfz29_2 := blk_frozen BK146.out 2
                            have hfz29_3 := blk_frozen BK146.out 3
                            have hfz29_4 := blk_frozen BK146.out 4
                            go_wp2_with (first | ((with_reducible refine gate_mapset (t := 111) rfl ?_); refine Kd.Z_set_op (base := w.heap.size) (ok := fun _ => True) kz111 111 rfl rfl _ _ _ 111 rfl rfl kz111_K kz111_inj kz111_t mb144 x3_1 ((rd_T106 l0 x16_1).f0) true rfl rfl rfl (kz111_key ((rd_T106 l0 x16_1).f0) LMc28.out) ?aO ?_; (case aO => exact (by (with_reducible repeat (first | apply Kd.Z_alloc | apply Kd.Z_drewN | apply Kd.Z_drew)); exact HO_3.out)); intro w30 ho_ hg hbb_ hz_; rw [← Ny151.out] at ho_; have n0_ := Aside0.mk (ho_); have n1_ := Aside0.mk (blk_grown (g := gb146) (o := .cells #[.string ((rd_T106 l0 x16_1).f0), .slice A145_1 ((rd_T106 l0 x16_1).f1).length c145_1, .int .i64 ((rd_T106 l0 x16_1).f2), .string ((rd_T106 l0 x16_1).f3), .bool ((rd_T106 l0 x16_1).f4)] 106 (0, 0)) (by (with_reducible repeat (first | refine blk_drewN ?_ _ | refine blk_drew ?_ | refine blk_alloc ?_ _)); exact BK146.out) hg (blk_neZ (by (with_reducible repeat (first | refine blk_drewN ?_ _ | refine blk_drew ?_ | refine blk_alloc ?_ _)); exact BK146.out) hz_)); have n2_ := Aside0.mk (pw_below_grown (by repeat (first | (with_reducible first | exact HB.out | apply below_alloc | apply pw_below_drewN | apply below_drew1 | refine below_set ?_ GE146.out) | exact HB.out)) (some mb144) (below_size (by repeat (first | (with_reducible first | exact HB.out | apply below_alloc | apply pw_below_drewN | apply below_drew1 | refine below_set ?_ GE146.out) | exact HB.out))) hg (fun k_ e_ => by cases e_; exact hbb_)); clear HO_3; clear BK146; clear HB; have HO_3 := n0_; have BK146 := n1_; have HB := n2_; clear n0_ n1_ n2_; clear ho_ hg hbb_ hz_))
                            go_roundg k3
                            case measure => have := HK1.out; have := HJ7.out; have := HK3.out; omega
                            case rel => exact ⟨(y151), (wrap64 (x16_1 + 1)), (by first | rfl | (simp; done) | (simp [*]; done)), H', ⟨by have := HK1.out; have := HJ7.out; have := HK3.out; omega⟩, ⟨by (with_reducible repeat (first | apply Kd.Z_alloc | apply Kd.Z_drewN | apply Kd.Z_drew)); exact HO_3.out⟩, ⟨by repeat (first | (with_reducible first | exact HB.out | apply below_alloc | apply pw_below_drewN | apply below_drew1 | refine below_set ?_ GE146.out) | exact HB.out)⟩⟩
                          · rw [if_neg c28] at H
                            exact absurd H (by simp)
            · rw [if_neg c7] at H
              exact absurd H (by simp)
          · rw [if_neg c6] at H
            exact absurd H (by simp)
        · rw [if_neg c5] at H
          have c5b0 : decide (x16_1 < (l0.length : Int)) = false := decide_eq_false c5
          clear c5
          have H' := Aside0.mk H
          clear H
          go_wp2
          go_loopg [59] k1 (fun kq v59 w' => ∃ (x59_2 : Int), v59 = .int .i64 x59_2 ∧ Aside0 (impl_PeopleOk.l2 kq x3_1 l0 (l0.length : Int) x59_2 = some r) ∧ Aside0 (kq ≤ k1) ∧ Aside0 (Kd.Z kz111 111 w' w.heap.size (fun _ => True) (.map (some mb144)) x3_1) ∧ Aside0 (Below w.heap.size w w'))
          case atStart => exact ⟨(0), (by first | rfl | (simp; done) | (simp [*]; done)), H', ⟨Nat.le_refl _⟩, ⟨by (with_reducible repeat (first | apply Kd.Z_alloc | apply Kd.Z_drewN | apply Kd.Z_drew)); exact HO_3.out⟩, ⟨by repeat (first | (with_reducible first | exact HB.out | apply below_alloc | apply pw_below_drewN | apply below_drew1) | exact HB.out)⟩⟩
          case round =>
            clear H'
            try clear c1
            try clear p1
            try clear q1
            try clear hx1
            try clear c2
            try clear c2b0
            try clear c2b1
            try clear p2
            try clear c5
            try clear c5b0
            try clear c6
            try clear c6b0
            try clear p6
            try clear c7
            try clear c7b0
            try clear c12
            try clear c13
            try clear c14
            try clear c14b0
            try clear p14
            try clear q14
            try clear hx14
            try clear c16
            try clear c16b0
            try clear c16b1
            try clear c21
            try clear c23
            try clear c23b0
            try clear c24
            try clear c24b0
            try clear c25
            try clear c25b0
            try clear c27
            try clear c28
            try clear hcz10_0
            try clear hcz10_1
            try clear hcz10_2
            try clear hcz10_3
            try clear hcz10_4
            try clear hcz15_0
            try clear hcz15_1
            try clear hcz15_2
            try clear hcz15_3
            try clear hcz15_4
            try clear hcz17_0
            try clear hcz17_1
            try clear hcz17_2
            try clear hcz17_3
            try clear hcz17_4
            try clear hcz19_0
            try clear hcz19_1
            try clear hcz19_2
            try clear hcz19_3
            try clear hcz19_4
            try clear hcz20_0
            try clear hcz20_1
            try clear hcz20_2
            try clear hcz20_3
            try clear hcz20_4
            try clear hcz22_0
            try clear hcz22_1
            try clear hcz22_2
            try clear hcz22_3
            try clear hcz22_4
            try clear hcz29_0
            try clear hcz29_1
            try clear hcz29_2
            try clear hcz29_3
            try clear hcz29_4
            try clear hfz10_0
            try clear hfz10_1
            try clear hfz10_2
            try clear hfz10_3
            try clear hfz10_4
            try clear hfz15_0
            try clear hfz15_1
            try clear hfz15_2
            try clear hfz15_3
            try clear hfz15_4
            try clear hfz17_0
            try clear hfz17_1
            try clear hfz17_2
            try clear hfz17_3
            try clear hfz17_4
            try clear hfz19_0
            try clear hfz19_1
            try clear hfz19_2
            try clear hfz19_3
            try clear hfz19_4
            try clear hfz20_0
            try clear hfz20_1
            try clear hfz20_2
            try clear hfz20_3
            try clear hfz20_4
            try clear hfz22_0
            try clear hfz22_1
            try clear hfz22_2
            try clear hfz22_3
            try clear hfz22_4
            try clear hfz29_0
            try clear hfz29_1
            try clear hfz29_2
            try clear hfz29_3
            try clear hfz29_4
            try clear hx145_0
            try clear hx145_1
            try clear hx145_2
            try clear hx145_3
            try clear hx145_4
            try clear hx149_0
            try clear p1
            try clear p14
            try clear p145
            try clear p149
            try clear p2
            try clear q1
            try clear q14
            try clear q145
            try clear q149
            obtain ⟨x59_2, rfl, HA, HK2, HO_3, HB⟩ := hrel
            cases gk with
            | zero => exact absurd HA.out (by simp [impl_PeopleOk.l2])
            | succ k2 =>
              have H := HA.out
              clear HA
              simp only [impl_PeopleOk.l2] at H
              by_cases c31 : x59_2 < (l0.length : Int)
              · rw [if_pos c31] at H
                have c31b0 : decide (x59_2 < (l0.length : Int)) = true := decide_eq_true c31
                clear c31
                by_cases c32 : 0 ≤ x59_2
                · rw [if_pos c32] at H
                  have c32b0 : decide (0 ≤ x59_2) = true := decide_eq_true c32
                  clear c32
                  by_cases c33 : x59_2 < (l0.length : Int)
                  · rw [if_pos c33] at H
                    have c33b0 : decide (x59_2 < (l0.length : Int)) = true := decide_eq_true c33
                    clear c33
                    by_cases c34 : ((rd_T106 l0 x59_2).f3).toList = ([] : List UInt8)
                    · rw [if_pos c34] at H
                      have c34b0 : (((rd_T106 l0 x59_2).f3).toList == ([] : List UInt8)) = true := beq_iff_eq.mpr c34
                      have c34b1 : (((rd_T106 l0 x59_2).f3).toList != ([] : List UInt8)) = false := bne_eq_false_iff_eq.mpr c34
                      clear c34
                      have H' := Aside0.mk H
                      clear H
                      have p152 : 0 ≤ (x59_2 : Int) := of_decide_eq_true (by first | (with_reducible assumption) | assumption)
                      have q152 : x59_2 < (l0.length : Int) := of_decide_eq_true (by first | (with_reducible assumption) | assumption)
                      obtain ⟨ad152, A152_1, c152_1, e152, hx152_0, hx152_1, hx152_2, hx152_3, hx152_4, hl152_1, hi152_1⟩ := at_T106 HR0.out x59_2 p152 q152
                      cases e152
                      replace hx152_0 := (HB.out.cell (World.block_lt_of_cell? w _ hx152_0)).trans hx152_0
                      replace hx152_1 := (HB.out.cell (World.block_lt_of_cell? w _ hx152_1)).trans hx152_1
                      replace hx152_2 := (HB.out.cell (World.block_lt_of_cell? w _ hx152_2)).trans hx152_2
                      replace hx152_3 := (HB.out.cell (World.block_lt_of_cell? w _ hx152_3)).trans hx152_3
                      replace hx152_4 := (HB.out.cell (World.block_lt_of_cell? w _ hx152_4)).trans hx152_4
                      have HR152_1 := Aside0.mk hi152_1
                      have HC152_1 := Aside0.mk hl152_1
                      clear hi152_1 hl152_1
                      replace p152 := eq_true p152
                      replace q152 := eq_true q152
                      go_wp2_with (first | ((with_reducible refine gate_dst (N := 9) rfl ?_); (try (refine gate_guard (by rfl) ?_; dsimp only)); refine box_event ?hg (N := 9) ?hd (cs := #[.string (⟨#[]⟩ : ByteArray), .slice none 0 0, .int .i64 0, .string (⟨#[]⟩ : ByteArray), .bool false]) (t := 106) ?hr ?_; (case hd => rfl); (case hg => rfl); (case hr => first | (go_simp; done) | (go_simp; rfl)); intro gb153 hg w35 hbox hb; have n0_ := Aside0.mk (Kd.Z_below (by (with_reducible repeat (first | apply Kd.Z_alloc | apply Kd.Z_drewN | apply Kd.Z_drew)); exact HO_3.out) hb); have n1_ := Aside0.mk (below_step (by repeat (first | (with_reducible first | exact HB.out | apply below_alloc | apply pw_below_drewN | apply below_drew1) | exact HB.out)) hb); have n2_ := Aside0.mk (hbox); have n3_ := Aside0.mk ((by rw [hg]; exact (below_size (by repeat (first | (with_reducible first | exact HB.out | apply below_alloc | apply pw_below_drewN | apply below_drew1) | exact HB.out))) : w.heap.size ≤ gb153)); have n4_ := Aside0.mk ((by rw [hg]; exact (below_size (by repeat (first | (with_reducible first | exact HB.out | apply below_alloc | apply pw_below_drewN | apply below_drew1) | exact HB.out))) : w.heap.size ≤ gb153)); clear HO_3; clear HB; have HO_3 := n0_; have HB := n1_; have BK153 := n2_; have GW153 := n3_; have GE153 := n4_; clear n0_ n1_ n2_ n3_ n4_; clear hb hbox hg; have hcz36_0 : w35.cell? ⟨gb153, 0, none⟩ = some (.string (⟨#[]⟩ : ByteArray)) := (blk_cell BK153.out 0).trans rfl; have hcz36_1 : w35.cell? ⟨gb153, 1, none⟩ = some (.slice none 0 0) := (blk_cell BK153.out 1).trans rfl; have hcz36_2 : w35.cell? ⟨gb153, 2, none⟩ = some (.int .i64 0) := (blk_cell BK153.out 2).trans rfl; have hcz36_3 : w35.cell? ⟨gb153, 3, none⟩ = some (.string (⟨#[]⟩ : ByteArray)) := (blk_cell BK153.out 3).trans rfl; have hcz36_4 : w35.cell? ⟨gb153, 4, none⟩ = some (.bool false) := (blk_cell BK153.out 4).trans rfl; have hfz36_0 := blk_frozen BK153.out 0; have hfz36_1 := blk_frozen BK153.out 1; have hfz36_2 := blk_frozen BK153.out 2; have hfz36_3 := blk_frozen BK153.out 3; have hfz36_4 := blk_frozen BK153.out 4))
                      go_roundg k2
                      case measure => have := HK1.out; have := HK2.out; omega
                      case rel => exact ⟨(wrap64 (x59_2 + 1)), (by first | rfl | (simp; done) | (simp [*]; done)), H', ⟨by have := HK1.out; have := HK2.out; omega⟩, ⟨by (with_reducible repeat (first | apply Kd.Z_alloc | apply Kd.Z_drewN | apply Kd.Z_drew)); exact Kd.Z_mono (Kd.Z_far (p := ⟨gb153, 4, none⟩) (Kd.Z_far (p := ⟨gb153, 3, none⟩) (Kd.Z_far (p := ⟨gb153, 2, none⟩) (Kd.Z_far (p := ⟨gb153, 1, none⟩) (Kd.Z_far (p := ⟨gb153, 0, none⟩) (Kd.Z_types HO_3.out BK153.out (by decide)) (fun _ hk => hk.2) (.string ((rd_T106 l0 x59_2).f0))) (fun _ hk => hk.2) (.slice A152_1 ((rd_T106 l0 x59_2).f1).length c152_1)) (fun _ hk => hk.2) (.int .i64 ((rd_T106 l0 x59_2).f2))) (fun _ hk => hk.2) (.string ((rd_T106 l0 x59_2).f3))) (fun _ hk => hk.2) (.bool ((rd_T106 l0 x59_2).f4))) (fun _ hk => trivial)⟩, ⟨by repeat (first | (with_reducible first | exact HB.out | apply below_alloc | apply pw_below_drewN | apply below_drew1 | refine below_set ?_ GE153.out) | exact HB.out)⟩⟩
                    · rw [if_neg c34] at H
                      have c34b0 : (((rd_T106 l0 x59_2).f3).toList == ([] : List UInt8)) = false := beq_eq_false_iff_ne.mpr c34
                      have c34b1 : (((rd_T106 l0 x59_2).f3).toList != ([] : List UInt8)) = true := bne_iff_ne.mpr c34
                      by_cases c37 : ((rd_T106 l0 x59_2).f3).toList = ((rd_T106 l0 x59_2).f0).toList
                      · rw [if_pos c37] at H
                        have c37b0 : (((rd_T106 l0 x59_2).f3).toList == ((rd_T106 l0 x59_2).f0).toList) = true := beq_iff_eq.mpr c37
                        have c37b1 : (((rd_T106 l0 x59_2).f3).toList != ((rd_T106 l0 x59_2).f0).toList) = false := bne_eq_false_iff_eq.mpr c37
                        clear c37
                        obtain rfl := Option.some.inj H
                        have p152 : 0 ≤ (x59_2 : Int) := of_decide_eq_true (by first | (with_reducible assumption) | assumption)
                        have q152 : x59_2 < (l0.length : Int) := of_decide_eq_true (by first | (with_reducible assumption) | assumption)
                        obtain ⟨ad152, A152_1, c152_1, e152, hx152_0, hx152_1, hx152_2, hx152_3, hx152_4, hl152_1, hi152_1⟩ := at_T106 HR0.out x59_2 p152 q152
                        cases e152
                        replace hx152_0 := (HB.out.cell (World.block_lt_of_cell? w _ hx152_0)).trans hx152_0
                        replace hx152_1 := (HB.out.cell (World.block_lt_of_cell? w _ hx152_1)).trans hx152_1
                        replace hx152_2 := (HB.out.cell (World.block_lt_of_cell? w _ hx152_2)).trans hx152_2
                        replace hx152_3 := (HB.out.cell (World.block_lt_of_cell? w _ hx152_3)).trans hx152_3
                        replace hx152_4 := (HB.out.cell (World.block_lt_of_cell? w _ hx152_4)).trans hx152_4
                        have HR152_1 := Aside0.mk hi152_1
                        have HC152_1 := Aside0.mk hl152_1
                        clear hi152_1 hl152_1
                        replace p152 := eq_true p152
                        replace q152 := eq_true q152
                        go_wp2_with (first | ((with_reducible refine gate_dst (N := 9) rfl ?_); (try (refine gate_guard (by rfl) ?_; dsimp only)); refine box_event ?hg (N := 9) ?hd (cs := #[.string (⟨#[]⟩ : ByteArray), .slice none 0 0, .int .i64 0, .string (⟨#[]⟩ : ByteArray), .bool false]) (t := 106) ?hr ?_; (case hd => rfl); (case hg => rfl); (case hr => first | (go_simp; done) | (go_simp; rfl)); intro gb153 hg w38 hbox hb; have n0_ := Aside0.mk (Kd.Z_below (by (with_reducible repeat (first | apply Kd.Z_alloc | apply Kd.Z_drewN | apply Kd.Z_drew)); exact HO_3.out) hb); have n1_ := Aside0.mk (below_step (by repeat (first | (with_reducible first | exact HB.out | apply below_alloc | apply pw_below_drewN | apply below_drew1) | exact HB.out)) hb); have n2_ := Aside0.mk (hbox); have n3_ := Aside0.mk ((by rw [hg]; exact (below_size (by repeat (first | (with_reducible first | exact HB.out | apply below_alloc | apply pw_below_drewN | apply below_drew1) | exact HB.out))) : w.heap.size ≤ gb153)); have n4_ := Aside0.mk ((by rw [hg]; exact (below_size (by repeat (first | (with_reducible first | exact HB.out | apply below_alloc | apply pw_below_drewN | apply below_drew1) | exact HB.out))) : w.heap.size ≤ gb153)); clear HO_3; clear HB; have HO_3 := n0_; have HB := n1_; have BK153 := n2_; have GW153 := n3_; have GE153 := n4_; clear n0_ n1_ n2_ n3_ n4_; clear hb hbox hg; have hcz39_0 : w38.cell? ⟨gb153, 0, none⟩ = some (.string (⟨#[]⟩ : ByteArray)) := (blk_cell BK153.out 0).trans rfl; have hcz39_1 : w38.cell? ⟨gb153, 1, none⟩ = some (.slice none 0 0) := (blk_cell BK153.out 1).trans rfl; have hcz39_2 : w38.cell? ⟨gb153, 2, none⟩ = some (.int .i64 0) := (blk_cell BK153.out 2).trans rfl; have hcz39_3 : w38.cell? ⟨gb153, 3, none⟩ = some (.string (⟨#[]⟩ : ByteArray)) := (blk_cell BK153.out 3).trans rfl; have hcz39_4 : w38.cell? ⟨gb153, 4, none⟩ = some (.bool false) := (blk_cell BK153.out 4).trans rfl; have hfz39_0 := blk_frozen BK153.out 0; have hfz39_1 := blk_frozen BK153.out 1; have hfz39_2 := blk_frozen BK153.out 2; have hfz39_3 := blk_frozen BK153.out 3; have hfz39_4 := blk_frozen BK153.out 4))
                        go_ret
                        exact ⟨by first | rfl | (simp [errW_none, errW_some] <;> rfl) | (simp [*, errW_none, errW_some] <;> rfl), by repeat (first | (with_reducible first | exact HB.out | apply below_alloc | apply pw_below_drewN | apply below_drew1 | refine below_set ?_ GE153.out) | exact HB.out)⟩
                      · rw [if_neg c37] at H
                        have c37b0 : (((rd_T106 l0 x59_2).f3).toList == ((rd_T106 l0 x59_2).f0).toList) = false := beq_eq_false_iff_ne.mpr c37
                        have c37b1 : (((rd_T106 l0 x59_2).f3).toList != ((rd_T106 l0 x59_2).f0).toList) = true := bne_iff_ne.mpr c37
                        by_cases c40 : ((rd_T106 l0 x59_2).f3).size ≤ 9223372036854775807
                        · rw [if_pos c40] at H
                          have LMc40 := Aside0.mk c40
                          clear c40
                          by_cases c41 : ((mget x3_1 ((rd_T106 l0 x59_2).f3)).getD false = true)
                          · rw [if_pos c41] at H
                            have c41b0 : (mget x3_1 ((rd_T106 l0 x59_2).f3)).getD false = true := c41
                            clear c41
                            have H' := Aside0.mk H
                            clear H
                            have p152 : 0 ≤ (x59_2 : Int) := of_decide_eq_true (by first | (with_reducible assumption) | assumption)
                            have q152 : x59_2 < (l0.length : Int) := of_decide_eq_true (by first | (with_reducible assumption) | assumption)
                            obtain ⟨ad152, A152_1, c152_1, e152, hx152_0, hx152_1, hx152_2, hx152_3, hx152_4, hl152_1, hi152_1⟩ := at_T106 HR0.out x59_2 p152 q152
                            cases e152
                            replace hx152_0 := (HB.out.cell (World.block_lt_of_cell? w _ hx152_0)).trans hx152_0
                            replace hx152_1 := (HB.out.cell (World.block_lt_of_cell? w _ hx152_1)).trans hx152_1
                            replace hx152_2 := (HB.out.cell (World.block_lt_of_cell? w _ hx152_2)).trans hx152_2
                            replace hx152_3 := (HB.out.cell (World.block_lt_of_cell? w _ hx152_3)).trans hx152_3
                            replace hx152_4 := (HB.out.cell (World.block_lt_of_cell? w _ hx152_4)).trans hx152_4
                            have HR152_1 := Aside0.mk hi152_1
                            have HC152_1 := Aside0.mk hl152_1
                            clear hi152_1 hl152_1
                            replace p152 := eq_true p152
                            replace q152 := eq_true q152
                            go_wp2_with (first | ((with_reducible refine gate_dst (N := 9) rfl ?_); (try (refine gate_guard (by rfl) ?_; dsimp only)); refine box_event ?hg (N := 9) ?hd (cs := #[.string (⟨#[]⟩ : ByteArray), .slice none 0 0, .int .i64 0, .string (⟨#[]⟩ : ByteArray), .bool false]) (t := 106) ?hr ?_; (case hd => rfl); (case hg => rfl); (case hr => first | (go_simp; done) | (go_simp; rfl)); intro gb153 hg w42 hbox hb; have n0_ := Aside0.mk (Kd.Z_below (by (with_reducible repeat (first | apply Kd.Z_alloc | apply Kd.Z_drewN | apply Kd.Z_drew)); exact HO_3.out) hb); have n1_ := Aside0.mk (below_step (by repeat (first | (with_reducible first | exact HB.out | apply below_alloc | apply pw_below_drewN | apply below_drew1) | exact HB.out)) hb); have n2_ := Aside0.mk (hbox); have n3_ := Aside0.mk ((by rw [hg]; exact (below_size (by repeat (first | (with_reducible first | exact HB.out | apply below_alloc | apply pw_below_drewN | apply below_drew1) | exact HB.out))) : w.heap.size ≤ gb153)); have n4_ := Aside0.mk ((by rw [hg]; exact (below_size (by repeat (first | (with_reducible first | exact HB.out | apply below_alloc | apply pw_below_drewN | apply below_drew1) | exact HB.out))) : w.heap.size ≤ gb153)); clear HO_3; clear HB; have HO_3 := n0_; have HB := n1_; have BK153 := n2_; have GW153 := n3_; have GE153 := n4_; clear n0_ n1_ n2_ n3_ n4_; clear hb hbox hg; have hcz43_0 : w42.cell? ⟨gb153, 0, none⟩ = some (.string (⟨#[]⟩ : ByteArray)) := (blk_cell BK153.out 0).trans rfl; have hcz43_1 : w42.cell? ⟨gb153, 1, none⟩ = some (.slice none 0 0) := (blk_cell BK153.out 1).trans rfl; have hcz43_2 : w42.cell? ⟨gb153, 2, none⟩ = some (.int .i64 0) := (blk_cell BK153.out 2).trans rfl; have hcz43_3 : w42.cell? ⟨gb153, 3, none⟩ = some (.string (⟨#[]⟩ : ByteArray)) := (blk_cell BK153.out 3).trans rfl; have hcz43_4 : w42.cell? ⟨gb153, 4, none⟩ = some (.bool false) := (blk_cell BK153.out 4).trans rfl; have hfz43_0 := blk_frozen BK153.out 0; have hfz43_1 := blk_frozen BK153.out 1; have hfz43_2 := blk_frozen BK153.out 2; have hfz43_3 := blk_frozen BK153.out 3; have hfz43_4 := blk_frozen BK153.out 4) | ((with_reducible refine gate_dst (N := 76) rfl ?_); (try (refine gate_guard (by rfl) ?_; dsimp only)); refine Kd.Z_look_op (base := w.heap.size) (ok := fun _ => True) kz111 111 rfl rfl _ _ 111 rfl kz111_K kz111_inj kz111_t false kz111_z mb144 x3_1 ((rd_T106 l0 x59_2).f3) rfl rfl (kz111_key ((rd_T106 l0 x59_2).f3) LMc40.out) ?aO (.bool ((mget x3_1 ((rd_T106 l0 x59_2).f3)).getD false)) rfl ?_; (case aO => exact (by (with_reducible repeat (first | apply Kd.Z_alloc | apply Kd.Z_drewN | apply Kd.Z_drew)); exact (Kd.Z_mono (Kd.Z_far (p := ⟨gb153, 4, none⟩) (Kd.Z_far (p := ⟨gb153, 3, none⟩) (Kd.Z_far (p := ⟨gb153, 2, none⟩) (Kd.Z_far (p := ⟨gb153, 1, none⟩) (Kd.Z_far (p := ⟨gb153, 0, none⟩) (Kd.Z_types HO_3.out BK153.out (by decide)) (fun _ hk => hk.2) (.string ((rd_T106 l0 x59_2).f0))) (fun _ hk => hk.2) (.slice A152_1 ((rd_T106 l0 x59_2).f1).length c152_1)) (fun _ hk => hk.2) (.int .i64 ((rd_T106 l0 x59_2).f2))) (fun _ hk => hk.2) (.string ((rd_T106 l0 x59_2).f3))) (fun _ hk => hk.2) (.bool ((rd_T106 l0 x59_2).f4))) (fun _ h_ => h_.1))))))
                            go_roundg k2
                            case measure => have := HK1.out; have := HK2.out; omega
                            case rel => exact ⟨(wrap64 (x59_2 + 1)), (by first | rfl | (simp; done) | (simp [*]; done)), H', ⟨by have := HK1.out; have := HK2.out; omega⟩, ⟨by (with_reducible repeat (first | apply Kd.Z_alloc | apply Kd.Z_drewN | apply Kd.Z_drew)); exact Kd.Z_mono (Kd.Z_far (p := ⟨gb153, 4, none⟩) (Kd.Z_far (p := ⟨gb153, 3, none⟩) (Kd.Z_far (p := ⟨gb153, 2, none⟩) (Kd.Z_far (p := ⟨gb153, 1, none⟩) (Kd.Z_far (p := ⟨gb153, 0, none⟩) (Kd.Z_types HO_3.out BK153.out (by decide)) (fun _ hk => hk.2) (.string ((rd_T106 l0 x59_2).f0))) (fun _ hk => hk.2) (.slice A152_1 ((rd_T106 l0 x59_2).f1).length c152_1)) (fun _ hk => hk.2) (.int .i64 ((rd_T106 l0 x59_2).f2))) (fun _ hk => hk.2) (.string ((rd_T106 l0 x59_2).f3))) (fun _ hk => hk.2) (.bool ((rd_T106 l0 x59_2).f4))) (fun _ hk => trivial)⟩, ⟨by repeat (first | (with_reducible first | exact HB.out | apply below_alloc | apply pw_below_drewN | apply below_drew1 | refine below_set ?_ GE153.out) | exact HB.out)⟩⟩
                          · rw [if_neg c41] at H
                            have c41b0 : (mget x3_1 ((rd_T106 l0 x59_2).f3)).getD false = false := by simpa using c41
                            clear c41
                            obtain rfl := Option.some.inj H
                            have p152 : 0 ≤ (x59_2 : Int) := of_decide_eq_true (by first | (with_reducible assumption) | assumption)
                            have q152 : x59_2 < (l0.length : Int) := of_decide_eq_true (by first | (with_reducible assumption) | assumption)
                            obtain ⟨ad152, A152_1, c152_1, e152, hx152_0, hx152_1, hx152_2, hx152_3, hx152_4, hl152_1, hi152_1⟩ := at_T106 HR0.out x59_2 p152 q152
                            cases e152
                            replace hx152_0 := (HB.out.cell (World.block_lt_of_cell? w _ hx152_0)).trans hx152_0
                            replace hx152_1 := (HB.out.cell (World.block_lt_of_cell? w _ hx152_1)).trans hx152_1
                            replace hx152_2 := (HB.out.cell (World.block_lt_of_cell? w _ hx152_2)).trans hx152_2
                            replace hx152_3 := (HB.out.cell (World.block_lt_of_cell? w _ hx152_3)).trans hx152_3
                            replace hx152_4 := (HB.out.cell (World.block_lt_of_cell? w _ hx152_4)).trans hx152_4
                            have HR152_1 := Aside0.mk hi152_1
                            have HC152_1 := Aside0.mk hl152_1
                            clear hi152_1 hl152_1
                            replace p152 := eq_true p152
                            replace q152 := eq_true q152
                            go_wp2_with (first | ((with_reducible refine gate_dst (N := 9) rfl ?_); (try (refine gate_guard (by rfl) ?_; dsimp only)); refine box_event ?hg (N := 9) ?hd (cs := #[.string (⟨#[]⟩ : ByteArray), .slice none 0 0, .int .i64 0, .string (⟨#[]⟩ : ByteArray), .bool false]) (t := 106) ?hr ?_; (case hd => rfl); (case hg => rfl); (case hr => first | (go_simp; done) | (go_simp; rfl)); intro gb153 hg w44 hbox hb; have n0_ := Aside0.mk (Kd.Z_below (by (with_reducible repeat (first | apply Kd.Z_alloc | apply Kd.Z_drewN | apply Kd.Z_drew)); exact HO_3.out) hb); have n1_ := Aside0.mk (below_step (by repeat (first | (with_reducible first | exact HB.out | apply below_alloc | apply pw_below_drewN | apply below_drew1) | exact HB.out)) hb); have n2_ := Aside0.mk (hbox); have n3_ := Aside0.mk ((by rw [hg]; exact (below_size (by repeat (first | (with_reducible first | exact HB.out | apply below_alloc | apply pw_below_drewN | apply below_drew1) | exact HB.out))) : w.heap.size ≤ gb153)); have n4_ := Aside0.mk ((by rw [hg]; exact (below_size (by repeat (first | (with_reducible first | exact HB.out | apply below_alloc | apply pw_below_drewN | apply below_drew1) | exact HB.out))) : w.heap.size ≤ gb153)); clear HO_3; clear HB; have HO_3 := n0_; have HB := n1_; have BK153 := n2_; have GW153 := n3_; have GE153 := n4_; clear n0_ n1_ n2_ n3_ n4_; clear hb hbox hg; have hcz45_0 : w44.cell? ⟨gb153, 0, none⟩ = some (.string (⟨#[]⟩ : ByteArray)) := (blk_cell BK153.out 0).trans rfl; have hcz45_1 : w44.cell? ⟨gb153, 1, none⟩ = some (.slice none 0 0) := (blk_cell BK153.out 1).trans rfl; have hcz45_2 : w44.cell? ⟨gb153, 2, none⟩ = some (.int .i64 0) := (blk_cell BK153.out 2).trans rfl; have hcz45_3 : w44.cell? ⟨gb153, 3, none⟩ = some (.string (⟨#[]⟩ : ByteArray)) := (blk_cell BK153.out 3).trans rfl; have hcz45_4 : w44.cell? ⟨gb153, 4, none⟩ = some (.bool false) := (blk_cell BK153.out 4).trans rfl; have hfz45_0 := blk_frozen BK153.out 0; have hfz45_1 := blk_frozen BK153.out 1; have hfz45_2 := blk_frozen BK153.out 2; have hfz45_3 := blk_frozen BK153.out 3; have hfz45_4 := blk_frozen BK153.out 4) | ((with_reducible refine gate_dst (N := 76) rfl ?_); (try (refine gate_guard (by rfl) ?_; dsimp only)); refine Kd.Z_look_op (base := w.heap.size) (ok := fun _ => True) kz111 111 rfl rfl _ _ 111 rfl kz111_K kz111_inj kz111_t false kz111_z mb144 x3_1 ((rd_T106 l0 x59_2).f3) rfl rfl (kz111_key ((rd_T106 l0 x59_2).f3) LMc40.out) ?aO (.bool ((mget x3_1 ((rd_T106 l0 x59_2).f3)).getD false)) rfl ?_; (case aO => exact (by (with_reducible repeat (first | apply Kd.Z_alloc | apply Kd.Z_drewN | apply Kd.Z_drew)); exact (Kd.Z_mono (Kd.Z_far (p := ⟨gb153, 4, none⟩) (Kd.Z_far (p := ⟨gb153, 3, none⟩) (Kd.Z_far (p := ⟨gb153, 2, none⟩) (Kd.Z_far (p := ⟨gb153, 1, none⟩) (Kd.Z_far (p := ⟨gb153, 0, none⟩) (Kd.Z_types HO_3.out BK153.out (by decide)) (fun _ hk => hk.2) (.string ((rd_T106 l0 x59_2).f0))) (fun _ hk => hk.2) (.slice A152_1 ((rd_T106 l0 x59_2).f1).length c152_1)) (fun _ hk => hk.2) (.int .i64 ((rd_T106 l0 x59_2).f2))) (fun _ hk => hk.2) (.string ((rd_T106 l0 x59_2).f3))) (fun _ hk => hk.2) (.bool ((rd_T106 l0 x59_2).f4))) (fun _ h_ => h_.1))))))
                            go_ret
                            exact ⟨by first | rfl | (simp [errW_none, errW_some] <;> rfl) | (simp [*, errW_none, errW_some] <;> rfl), by repeat (first | (with_reducible first | exact HB.out | apply below_alloc | apply pw_below_drewN | apply below_drew1 | refine below_set ?_ GE153.out) | exact HB.out)⟩
                        · rw [if_neg c40] at H
                          exact absurd H (by simp)
                  · rw [if_neg c33] at H
                    exact absurd H (by simp)
                · rw [if_neg c32] at H
                  exact absurd H (by simp)
              · rw [if_neg c31] at H
                have c31b0 : decide (x59_2 < (l0.length : Int)) = false := decide_eq_false c31
                clear c31
                obtain rfl := Option.some.inj H
                go_wp2
                go_ret
                exact ⟨by first | rfl | (simp [errW_none, errW_some] <;> rfl) | (simp [*, errW_none, errW_some] <;> rfl), by repeat (first | (with_reducible first | exact HB.out | apply below_alloc | apply pw_below_drewN | apply below_drew1) | exact HB.out)⟩

end Go.Proofs.Ytiamlcnmjicpaaa.PFnExactPeopleOk
