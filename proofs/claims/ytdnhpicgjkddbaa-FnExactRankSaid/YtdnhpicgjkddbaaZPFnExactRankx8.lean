/- Lines by a program (a changed copy of the kit's print: this repo's wip/tools): Go functions as Lean functions, and proofs that the calls answer so. -/
import Derived.Test.YtdnhpicgjkddbaaZPFnExactRankx0
import Derived.Test.YtdnhpicgjkddbaaZPFnExactRankx7
namespace Go.Proofs.Ytdnhpicgjkddbaa.PFnExactRank
open Go.RowKit Go.Proofs.YtdnhpicgjkddbaaW.PrintWords Go.Proofs.YtdnhpicgjkddbaaW.PrintLast Go.Proofs.YtdnhpicgjkddbaaW.PrintMore
attribute [local go_sem] max2_int min2_int max_two min_two max_three min_three max_four min_four   -- for this text's walks alone
set_option linter.unusedVariables false
set_option linter.unusedSimpArgs false

/-! ### laws_eqJobS: function 55 -/
def laws_eqJobS.l0 : Nat → List (S165) → List (S165) → Int → Option (Bool)
 | 0, _, _, _ => none
 | k + 1, x0, x1, x5 => if x5 < (x0.length : Int) then (if 0 ≤ x5 then (if x5 < (x1.length : Int) then ((laws_eqJob.f k ((rd_T165 x0 x5).f0) ((rd_T165 x0 x5).f1) ((rd_T165 x0 x5).f2) ((rd_T165 x0 x5).f3) ((rd_T165 x1 x5).f0) ((rd_T165 x1 x5).f1) ((rd_T165 x1 x5).f2) ((rd_T165 x1 x5).f3)).bind fun t238 => (if t238 = true then (laws_eqJobS.l0 k x0 x1 (wrap64 (x5 + 1))) else (some false))) else (none)) else (none)) else (some true)
def laws_eqJobS.f (k : Nat) (l0 : List (S165)) (l1 : List (S165)) : Option (Bool) := if (l0.length : Int) = (l1.length : Int) then (laws_eqJobS.l0 k l0 l1 0) else (some false)
theorem laws_eqJobS.mono_l : ∀ k, (∀ y0 y1 y2, LeO (laws_eqJobS.l0 k y0 y1 y2) (laws_eqJobS.l0 (k + 1) y0 y1 y2))
 | 0 => fun _ _ _ r h => by simp [laws_eqJobS.l0] at h
 | k + 1 => by
  have ih0 := laws_eqJobS.mono_l k
  ·intro y0 y1 y2
   unfold laws_eqJobS.l0
   repeat' first
   | (with_reducible exact ih0 _ _ _)
   | (with_reducible exact laws_eqJob.mono _ _ _ _ _ _ _ _ _)
   | (with_reducible exact LeO.refl _)
   | (with_reducible exact LeO.none _)
   | (with_reducible refine LeO.ite ?_ ?_)
   | (with_reducible refine LeO.bind ?_ (fun _ => ?_))
   | exact ih0 _ _ _
   | exact laws_eqJob.mono _ _ _ _ _ _ _ _ _
   | exact LeO.none _
   | refine LeO.ite ?_ ?_
   | refine LeO.bind ?_ (fun _ => ?_)
theorem laws_eqJobS.mono : ∀ a0 a1 k, LeO (laws_eqJobS.f k a0 a1) (laws_eqJobS.f (k + 1) a0 a1) := by
 intro a0 a1 k
 have ih0 := laws_eqJobS.mono_l k
 unfold laws_eqJobS.f
 repeat' first
   | (with_reducible exact ih0 _ _ _)
   | (with_reducible exact laws_eqJob.mono _ _ _ _ _ _ _ _ _)
   | (with_reducible exact LeO.refl _)
   | (with_reducible exact LeO.none _)
   | (with_reducible refine LeO.ite ?_ ?_)
   | (with_reducible refine LeO.bind ?_ (fun _ => ?_))
   | exact ih0 _ _ _
   | exact laws_eqJob.mono _ _ _ _ _ _ _ _ _
   | exact LeO.none _
   | refine LeO.ite ?_ ?_
   | refine LeO.bind ?_ (fun _ => ?_)
def laws_eqJobS.T6 : Bool × List (List Nat × List Nat) := (true, [([], []), ([], []), ([0, 1], [0, 1]), ([2], [2]), ([], []), ([], []), ([4, 5], [4, 5]), ([6], [6]), ([3, 7], [3, 7]), ([8], [8])])
def laws_eqJobS.B6 : List Nat := [0, 0, 3, 7, 0, 0, 48, 112, 255, 511]
theorem laws_eqJobS.tab6 : rtab .any (opsOf Try.f55 6) = laws_eqJobS.T6 := by kernel_rfl
theorem laws_eqJobS.bits6 : waitsOk laws_eqJobS.T6.2 laws_eqJobS.B6 = true := by kernel_rfl
set_option maxHeartbeats 8000000 in
set_option maxRecDepth 100000 in
theorem laws_eqJobS.calls (k : Nat) (A0 : Option Addr) (c0 : Nat) (l0 : List (S165)) (A1 : Option Addr) (c1 : Nat) (l1 : List (S165)) (r : Bool) (w : World) (hr0 : Kd.C k165 w A0 l0.length l0) (hc0 : l0.length ≤ c0) (hr1 : Kd.C k165 w A1 l1.length l1) (hc1 : l1.length ≤ c1) (h : laws_eqJobS.f k l0 l1 = some r) :
  Calls Try.prog 55 #[.slice A0 l0.length c0, .slice A1 l1.length c1] w fun e w' => e = .returned (.bool r) ∧ Below w.heap.size w w' := by
 have hu165 := Try.underlying165
 have HR0 := Aside0.mk hr0
 have HC0 := Aside0.mk hc0
 clear hr0 hc0
 have HR1 := Aside0.mk hr1
 have HC1 := Aside0.mk hc1
 clear hr1 hc1
 have HB := Aside0.mk (Below.refl w.heap.size w)
 have H : (if (l0.length : Int) = (l1.length : Int) then (laws_eqJobS.l0 k l0 l1 0) else (some false)) = some r := h
 clear h
 by_cases c3 : (l0.length : Int) = (l1.length : Int)
 ·rw [if_pos c3] at H
  have c3b0 : ((l0.length : Int) == (l1.length : Int)) = true := beq_iff_eq.mpr c3
  have c3b1 : ((l0.length : Int) != (l1.length : Int)) = false := bne_eq_false_iff_eq.mpr c3
  have c3b2 : (l0.length == l1.length) = true := by first | simpa using c3 | (simp at c3 ⊢; omega)
  clear c3
  have H' := Aside0.mk H
  clear H
  go_enter Try.func55, Try.ntmps55
  go_wp2
  go_loopg [5] k (fun kq v5 w' => ∃ (x5_1 : Int), v5 = .int .i64 x5_1 ∧ Aside0 (laws_eqJobS.l0 kq l0 l1 x5_1 = some r) ∧ Aside0 (kq ≤ k) ∧ Aside0 (Below w.heap.size w w'))
  case atStart => exact ⟨(0), (by first | rfl | (simp; done) | (simp [*]; done)), H', ⟨Nat.le_refl _⟩, ⟨by repeat (first | (with_reducible first | exact HB.out | apply qc0 | apply qa0 | apply qb0) | exact HB.out)⟩⟩
  case round =>
   clear H'
   try clear c1
   try clear p2
   try clear c3
   try clear c3b0
   try clear c3b1
   try clear c3b2
   obtain ⟨x5_1, rfl, HA, HK1, HB⟩ := hrel
   cases gk with
   | zero => exact absurd HA.out (by simp [laws_eqJobS.l0])
   | succ k1 =>
    have H := HA.out
    clear HA
    simp only [laws_eqJobS.l0] at H
    by_cases c4 : x5_1 < (l0.length : Int)
    ·rw [if_pos c4] at H
     have c4b0 : decide (x5_1 < (l0.length : Int)) = true := decide_eq_true c4
     clear c4
     by_cases c5 : 0 ≤ x5_1
     case neg => rw [if_neg c5] at H; exact absurd H (by simp)
     rw [if_pos c5] at H
     have c5b0 : decide (0 ≤ x5_1) = true := decide_eq_true c5
     clear c5
     by_cases c6 : x5_1 < (l1.length : Int)
     case neg => rw [if_neg c6] at H; exact absurd H (by simp)
     rw [if_pos c6] at H
     have c6b0 : decide (x5_1 < (l1.length : Int)) = true := decide_eq_true c6
     clear c6
     replace H := Option.bind_eq_some_iff.mp H
     obtain ⟨t238, A70, H⟩ := H
     replace H : (if t238 = true then (laws_eqJobS.l0 k1 l0 l1 (wrap64 (x5_1 + 1))) else (some false)) = some r := H
     have A7 := Aside0.mk A70
     clear A70
     by_cases c8 : t238 = true
     ·subst c8
      have H1 : (laws_eqJobS.l0 k1 l0 l1 (wrap64 (x5_1 + 1))) = some r := by rw [if_pos rfl] at H; exact H
      clear H
      have H := H1
      clear H1
      have H' := Aside0.mk H
      clear H
      try go_wp2
      have n0_ := Aside0.mk (qb0 HB.out)
      clear HB
      have HB := n0_
      clear n0_
      have p236 : 0 ≤ (x5_1 : Int) := of_decide_eq_true (by first | (with_reducible assumption) | assumption)
      have q236 : x5_1 < (l0.length : Int) := of_decide_eq_true (by first | (with_reducible assumption) | assumption)
      obtain ⟨ad236, A236_3, c236_3, e236, hx236_0, hx236_1, hx236_2, hx236_3, hl236_3, hi236_3⟩ := at_T165 HR0.out x5_1 p236 q236
      have hw236_3 := hx236_3
      have hw236_2 := hx236_2
      have hw236_1 := hx236_1
      have hw236_0 := hx236_0
      cases e236
      replace hx236_0 := (HB.out.cell (World.block_lt_of_cell? w _ hx236_0)).trans hx236_0
      replace hx236_1 := (HB.out.cell (World.block_lt_of_cell? w _ hx236_1)).trans hx236_1
      replace hx236_2 := (HB.out.cell (World.block_lt_of_cell? w _ hx236_2)).trans hx236_2
      replace hx236_3 := (HB.out.cell (World.block_lt_of_cell? w _ hx236_3)).trans hx236_3
      have HR236_3 := Aside0.mk hi236_3
      have HC236_3 := Aside0.mk hl236_3
      clear hi236_3 hl236_3
      replace p236 := eq_true p236
      replace q236 := eq_true q236
      have p237 : 0 ≤ (x5_1 : Int) := of_decide_eq_true (by first | (with_reducible assumption) | assumption)
      have q237 : x5_1 < (l1.length : Int) := of_decide_eq_true (by first | (with_reducible assumption) | assumption)
      obtain ⟨ad237, A237_3, c237_3, e237, hx237_0, hx237_1, hx237_2, hx237_3, hl237_3, hi237_3⟩ := at_T165 HR1.out x5_1 p237 q237
      have hw237_3 := hx237_3
      have hw237_2 := hx237_2
      have hw237_1 := hx237_1
      have hw237_0 := hx237_0
      cases e237
      replace hx237_0 := (HB.out.cell (World.block_lt_of_cell? w _ hx237_0)).trans hx237_0
      replace hx237_1 := (HB.out.cell (World.block_lt_of_cell? w _ hx237_1)).trans hx237_1
      replace hx237_2 := (HB.out.cell (World.block_lt_of_cell? w _ hx237_2)).trans hx237_2
      replace hx237_3 := (HB.out.cell (World.block_lt_of_cell? w _ hx237_3)).trans hx237_3
      have HR237_3 := Aside0.mk hi237_3
      have HC237_3 := Aside0.mk hl237_3
      clear hi237_3 hl237_3
      replace p237 := eq_true p237
      replace q237 := eq_true q237
      refine start_ (n := 10) (S := fun w' => w'.cell? (ad236.add ((x5_1).toNat * 4)) = some (.int .i64 ((rd_T165 l0 x5_1).f0)) ∧ w'.cell? ⟨(ad236.add ((x5_1).toNat * 4)).block, (ad236.add ((x5_1).toNat * 4)).off + 1, none⟩ = some (.int .i64 ((rd_T165 l0 x5_1).f1)) ∧ w'.cell? ⟨(ad236.add ((x5_1).toNat * 4)).block, (ad236.add ((x5_1).toNat * 4)).off + 2, none⟩ = some (.int .i64 ((rd_T165 l0 x5_1).f2)) ∧ w'.cell? ⟨(ad236.add ((x5_1).toNat * 4)).block, (ad236.add ((x5_1).toNat * 4)).off + 3, none⟩ = some (.slice A236_3 ((rd_T165 l0 x5_1).f3).length c236_3) ∧ w'.cell? (ad237.add ((x5_1).toNat * 4)) = some (.int .i64 ((rd_T165 l1 x5_1).f0)) ∧ w'.cell? ⟨(ad237.add ((x5_1).toNat * 4)).block, (ad237.add ((x5_1).toNat * 4)).off + 1, none⟩ = some (.int .i64 ((rd_T165 l1 x5_1).f1)) ∧ w'.cell? ⟨(ad237.add ((x5_1).toNat * 4)).block, (ad237.add ((x5_1).toNat * 4)).off + 2, none⟩ = some (.int .i64 ((rd_T165 l1 x5_1).f2)) ∧ w'.cell? ⟨(ad237.add ((x5_1).toNat * 4)).block, (ad237.add ((x5_1).toNat * 4)).off + 3, none⟩ = some (.slice A237_3 ((rd_T165 l1 x5_1).f3).length c237_3)) (ds := []) #[false, false, false, false, false, false, false, false, false, false] (by kernel_rfl) rfl rfl ⟨((HB.out.cell (World.block_lt_of_cell? w _ hw236_0)).trans hw236_0), ((HB.out.cell (World.block_lt_of_cell? w _ hw236_1)).trans hw236_1), ((HB.out.cell (World.block_lt_of_cell? w _ hw236_2)).trans hw236_2), ((HB.out.cell (World.block_lt_of_cell? w _ hw236_3)).trans hw236_3), ((HB.out.cell (World.block_lt_of_cell? w _ hw237_0)).trans hw237_0), ((HB.out.cell (World.block_lt_of_cell? w _ hw237_1)).trans hw237_1), ((HB.out.cell (World.block_lt_of_cell? w _ hw237_2)).trans hw237_2), ((HB.out.cell (World.block_lt_of_cell? w _ hw237_3)).trans hw237_3)⟩ (fun hHeld => ?_); refine with_tabW laws_eqJobS.tab6 laws_eqJobS.bits6 (fun HT_ HW_ => ?_)
      generalize wr.drew = w9 at HB HR236_3 HR237_3 hx236_0 hx236_1 hx236_2 hx236_3 hx237_0 hx237_1 hx237_2 hx237_3 hHeld ⊢
      refine pure_ (i := 0) (N := some 17) (v := ?_) (a' := ?_) #[true, false, false, false, false, false, false, false, false, false] rfl rfl (ql0 HT_.out (by kernel_rfl)) (fun _ _ _ h => h) (Or.inl ⟨by rfl, ?_⟩) ?_ ?_
      rotate_left
      ·intro w'
       go_simp
       with_reducible rfl
      rotate_left
      ·simp only [Act.put, List.setIfInBounds_toArray, List.set_cons_zero, List.set_cons_succ, i64_w, i32_w]
       rfl
      refine pure_ (i := 1) (N := some 18) (v := ?_) (a' := ?_) #[true, true, false, false, false, false, false, false, false, false] rfl rfl (ql0 HT_.out (by kernel_rfl)) (fun _ _ _ h => h) (Or.inl ⟨by rfl, ?_⟩) ?_ ?_
      rotate_left
      ·intro w'
       go_simp
       with_reducible rfl
      rotate_left
      ·simp only [Act.put, List.setIfInBounds_toArray, List.set_cons_zero, List.set_cons_succ, i64_w, i32_w]
       rfl
      refine pure_ (i := 2) (N := some 19) (v := ?_) (a' := ?_) #[true, true, true, false, false, false, false, false, false, false] rfl rfl (ql0 HT_.out (by kernel_rfl)) (fun _ _ _ h => h) (Or.inl ⟨by rfl, ?_⟩) ?_ ?_
      rotate_left
      ·intro w'
       go_simp
       with_reducible rfl
      rotate_left
      ·simp only [Act.put, List.setIfInBounds_toArray, List.set_cons_zero, List.set_cons_succ, i64_w, i32_w]
       rfl
      refine pure_ (i := 4) (N := some 21) (v := ?_) (a' := ?_) #[true, true, true, false, true, false, false, false, false, false] rfl rfl (ql0 HT_.out (by kernel_rfl)) (fun _ _ _ h => h) (Or.inl ⟨by rfl, ?_⟩) ?_ ?_
      rotate_left
      ·intro w'
       go_simp
       with_reducible rfl
      rotate_left
      ·simp only [Act.put, List.setIfInBounds_toArray, List.set_cons_zero, List.set_cons_succ, i64_w, i32_w]
       rfl
      refine pure_ (i := 5) (N := some 22) (v := ?_) (a' := ?_) #[true, true, true, false, true, true, false, false, false, false] rfl rfl (ql0 HT_.out (by kernel_rfl)) (fun _ _ _ h => h) (Or.inl ⟨by rfl, ?_⟩) ?_ ?_
      rotate_left
      ·intro w'
       go_simp
       with_reducible rfl
      rotate_left
      ·simp only [Act.put, List.setIfInBounds_toArray, List.set_cons_zero, List.set_cons_succ, i64_w, i32_w]
       rfl
      refine pure_ (i := 6) (N := some 23) (v := ?_) (a' := ?_) #[true, true, true, false, true, true, true, false, false, false] rfl rfl (ql0 HT_.out (by kernel_rfl)) (fun _ _ _ h => h) (Or.inl ⟨by rfl, ?_⟩) ?_ ?_
      rotate_left
      ·intro w'
       go_simp
       with_reducible rfl
      rotate_left
      ·simp only [Act.put, List.setIfInBounds_toArray, List.set_cons_zero, List.set_cons_succ, i64_w, i32_w]
       rfl
      refine take_ (i := 3) (N := some 20) (v := ?_) (a' := ?_) #[true, true, true, true, true, true, true, false, false, false] rfl rfl (qg1 HT_.out HW_.out (by kernel_rfl)) (fun _ _ _ h => h) (Or.inl ⟨by rfl, ?_⟩) hHeld ?_ ?_
      rotate_left
      ·rintro w' ⟨s0, s1, s2, s3, s4, s5, s6, s7⟩
       go_simp
       with_reducible rfl
      rotate_left
      ·simp only [Act.put, List.setIfInBounds_toArray, List.set_cons_zero, List.set_cons_succ, i64_w, i32_w]
       rfl
      refine take_ (i := 7) (N := some 24) (v := ?_) (a' := ?_) #[true, true, true, true, true, true, true, true, false, false] rfl rfl (qg1 HT_.out HW_.out (by kernel_rfl)) (fun _ _ _ h => h) (Or.inl ⟨by rfl, ?_⟩) hHeld ?_ ?_
      rotate_left
      ·rintro w' ⟨s0, s1, s2, s3, s4, s5, s6, s7⟩
       go_simp
       with_reducible rfl
      rotate_left
      ·simp only [Act.put, List.setIfInBounds_toArray, List.set_cons_zero, List.set_cons_succ, i64_w, i32_w]
       rfl
      refine one_ (i := 8) (N := some 25) #[true, true, true, true, true, true, true, true, true, false] rfl rfl (one_of HT_.out (by kernel_rfl)) (by decide) (fun K hK => ?_)
      refine goes_ Try.func123 (by kernel_rfl) rfl #[.agg #[.int .i64 ((rd_T165 l0 x5_1).f0), .int .i64 ((rd_T165 l0 x5_1).f1), .int .i64 ((rd_T165 l0 x5_1).f2), .slice A236_3 ((rd_T165 l0 x5_1).f3).length c236_3], .agg #[.int .i64 ((rd_T165 l1 x5_1).f0), .int .i64 ((rd_T165 l1 x5_1).f1), .int .i64 ((rd_T165 l1 x5_1).f2), .slice A237_3 ((rd_T165 l1 x5_1).f3).length c237_3]] (by rfl) rfl rfl (by (try simp only [List.map_toArray, List.map_cons, List.map_nil]); first | done | rfl | (simp only [List.length_drop, List.length_take]; rfl)) ?_
      with_reducible refine (laws_eqJob.calls k1 ((rd_T165 l0 x5_1).f0) ((rd_T165 l0 x5_1).f1) ((rd_T165 l0 x5_1).f2) _ _ ((rd_T165 l0 x5_1).f3) ((rd_T165 l1 x5_1).f0) ((rd_T165 l1 x5_1).f1) ((rd_T165 l1 x5_1).f2) _ _ ((rd_T165 l1 x5_1).f3) true _ ?side1 ?side2 ?side3 ?side4 A7.out).mono ?_
      (case side1 => repeat (first | exact (Kd.qy0 HR236_3.out HB.out) | (with_reducible refine Kd.qs0 ?_ _) | (with_reducible refine Kd.qr0 ?_ _) | (with_reducible refine Kd.qv0 ?_)))
      (case side2 => exact HC236_3.out)
      (case side3 => repeat (first | exact (Kd.qy0 HR237_3.out HB.out) | (with_reducible refine Kd.qs0 ?_ _) | (with_reducible refine Kd.qr0 ?_ _) | (with_reducible refine Kd.qv0 ?_)))
      (case side4 => exact HC237_3.out)
      rintro e w10 ⟨rfl, hb⟩
      refine ⟨_, rfl, ?_⟩
      have n0_ := Aside0.mk (qj0 (by repeat (first | (with_reducible first | exact HB.out | apply qc0 | apply qa0 | apply qb0) | exact HB.out)) hb)
      clear HB
      have HB := n0_
      clear n0_
      (try clear hb)
      (try clear hb2)
      (try clear hk)
      (try clear hi)
      refine hK.out _ _ ⟨((HB.out.cell (World.block_lt_of_cell? w _ hw236_0)).trans hw236_0), ((HB.out.cell (World.block_lt_of_cell? w _ hw236_1)).trans hw236_1), ((HB.out.cell (World.block_lt_of_cell? w _ hw236_2)).trans hw236_2), ((HB.out.cell (World.block_lt_of_cell? w _ hw236_3)).trans hw236_3), ((HB.out.cell (World.block_lt_of_cell? w _ hw237_0)).trans hw237_0), ((HB.out.cell (World.block_lt_of_cell? w _ hw237_1)).trans hw237_1), ((HB.out.cell (World.block_lt_of_cell? w _ hw237_2)).trans hw237_2), ((HB.out.cell (World.block_lt_of_cell? w _ hw237_3)).trans hw237_3)⟩ (fun hHeld => ?_)
      clear hK K
      refine norm_ (a' := ?_) ?_ ?_
      rotate_left
      ·show Act.put _ (some 25) _ = _
       simp only [Act.put, List.setIfInBounds_toArray, List.set_cons_zero, List.set_cons_succ, i64_w, i32_w]
       rfl
      refine pure_ (i := 9) (N := some 26) (v := ?_) (a' := ?_) #[true, true, true, true, true, true, true, true, true, true] rfl rfl (ql0 HT_.out (by kernel_rfl)) (fun _ _ _ h => h) (Or.inl ⟨by rfl, ?_⟩) ?_ ?_
      rotate_left
      ·intro w'
       go_simp
       with_reducible rfl
      rotate_left
      ·simp only [Act.put, List.setIfInBounds_toArray, List.set_cons_zero, List.set_cons_succ, i64_w, i32_w]
       rfl
      refine done_ (done_of HT_.out (by kernel_rfl)) ?_
      try go_wp2
      go_roundg k1
      case measure => have := HK1.out; omega
      case rel => exact ⟨(wrap64 (x5_1 + 1)), (by first | rfl | (simp; done) | (simp [*]; done)), H', ⟨by have := HK1.out; omega⟩, ⟨by repeat (first | (with_reducible first | exact HB.out | apply qc0 | apply qa0 | apply qb0) | exact HB.out)⟩⟩
     replace c8 := Bool.eq_false_iff.mpr c8
     subst c8
     have H1 : (some false) = some r := by rw [if_neg (show ¬ (false = true) by decide)] at H; exact H
     clear H
     have H := H1
     clear H1
     obtain rfl := Option.some.inj H
     try go_wp2
     have n0_ := Aside0.mk (qb0 HB.out)
     clear HB
     have HB := n0_
     clear n0_
     have p236 : 0 ≤ (x5_1 : Int) := of_decide_eq_true (by first | (with_reducible assumption) | assumption)
     have q236 : x5_1 < (l0.length : Int) := of_decide_eq_true (by first | (with_reducible assumption) | assumption)
     obtain ⟨ad236, A236_3, c236_3, e236, hx236_0, hx236_1, hx236_2, hx236_3, hl236_3, hi236_3⟩ := at_T165 HR0.out x5_1 p236 q236
     have hw236_3 := hx236_3
     have hw236_2 := hx236_2
     have hw236_1 := hx236_1
     have hw236_0 := hx236_0
     cases e236
     replace hx236_0 := (HB.out.cell (World.block_lt_of_cell? w _ hx236_0)).trans hx236_0
     replace hx236_1 := (HB.out.cell (World.block_lt_of_cell? w _ hx236_1)).trans hx236_1
     replace hx236_2 := (HB.out.cell (World.block_lt_of_cell? w _ hx236_2)).trans hx236_2
     replace hx236_3 := (HB.out.cell (World.block_lt_of_cell? w _ hx236_3)).trans hx236_3
     have HR236_3 := Aside0.mk hi236_3
     have HC236_3 := Aside0.mk hl236_3
     clear hi236_3 hl236_3
     replace p236 := eq_true p236
     replace q236 := eq_true q236
     have p237 : 0 ≤ (x5_1 : Int) := of_decide_eq_true (by first | (with_reducible assumption) | assumption)
     have q237 : x5_1 < (l1.length : Int) := of_decide_eq_true (by first | (with_reducible assumption) | assumption)
     obtain ⟨ad237, A237_3, c237_3, e237, hx237_0, hx237_1, hx237_2, hx237_3, hl237_3, hi237_3⟩ := at_T165 HR1.out x5_1 p237 q237
     have hw237_3 := hx237_3
     have hw237_2 := hx237_2
     have hw237_1 := hx237_1
     have hw237_0 := hx237_0
     cases e237
     replace hx237_0 := (HB.out.cell (World.block_lt_of_cell? w _ hx237_0)).trans hx237_0
     replace hx237_1 := (HB.out.cell (World.block_lt_of_cell? w _ hx237_1)).trans hx237_1
     replace hx237_2 := (HB.out.cell (World.block_lt_of_cell? w _ hx237_2)).trans hx237_2
     replace hx237_3 := (HB.out.cell (World.block_lt_of_cell? w _ hx237_3)).trans hx237_3
     have HR237_3 := Aside0.mk hi237_3
     have HC237_3 := Aside0.mk hl237_3
     clear hi237_3 hl237_3
     replace p237 := eq_true p237
     replace q237 := eq_true q237
     refine start_ (n := 10) (S := fun w' => w'.cell? (ad236.add ((x5_1).toNat * 4)) = some (.int .i64 ((rd_T165 l0 x5_1).f0)) ∧ w'.cell? ⟨(ad236.add ((x5_1).toNat * 4)).block, (ad236.add ((x5_1).toNat * 4)).off + 1, none⟩ = some (.int .i64 ((rd_T165 l0 x5_1).f1)) ∧ w'.cell? ⟨(ad236.add ((x5_1).toNat * 4)).block, (ad236.add ((x5_1).toNat * 4)).off + 2, none⟩ = some (.int .i64 ((rd_T165 l0 x5_1).f2)) ∧ w'.cell? ⟨(ad236.add ((x5_1).toNat * 4)).block, (ad236.add ((x5_1).toNat * 4)).off + 3, none⟩ = some (.slice A236_3 ((rd_T165 l0 x5_1).f3).length c236_3) ∧ w'.cell? (ad237.add ((x5_1).toNat * 4)) = some (.int .i64 ((rd_T165 l1 x5_1).f0)) ∧ w'.cell? ⟨(ad237.add ((x5_1).toNat * 4)).block, (ad237.add ((x5_1).toNat * 4)).off + 1, none⟩ = some (.int .i64 ((rd_T165 l1 x5_1).f1)) ∧ w'.cell? ⟨(ad237.add ((x5_1).toNat * 4)).block, (ad237.add ((x5_1).toNat * 4)).off + 2, none⟩ = some (.int .i64 ((rd_T165 l1 x5_1).f2)) ∧ w'.cell? ⟨(ad237.add ((x5_1).toNat * 4)).block, (ad237.add ((x5_1).toNat * 4)).off + 3, none⟩ = some (.slice A237_3 ((rd_T165 l1 x5_1).f3).length c237_3)) (ds := []) #[false, false, false, false, false, false, false, false, false, false] (by kernel_rfl) rfl rfl ⟨((HB.out.cell (World.block_lt_of_cell? w _ hw236_0)).trans hw236_0), ((HB.out.cell (World.block_lt_of_cell? w _ hw236_1)).trans hw236_1), ((HB.out.cell (World.block_lt_of_cell? w _ hw236_2)).trans hw236_2), ((HB.out.cell (World.block_lt_of_cell? w _ hw236_3)).trans hw236_3), ((HB.out.cell (World.block_lt_of_cell? w _ hw237_0)).trans hw237_0), ((HB.out.cell (World.block_lt_of_cell? w _ hw237_1)).trans hw237_1), ((HB.out.cell (World.block_lt_of_cell? w _ hw237_2)).trans hw237_2), ((HB.out.cell (World.block_lt_of_cell? w _ hw237_3)).trans hw237_3)⟩ (fun hHeld => ?_); refine with_tabW laws_eqJobS.tab6 laws_eqJobS.bits6 (fun HT_ HW_ => ?_)
     generalize wr.drew = w11 at HB HR236_3 HR237_3 hx236_0 hx236_1 hx236_2 hx236_3 hx237_0 hx237_1 hx237_2 hx237_3 hHeld ⊢
     refine pure_ (i := 0) (N := some 17) (v := ?_) (a' := ?_) #[true, false, false, false, false, false, false, false, false, false] rfl rfl (ql0 HT_.out (by kernel_rfl)) (fun _ _ _ h => h) (Or.inl ⟨by rfl, ?_⟩) ?_ ?_
     rotate_left
     ·intro w'
      go_simp
      with_reducible rfl
     rotate_left
     ·simp only [Act.put, List.setIfInBounds_toArray, List.set_cons_zero, List.set_cons_succ, i64_w, i32_w]
      rfl
     refine pure_ (i := 1) (N := some 18) (v := ?_) (a' := ?_) #[true, true, false, false, false, false, false, false, false, false] rfl rfl (ql0 HT_.out (by kernel_rfl)) (fun _ _ _ h => h) (Or.inl ⟨by rfl, ?_⟩) ?_ ?_
     rotate_left
     ·intro w'
      go_simp
      with_reducible rfl
     rotate_left
     ·simp only [Act.put, List.setIfInBounds_toArray, List.set_cons_zero, List.set_cons_succ, i64_w, i32_w]
      rfl
     refine pure_ (i := 2) (N := some 19) (v := ?_) (a' := ?_) #[true, true, true, false, false, false, false, false, false, false] rfl rfl (ql0 HT_.out (by kernel_rfl)) (fun _ _ _ h => h) (Or.inl ⟨by rfl, ?_⟩) ?_ ?_
     rotate_left
     ·intro w'
      go_simp
      with_reducible rfl
     rotate_left
     ·simp only [Act.put, List.setIfInBounds_toArray, List.set_cons_zero, List.set_cons_succ, i64_w, i32_w]
      rfl
     refine pure_ (i := 4) (N := some 21) (v := ?_) (a' := ?_) #[true, true, true, false, true, false, false, false, false, false] rfl rfl (ql0 HT_.out (by kernel_rfl)) (fun _ _ _ h => h) (Or.inl ⟨by rfl, ?_⟩) ?_ ?_
     rotate_left
     ·intro w'
      go_simp
      with_reducible rfl
     rotate_left
     ·simp only [Act.put, List.setIfInBounds_toArray, List.set_cons_zero, List.set_cons_succ, i64_w, i32_w]
      rfl
     refine pure_ (i := 5) (N := some 22) (v := ?_) (a' := ?_) #[true, true, true, false, true, true, false, false, false, false] rfl rfl (ql0 HT_.out (by kernel_rfl)) (fun _ _ _ h => h) (Or.inl ⟨by rfl, ?_⟩) ?_ ?_
     rotate_left
     ·intro w'
      go_simp
      with_reducible rfl
     rotate_left
     ·simp only [Act.put, List.setIfInBounds_toArray, List.set_cons_zero, List.set_cons_succ, i64_w, i32_w]
      rfl
     refine pure_ (i := 6) (N := some 23) (v := ?_) (a' := ?_) #[true, true, true, false, true, true, true, false, false, false] rfl rfl (ql0 HT_.out (by kernel_rfl)) (fun _ _ _ h => h) (Or.inl ⟨by rfl, ?_⟩) ?_ ?_
     rotate_left
     ·intro w'
      go_simp
      with_reducible rfl
     rotate_left
     ·simp only [Act.put, List.setIfInBounds_toArray, List.set_cons_zero, List.set_cons_succ, i64_w, i32_w]
      rfl
     refine take_ (i := 3) (N := some 20) (v := ?_) (a' := ?_) #[true, true, true, true, true, true, true, false, false, false] rfl rfl (qg1 HT_.out HW_.out (by kernel_rfl)) (fun _ _ _ h => h) (Or.inl ⟨by rfl, ?_⟩) hHeld ?_ ?_
     rotate_left
     ·rintro w' ⟨s0, s1, s2, s3, s4, s5, s6, s7⟩
      go_simp
      with_reducible rfl
     rotate_left
     ·simp only [Act.put, List.setIfInBounds_toArray, List.set_cons_zero, List.set_cons_succ, i64_w, i32_w]
      rfl
     refine take_ (i := 7) (N := some 24) (v := ?_) (a' := ?_) #[true, true, true, true, true, true, true, true, false, false] rfl rfl (qg1 HT_.out HW_.out (by kernel_rfl)) (fun _ _ _ h => h) (Or.inl ⟨by rfl, ?_⟩) hHeld ?_ ?_
     rotate_left
     ·rintro w' ⟨s0, s1, s2, s3, s4, s5, s6, s7⟩
      go_simp
      with_reducible rfl
     rotate_left
     ·simp only [Act.put, List.setIfInBounds_toArray, List.set_cons_zero, List.set_cons_succ, i64_w, i32_w]
      rfl
     refine one_ (i := 8) (N := some 25) #[true, true, true, true, true, true, true, true, true, false] rfl rfl (one_of HT_.out (by kernel_rfl)) (by decide) (fun K hK => ?_)
     refine goes_ Try.func123 (by kernel_rfl) rfl #[.agg #[.int .i64 ((rd_T165 l0 x5_1).f0), .int .i64 ((rd_T165 l0 x5_1).f1), .int .i64 ((rd_T165 l0 x5_1).f2), .slice A236_3 ((rd_T165 l0 x5_1).f3).length c236_3], .agg #[.int .i64 ((rd_T165 l1 x5_1).f0), .int .i64 ((rd_T165 l1 x5_1).f1), .int .i64 ((rd_T165 l1 x5_1).f2), .slice A237_3 ((rd_T165 l1 x5_1).f3).length c237_3]] (by rfl) rfl rfl (by (try simp only [List.map_toArray, List.map_cons, List.map_nil]); first | done | rfl | (simp only [List.length_drop, List.length_take]; rfl)) ?_
     with_reducible refine (laws_eqJob.calls k1 ((rd_T165 l0 x5_1).f0) ((rd_T165 l0 x5_1).f1) ((rd_T165 l0 x5_1).f2) _ _ ((rd_T165 l0 x5_1).f3) ((rd_T165 l1 x5_1).f0) ((rd_T165 l1 x5_1).f1) ((rd_T165 l1 x5_1).f2) _ _ ((rd_T165 l1 x5_1).f3) false _ ?side1 ?side2 ?side3 ?side4 A7.out).mono ?_
     (case side1 => repeat (first | exact (Kd.qy0 HR236_3.out HB.out) | (with_reducible refine Kd.qs0 ?_ _) | (with_reducible refine Kd.qr0 ?_ _) | (with_reducible refine Kd.qv0 ?_)))
     (case side2 => exact HC236_3.out)
     (case side3 => repeat (first | exact (Kd.qy0 HR237_3.out HB.out) | (with_reducible refine Kd.qs0 ?_ _) | (with_reducible refine Kd.qr0 ?_ _) | (with_reducible refine Kd.qv0 ?_)))
     (case side4 => exact HC237_3.out)
     rintro e w12 ⟨rfl, hb⟩
     refine ⟨_, rfl, ?_⟩
     have n0_ := Aside0.mk (qj0 (by repeat (first | (with_reducible first | exact HB.out | apply qc0 | apply qa0 | apply qb0) | exact HB.out)) hb)
     clear HB
     have HB := n0_
     clear n0_
     (try clear hb)
     (try clear hb2)
     (try clear hk)
     (try clear hi)
     refine hK.out _ _ ⟨((HB.out.cell (World.block_lt_of_cell? w _ hw236_0)).trans hw236_0), ((HB.out.cell (World.block_lt_of_cell? w _ hw236_1)).trans hw236_1), ((HB.out.cell (World.block_lt_of_cell? w _ hw236_2)).trans hw236_2), ((HB.out.cell (World.block_lt_of_cell? w _ hw236_3)).trans hw236_3), ((HB.out.cell (World.block_lt_of_cell? w _ hw237_0)).trans hw237_0), ((HB.out.cell (World.block_lt_of_cell? w _ hw237_1)).trans hw237_1), ((HB.out.cell (World.block_lt_of_cell? w _ hw237_2)).trans hw237_2), ((HB.out.cell (World.block_lt_of_cell? w _ hw237_3)).trans hw237_3)⟩ (fun hHeld => ?_)
     clear hK K
     refine norm_ (a' := ?_) ?_ ?_
     rotate_left
     ·show Act.put _ (some 25) _ = _
      simp only [Act.put, List.setIfInBounds_toArray, List.set_cons_zero, List.set_cons_succ, i64_w, i32_w]
      rfl
     refine pure_ (i := 9) (N := some 26) (v := ?_) (a' := ?_) #[true, true, true, true, true, true, true, true, true, true] rfl rfl (ql0 HT_.out (by kernel_rfl)) (fun _ _ _ h => h) (Or.inl ⟨by rfl, ?_⟩) ?_ ?_
     rotate_left
     ·intro w'
      go_simp
      with_reducible rfl
     rotate_left
     ·simp only [Act.put, List.setIfInBounds_toArray, List.set_cons_zero, List.set_cons_succ, i64_w, i32_w]
      rfl
     refine done_ (done_of HT_.out (by kernel_rfl)) ?_
     try go_wp2
     go_ret
     exact ⟨by first | rfl | (simp [errW_none, errW_some] <;> rfl) | (simp [*, errW_none, errW_some] <;> rfl), by repeat (first | (with_reducible first | exact HB.out | apply qc0 | apply qa0 | apply qb0) | exact HB.out)⟩
    rw [if_neg c4] at H
    have c4b0 : decide (x5_1 < (l0.length : Int)) = false := decide_eq_false c4
    clear c4
    obtain rfl := Option.some.inj H
    go_wp2
    go_ret
    exact ⟨by first | rfl | (simp [errW_none, errW_some] <;> rfl) | (simp [*, errW_none, errW_some] <;> rfl), by repeat (first | (with_reducible first | exact HB.out | apply qc0 | apply qa0 | apply qb0) | exact HB.out)⟩
 rw [if_neg c3] at H
 have c3b0 : ((l0.length : Int) == (l1.length : Int)) = false := beq_eq_false_iff_ne.mpr c3
 have c3b1 : ((l0.length : Int) != (l1.length : Int)) = true := bne_iff_ne.mpr c3
 have c3b2 : (l0.length == l1.length) = false := by first | simpa using c3 | (simp at c3 ⊢; omega)
 obtain rfl := Option.some.inj H
 go_enter Try.func55, Try.ntmps55
 go_wp2
 go_ret
 exact ⟨by first | rfl | (simp [errW_none, errW_some] <;> rfl) | (simp [*, errW_none, errW_some] <;> rfl), by repeat (first | (with_reducible first | exact HB.out | apply qc0 | apply qa0 | apply qb0) | exact HB.out)⟩

/-! ### laws_markTaskS: function 124 -/
def laws_markTaskS.l0 : Nat → List (S230) → Int → Int → Option (Int × (List (S230)))
 | 0, _, _, _ => none
 | k + 1, x0, x1, x5 => if x5 < (x0.length : Int) then (if 0 ≤ x5 then ((some (x0.set (x5 : Int).toNat (⟨x1, (rd_T230 x0 x5).f1, (rd_T230 x0 x5).f2⟩ : S230) : List (S230))).bind fun y239 => ((some (y239.set (x5 : Int).toNat (⟨(rd_T230 y239 x5).f0, wrap64 (x1 + 1), (rd_T230 y239 x5).f2⟩ : S230) : List (S230))).bind fun y240 => (laws_markTaskS.l0 k (y240.set (x5 : Int).toNat (⟨(rd_T230 y240 x5).f0, (rd_T230 y240 x5).f1, wrap64 ((wrap64 (x1 + 1)) + 1)⟩ : S230)) (wrap64 ((wrap64 ((wrap64 (x1 + 1)) + 1)) + 1)) (wrap64 (x5 + 1))))) else (none)) else (some (x1, x0))
def laws_markTaskS.f (k : Nat) (l0 : List (S230)) (a1 : Int) : Option (Int × (List (S230))) := laws_markTaskS.l0 k l0 a1 0
theorem laws_markTaskS.mono_l : ∀ k, (∀ y0 y1 y2, LeO (laws_markTaskS.l0 k y0 y1 y2) (laws_markTaskS.l0 (k + 1) y0 y1 y2))
 | 0 => fun _ _ _ r h => by simp [laws_markTaskS.l0] at h
 | k + 1 => by
  have ih0 := laws_markTaskS.mono_l k
  ·intro y0 y1 y2
   unfold laws_markTaskS.l0
   repeat' first
   | (with_reducible exact ih0 _ _ _)
   | (with_reducible exact LeO.refl _)
   | (with_reducible exact LeO.none _)
   | (with_reducible refine LeO.ite ?_ ?_)
   | (with_reducible refine LeO.bind ?_ (fun _ => ?_))
   | exact ih0 _ _ _
   | exact LeO.none _
   | refine LeO.ite ?_ ?_
   | refine LeO.bind ?_ (fun _ => ?_)
theorem laws_markTaskS.mono : ∀ a0 a1 k, LeO (laws_markTaskS.f k a0 a1) (laws_markTaskS.f (k + 1) a0 a1) := by
 intro a0 a1 k
 have ih0 := laws_markTaskS.mono_l k
 unfold laws_markTaskS.f
 repeat' first
   | (with_reducible exact ih0 _ _ _)
   | (with_reducible exact LeO.refl _)
   | (with_reducible exact LeO.none _)
   | (with_reducible refine LeO.ite ?_ ?_)
   | (with_reducible refine LeO.bind ?_ (fun _ => ?_))
   | exact ih0 _ _ _
   | exact LeO.none _
   | refine LeO.ite ?_ ?_
   | refine LeO.bind ?_ (fun _ => ?_)
set_option maxHeartbeats 8000000 in
set_option maxRecDepth 100000 in
theorem laws_markTaskS.calls (k : Nat) (P0_ : Nat → Prop) (u9000_ : Value) (l0 : List (S230)) (a1 : Int) (r1 : Int) (r2 : List (S230)) (w0 w : World) (hB : Below w0.heap.size w0 w) (ho0 : Kd.R k230 230 w w0.heap.size P0_ u9000_ l0) (h : laws_markTaskS.f k l0 a1 = some (r1, r2)) :
  Calls Try.prog 124 #[u9000_, .int .i64 a1] w fun e w' => e = .returned (.int .i64 r1) ∧ Kd.R k230 230 w' w0.heap.size (fun k_ => (P0_ k_ ∨ w.heap.size ≤ k_)) u9000_ r2 ∧ Below w0.heap.size w0 w' ∧ Kept w w' (fun k_ => P0_ k_) := by
 have HO0 := Aside0.mk (show Kd.R k230 230 w w0.heap.size (fun k_ => (P0_ k_ ∨ w.heap.size ≤ k_)) u9000_ l0 from Kd.qa1 ho0 (fun k_ hk => (.inl hk)))
 have HK := Aside0.mk (Kept.refl w (fun k_ => P0_ k_))
 have HW0 := Aside0.mk hB.size
 have HB := Aside0.mk hB
 clear hB
 have H : (laws_markTaskS.l0 k l0 a1 0) = some (r1, r2) := h
 clear h
 have H' := Aside0.mk H
 clear H
 go_enter Try.func124, Try.ntmps124
 go_wp2
 go_loopg [1, 5] k (fun kq v1 v5 w' => ∃ (x0_1 : List (S230)) (x1_1 : Int) (x5_1 : Int), v1 = .int .i64 x1_1 ∧ v5 = .int .i64 x5_1 ∧ Aside0 (laws_markTaskS.l0 kq x0_1 x1_1 x5_1 = some (r1, r2)) ∧ Aside0 (kq ≤ k) ∧ Aside0 (Kd.R k230 230 w' w0.heap.size (fun k_ => (P0_ k_ ∨ w.heap.size ≤ k_)) u9000_ x0_1) ∧ Aside0 (Kept w w' (fun k_ => P0_ k_)) ∧ Aside0 (Below w0.heap.size w0 w'))
 case atStart => exact ⟨(l0), (a1), (0), (by first | rfl | (simp; done) | (simp [*]; done)), (by first | rfl | (simp; done) | (simp [*]; done)), H', ⟨Nat.le_refl _⟩, ⟨by (with_reducible repeat (first | apply Kd.qp0 | apply Kd.qo0 | apply Kd.qq0)); exact HO0.out⟩, ⟨by repeat (first | (with_reducible first | exact HK.out | apply Kept.alloc | apply Kept.drewN | apply Kept.drew) | exact HK.out)⟩, ⟨by repeat (first | (with_reducible first | exact HB.out | apply qc0 | apply qa0 | apply qb0) | exact HB.out)⟩⟩
 case round =>
  clear H'
  try clear c1
  try clear p2
  obtain ⟨x0_1, x1_1, x5_1, rfl, rfl, HA, HK1, HO_0, HK, HB⟩ := hrel
  cases gk with
  | zero => exact absurd HA.out (by simp [laws_markTaskS.l0])
  | succ k1 =>
   have H := HA.out
   clear HA
   simp only [laws_markTaskS.l0] at H
   by_cases c3 : x5_1 < (x0_1.length : Int)
   ·rw [if_pos c3] at H
    have c3b0 : decide (x5_1 < (x0_1.length : Int)) = true := decide_eq_true c3
    clear c3
    by_cases c4 : 0 ≤ x5_1
    case neg => rw [if_neg c4] at H; exact absurd H (by simp)
    rw [if_pos c4] at H
    have c4b0 : decide (0 ≤ x5_1) = true := decide_eq_true c4
    clear c4
    obtain ⟨y239, hy239⟩ : ∃ y_ : List (S230), y_ = (x0_1.set (x5_1 : Int).toNat (⟨x1_1, (rd_T230 x0_1 x5_1).f1, (rd_T230 x0_1 x5_1).f2⟩ : S230)) := ⟨_, rfl⟩
    replace H : ((some (y239.set (x5_1 : Int).toNat (⟨(rd_T230 y239 x5_1).f0, wrap64 (x1_1 + 1), (rd_T230 y239 x5_1).f2⟩ : S230) : List (S230))).bind fun y240 => (laws_markTaskS.l0 k1 (y240.set (x5_1 : Int).toNat (⟨(rd_T230 y240 x5_1).f0, (rd_T230 y240 x5_1).f1, wrap64 ((wrap64 (x1_1 + 1)) + 1)⟩ : S230)) (wrap64 ((wrap64 ((wrap64 (x1_1 + 1)) + 1)) + 1)) (wrap64 (x5_1 + 1)))) = some (r1, r2) := by first | (rw [hy239]; with_reducible exact H) | (have H2_ := (Option.bind_some _ _).symm.trans H; rw [hy239]; with_reducible exact H2_) | (have H2_ := (Option.bind_some _ _).symm.trans H; with_reducible exact H2_) | with_reducible exact H | (rw [hy239]; exact H) | exact H
    have Ny239 := Aside0.mk hy239
    clear hy239
    obtain ⟨y240, hy240⟩ : ∃ y_ : List (S230), y_ = (y239.set (x5_1 : Int).toNat (⟨(rd_T230 y239 x5_1).f0, wrap64 (x1_1 + 1), (rd_T230 y239 x5_1).f2⟩ : S230)) := ⟨_, rfl⟩
    replace H : (laws_markTaskS.l0 k1 (y240.set (x5_1 : Int).toNat (⟨(rd_T230 y240 x5_1).f0, (rd_T230 y240 x5_1).f1, wrap64 ((wrap64 (x1_1 + 1)) + 1)⟩ : S230)) (wrap64 ((wrap64 ((wrap64 (x1_1 + 1)) + 1)) + 1)) (wrap64 (x5_1 + 1))) = some (r1, r2) := by first | (rw [hy240]; with_reducible exact H) | (have H2_ := (Option.bind_some _ _).symm.trans H; rw [hy240]; with_reducible exact H2_) | (have H2_ := (Option.bind_some _ _).symm.trans H; with_reducible exact H2_) | with_reducible exact H | (rw [hy240]; exact H) | exact H
    have Ny240 := Aside0.mk hy240
    clear hy240
    obtain ⟨y241, hy241⟩ : ∃ y_ : List (S230), y_ = (y240.set (x5_1 : Int).toNat (⟨(rd_T230 y240 x5_1).f0, (rd_T230 y240 x5_1).f1, wrap64 ((wrap64 (x1_1 + 1)) + 1)⟩ : S230)) := ⟨_, rfl⟩
    replace H : (laws_markTaskS.l0 k1 y241 (wrap64 ((wrap64 ((wrap64 (x1_1 + 1)) + 1)) + 1)) (wrap64 (x5_1 + 1))) = some (r1, r2) := by first | (rw [hy241]; with_reducible exact H) | (have H2_ := (Option.bind_some _ _).symm.trans H; rw [hy241]; with_reducible exact H2_) | (have H2_ := (Option.bind_some _ _).symm.trans H; with_reducible exact H2_) | with_reducible exact H | (rw [hy241]; exact H) | exact H
    have Ny241 := Aside0.mk hy241
    clear hy241
    have H' := Aside0.mk H
    clear H
    obtain ⟨Ao8, co8, eo8⟩ := Kd.ql1 HO_0.out
    subst eo8
    have p5 : 0 ≤ (x5_1 : Int) := of_decide_eq_true (by first | (with_reducible assumption) | assumption)
    have q5 : (x5_1 : Int) < ((x0_1.length : Int) : Int) := of_decide_eq_true (by first | (with_reducible assumption) | assumption)
    obtain ⟨go5, co5, eo5, gb5, gl5, cl5, HG5⟩ := Kd.R_form HO_0.out (by omega)
    (first | cases eo5 | (injection eo5 with ea_ en_ ec_; (first | subst ea_ | (injection ea_ with ea_; subst ea_)); subst ec_; clear en_))
    have GB5 := Aside0.mk gb5
    have GG5 := Aside0.mk HG5
    clear gb5 gl5 HG5
    have HMgo5 := Aside0.mk (show (P0_ go5 ∨ w.heap.size ≤ go5) from (HO_0.out.1 _ rfl))
    obtain ⟨ce5, hcl5, hM5, hcc5, hfr5⟩ := Kd.R_elem HO_0.out z230 (x5_1 : Int) p5 q5
    obtain rfl := k230_openM hM5
    have hx5_0 : wr.cell? ⟨go5, (x5_1 : Int).toNat * 3, none⟩ = some (.int .i64 ((rd_T230 x0_1 x5_1).f0)) := hcc5 0 _ rfl
    have hx5_1 : wr.cell? ⟨go5, (x5_1 : Int).toNat * 3 + 1, none⟩ = some (.int .i64 ((rd_T230 x0_1 x5_1).f1)) := hcc5 1 _ rfl
    have hx5_2 : wr.cell? ⟨go5, (x5_1 : Int).toNat * 3 + 2, none⟩ = some (.int .i64 ((rd_T230 x0_1 x5_1).f2)) := hcc5 2 _ rfl
    have hf5_0 : wr.frozen? ⟨go5, (x5_1 : Int).toNat * 3, none⟩ = false := hfr5 0
    have hf5_1 : wr.frozen? ⟨go5, (x5_1 : Int).toNat * 3 + 1, none⟩ = false := hfr5 1
    have hf5_2 : wr.frozen? ⟨go5, (x5_1 : Int).toNat * 3 + 2, none⟩ = false := hfr5 2
    clear hcl5 hcc5 hfr5 hM5
    replace p5 := eq_true p5
    replace q5 := eq_true q5
    have HX9 := Aside0.mk (show Kd.R k230 230 wr w0.heap.size (fun k_ => (P0_ k_ ∨ w.heap.size ≤ k_)) (.slice (some ⟨go5, 0, none⟩) x0_1.length co8) x0_1 from (by (with_reducible repeat (first | apply Kd.qp0 | apply Kd.qo0 | apply Kd.qq0)); exact HO_0.out))
    obtain ⟨ce9, hcl9, hM9, hcc9, hfr9⟩ := Kd.R_elem HX9.out z230 (x5_1 : Int) (of_decide_eq_true (by first | (with_reducible assumption) | assumption)) (by have h_ : (x5_1 : Int) < ((x0_1.length : Int) : Int) := of_decide_eq_true (by first | (with_reducible assumption) | assumption); first | exact h_ | (have e_ := (Kd.qn0 HO_0.out).1; omega) | simpa using h_)
    obtain rfl := k230_openM hM9
    have HP9 := Kd.R_seg HX9.out (x5_1 : Int) (of_decide_eq_true (by first | (with_reducible assumption) | assumption)) (by have h_ : (x5_1 : Int) < ((x0_1.length : Int) : Int) := of_decide_eq_true (by first | (with_reducible assumption) | assumption); first | exact h_ | (have e_ := (Kd.qn0 HO_0.out).1; omega) | simpa using h_) (seg := [.int .i64 x1_1]) (j := 0) hcl9 hcc9 (show 1 ≤ 3 from by decide) (x' := (⟨x1_1, (rd_T230 x0_1 x5_1).f1, (rd_T230 x0_1 x5_1).f2⟩ : S230)) (k230_mkM _ _ _ (⟨x1_1, (rd_T230 x0_1 x5_1).f1, (rd_T230 x0_1 x5_1).f2⟩ : S230) ) (fun _ hk => hk)
    have hx9_0 := hcc9 0 _ rfl
    (try simp only [show (k230).sz = 3 from rfl, Nat.mul_one, Nat.add_zero] at hx9_0)
    have hf9_0 := hfr9 0
    (try simp only [show (k230).sz = 3 from rfl, Nat.mul_one, Nat.add_zero] at hf9_0)
    clear hcl9 hcc9 hfr9 hM9
    go_wp2_with (first | ((with_reducible refine gate_store (t := 3) (p := 16) rfl ?_); refine store_event (t := 3) (p := 16) (v := ?vo_w10) (w1 := (wr.setCell ⟨go5, (x5_1 : Int).toNat * 3, none⟩ (.int .i64 x1_1))) ?hg ?ho ?hn ?hr ?_; (case ho => rfl); (case hg => rfl); (case hn => rfl); (case hr => first | (go_simp; done) | (go_simp; rfl)); intro w10 hw; have hg : wr.grownBy w10 (some go5) := (by rw [hw]; exact HP9.2); have hp_ : Kd.R k230 230 w10 w0.heap.size (fun k_ => (P0_ k_ ∨ w.heap.size ≤ k_)) (.slice (some ⟨go5, 0, none⟩) x0_1.length co8) y239 := (by rw [hw, Ny239.out]; exact HP9.1); clear HP9; have n0_ := Aside0.mk (hp_); have n1_ := Aside0.mk ((by rw [hw]; exact qf0 (HB.out) GB5.out : Below w0.heap.size w0 w10)); have n2_ := Aside0.mk (Kept.of_grown (S := (fun k_ => P0_ k_)) hg (by repeat (first | (with_reducible first | exact HK.out | apply Kept.alloc | apply Kept.drewN | apply Kept.drew) | exact HK.out)) (fun k_ e_ => (HO_0.out.1 k_ e_))); clear HO_0; clear HB; clear HK; have HO_0 := n0_; have HB := n1_; have HK := n2_; clear n0_ n1_ n2_; clear hg hw hp_; have p6 : 0 ≤ (x5_1 : Int) := of_decide_eq_true (by first | (with_reducible assumption) | assumption); have q6 : (x5_1 : Int) < ((x0_1.length : Int) : Int) := of_decide_eq_true (by first | (with_reducible assumption) | assumption); obtain ⟨ce6, hcl6, hM6, hcc6, hfr6⟩ := Kd.R_elem HO_0.out z230 (x5_1 : Int) p6 q6; obtain rfl := k230_openM hM6; have hx6_0 : w10.cell? ⟨go5, (x5_1 : Int).toNat * 3, none⟩ = some (.int .i64 ((rd_T230 y239 x5_1).f0)) := hcc6 0 _ rfl; have hx6_1 : w10.cell? ⟨go5, (x5_1 : Int).toNat * 3 + 1, none⟩ = some (.int .i64 ((rd_T230 y239 x5_1).f1)) := hcc6 1 _ rfl; have hx6_2 : w10.cell? ⟨go5, (x5_1 : Int).toNat * 3 + 2, none⟩ = some (.int .i64 ((rd_T230 y239 x5_1).f2)) := hcc6 2 _ rfl; have hf6_0 : w10.frozen? ⟨go5, (x5_1 : Int).toNat * 3, none⟩ = false := hfr6 0; have hf6_1 : w10.frozen? ⟨go5, (x5_1 : Int).toNat * 3 + 1, none⟩ = false := hfr6 1; have hf6_2 : w10.frozen? ⟨go5, (x5_1 : Int).toNat * 3 + 2, none⟩ = false := hfr6 2; clear hcl6 hcc6 hfr6 hM6; replace p6 := eq_true p6; replace q6 := eq_true q6; have HX11 := Aside0.mk (show Kd.R k230 230 w10 w0.heap.size (fun k_ => (P0_ k_ ∨ w.heap.size ≤ k_)) (.slice (some ⟨go5, 0, none⟩) x0_1.length co8) y239 from (by (with_reducible repeat (first | apply Kd.qp0 | apply Kd.qo0 | apply Kd.qq0)); exact HO_0.out)); obtain ⟨ce11, hcl11, hM11, hcc11, hfr11⟩ := Kd.R_elem HX11.out z230 (x5_1 : Int) (of_decide_eq_true (by first | (with_reducible assumption) | assumption)) (by have h_ : (x5_1 : Int) < ((x0_1.length : Int) : Int) := of_decide_eq_true (by first | (with_reducible assumption) | assumption); first | exact h_ | (have e_ := (Kd.qn0 HO_0.out).1; omega) | simpa using h_); obtain rfl := k230_openM hM11; have HP11 := Kd.R_seg HX11.out (x5_1 : Int) (of_decide_eq_true (by first | (with_reducible assumption) | assumption)) (by have h_ : (x5_1 : Int) < ((x0_1.length : Int) : Int) := of_decide_eq_true (by first | (with_reducible assumption) | assumption); first | exact h_ | (have e_ := (Kd.qn0 HO_0.out).1; omega) | simpa using h_) (seg := [.int .i64 (wrap64 (x1_1 + 1))]) (j := 1) hcl11 hcc11 (show 2 ≤ 3 from by decide) (x' := (⟨(rd_T230 y239 x5_1).f0, wrap64 (x1_1 + 1), (rd_T230 y239 x5_1).f2⟩ : S230)) (k230_mkM _ _ _ (⟨(rd_T230 y239 x5_1).f0, wrap64 (x1_1 + 1), (rd_T230 y239 x5_1).f2⟩ : S230) ) (fun _ hk => hk); have hx11_1 := hcc11 1 _ rfl; (try simp only [show (k230).sz = 3 from rfl, Nat.mul_one, Nat.add_zero] at hx11_1); have hf11_1 := hfr11 1; (try simp only [show (k230).sz = 3 from rfl, Nat.mul_one, Nat.add_zero] at hf11_1); clear hcl11 hcc11 hfr11 hM11) | ((with_reducible refine gate_store (t := 3) (p := 23) rfl ?_); refine store_event (t := 3) (p := 23) (v := ?vo_w12) (w1 := (w10.setCell ⟨go5, (x5_1 : Int).toNat * 3 + 1, none⟩ (.int .i64 (wrap64 (x1_1 + 1))))) ?hg ?ho ?hn ?hr ?_; (case ho => rfl); (case hg => rfl); (case hn => rfl); (case hr => first | (go_simp; done) | (go_simp; rfl)); intro w12 hw; have hg : w10.grownBy w12 (some go5) := (by rw [hw]; exact HP11.2); have hp_ : Kd.R k230 230 w12 w0.heap.size (fun k_ => (P0_ k_ ∨ w.heap.size ≤ k_)) (.slice (some ⟨go5, 0, none⟩) x0_1.length co8) y240 := (by rw [hw, Ny240.out]; exact HP11.1); clear HP11; have n0_ := Aside0.mk (hp_); have n1_ := Aside0.mk ((by rw [hw]; exact qf0 (HB.out) GB5.out : Below w0.heap.size w0 w12)); have n2_ := Aside0.mk (Kept.of_grown (S := (fun k_ => P0_ k_)) hg (by repeat (first | (with_reducible first | exact HK.out | apply Kept.alloc | apply Kept.drewN | apply Kept.drew) | exact HK.out)) (fun k_ e_ => (HO_0.out.1 k_ e_))); clear HO_0; clear HB; clear HK; have HO_0 := n0_; have HB := n1_; have HK := n2_; clear n0_ n1_ n2_; clear hg hw hp_; have p7 : 0 ≤ (x5_1 : Int) := of_decide_eq_true (by first | (with_reducible assumption) | assumption); have q7 : (x5_1 : Int) < ((x0_1.length : Int) : Int) := of_decide_eq_true (by first | (with_reducible assumption) | assumption); obtain ⟨ce7, hcl7, hM7, hcc7, hfr7⟩ := Kd.R_elem HO_0.out z230 (x5_1 : Int) p7 q7; obtain rfl := k230_openM hM7; have hx7_0 : w12.cell? ⟨go5, (x5_1 : Int).toNat * 3, none⟩ = some (.int .i64 ((rd_T230 y240 x5_1).f0)) := hcc7 0 _ rfl; have hx7_1 : w12.cell? ⟨go5, (x5_1 : Int).toNat * 3 + 1, none⟩ = some (.int .i64 ((rd_T230 y240 x5_1).f1)) := hcc7 1 _ rfl; have hx7_2 : w12.cell? ⟨go5, (x5_1 : Int).toNat * 3 + 2, none⟩ = some (.int .i64 ((rd_T230 y240 x5_1).f2)) := hcc7 2 _ rfl; have hf7_0 : w12.frozen? ⟨go5, (x5_1 : Int).toNat * 3, none⟩ = false := hfr7 0; have hf7_1 : w12.frozen? ⟨go5, (x5_1 : Int).toNat * 3 + 1, none⟩ = false := hfr7 1; have hf7_2 : w12.frozen? ⟨go5, (x5_1 : Int).toNat * 3 + 2, none⟩ = false := hfr7 2; clear hcl7 hcc7 hfr7 hM7; replace p7 := eq_true p7; replace q7 := eq_true q7; have HX13 := Aside0.mk (show Kd.R k230 230 w12 w0.heap.size (fun k_ => (P0_ k_ ∨ w.heap.size ≤ k_)) (.slice (some ⟨go5, 0, none⟩) x0_1.length co8) y240 from (by (with_reducible repeat (first | apply Kd.qp0 | apply Kd.qo0 | apply Kd.qq0)); exact HO_0.out)); obtain ⟨ce13, hcl13, hM13, hcc13, hfr13⟩ := Kd.R_elem HX13.out z230 (x5_1 : Int) (of_decide_eq_true (by first | (with_reducible assumption) | assumption)) (by have h_ : (x5_1 : Int) < ((x0_1.length : Int) : Int) := of_decide_eq_true (by first | (with_reducible assumption) | assumption); first | exact h_ | (have e_ := (Kd.qn0 HO_0.out).1; omega) | simpa using h_); obtain rfl := k230_openM hM13; have HP13 := Kd.R_seg HX13.out (x5_1 : Int) (of_decide_eq_true (by first | (with_reducible assumption) | assumption)) (by have h_ : (x5_1 : Int) < ((x0_1.length : Int) : Int) := of_decide_eq_true (by first | (with_reducible assumption) | assumption); first | exact h_ | (have e_ := (Kd.qn0 HO_0.out).1; omega) | simpa using h_) (seg := [.int .i64 (wrap64 ((wrap64 (x1_1 + 1)) + 1))]) (j := 2) hcl13 hcc13 (show 3 ≤ 3 from by decide) (x' := (⟨(rd_T230 y240 x5_1).f0, (rd_T230 y240 x5_1).f1, wrap64 ((wrap64 (x1_1 + 1)) + 1)⟩ : S230)) (k230_mkM _ _ _ (⟨(rd_T230 y240 x5_1).f0, (rd_T230 y240 x5_1).f1, wrap64 ((wrap64 (x1_1 + 1)) + 1)⟩ : S230) ) (fun _ hk => hk); have hx13_2 := hcc13 2 _ rfl; (try simp only [show (k230).sz = 3 from rfl, Nat.mul_one, Nat.add_zero] at hx13_2); have hf13_2 := hfr13 2; (try simp only [show (k230).sz = 3 from rfl, Nat.mul_one, Nat.add_zero] at hf13_2); clear hcl13 hcc13 hfr13 hM13) | ((with_reducible refine gate_store (t := 3) (p := 30) rfl ?_); refine store_event (t := 3) (p := 30) (v := ?vo_w14) (w1 := (w12.setCell ⟨go5, (x5_1 : Int).toNat * 3 + 2, none⟩ (.int .i64 (wrap64 ((wrap64 (x1_1 + 1)) + 1))))) ?hg ?ho ?hn ?hr ?_; (case ho => rfl); (case hg => rfl); (case hn => rfl); (case hr => first | (go_simp; done) | (go_simp; rfl)); intro w14 hw; have hg : w12.grownBy w14 (some go5) := (by rw [hw]; exact HP13.2); have hp_ : Kd.R k230 230 w14 w0.heap.size (fun k_ => (P0_ k_ ∨ w.heap.size ≤ k_)) (.slice (some ⟨go5, 0, none⟩) x0_1.length co8) y241 := (by rw [hw, Ny241.out]; exact HP13.1); clear HP13; have n0_ := Aside0.mk (hp_); have n1_ := Aside0.mk ((by rw [hw]; exact qf0 (HB.out) GB5.out : Below w0.heap.size w0 w14)); have n2_ := Aside0.mk (Kept.of_grown (S := (fun k_ => P0_ k_)) hg (by repeat (first | (with_reducible first | exact HK.out | apply Kept.alloc | apply Kept.drewN | apply Kept.drew) | exact HK.out)) (fun k_ e_ => (HO_0.out.1 k_ e_))); clear HO_0; clear HB; clear HK; have HO_0 := n0_; have HB := n1_; have HK := n2_; clear n0_ n1_ n2_; clear hg hw hp_))
    go_roundg k1
    case measure => have := HK1.out; omega
    case rel => exact ⟨(y241), (wrap64 ((wrap64 ((wrap64 (x1_1 + 1)) + 1)) + 1)), (wrap64 (x5_1 + 1)), (by first | rfl | (simp; done) | (simp [*]; done)), (by first | rfl | (simp; done) | (simp [*]; done)), H', ⟨by have := HK1.out; omega⟩, ⟨by (with_reducible repeat (first | apply Kd.qp0 | apply Kd.qo0 | apply Kd.qq0)); exact HO_0.out⟩, ⟨by repeat (first | (with_reducible first | exact HK.out | apply Kept.alloc | apply Kept.drewN | apply Kept.drew) | exact HK.out)⟩, ⟨by repeat (first | (with_reducible first | exact HB.out | apply qc0 | apply qa0 | apply qb0) | exact HB.out)⟩⟩
   rw [if_neg c3] at H
   have c3b0 : decide (x5_1 < (x0_1.length : Int)) = false := decide_eq_false c3
   clear c3
   simp only [Option.some.injEq, Prod.mk.injEq] at H
   obtain ⟨rfl, rfl⟩ := H
   obtain ⟨Ao15, co15, eo15⟩ := Kd.ql1 HO_0.out
   subst eo15
   go_wp2
   go_ret
   exact ⟨by first | rfl | (simp [errW_none, errW_some] <;> rfl) | (simp [*, errW_none, errW_some] <;> rfl), by (with_reducible repeat (first | apply Kd.qp0 | apply Kd.qo0 | apply Kd.qq0)); exact HO_0.out, by repeat (first | (with_reducible first | exact HB.out | apply qc0 | apply qa0 | apply qb0) | exact HB.out), by repeat (first | (with_reducible first | exact HK.out | apply Kept.alloc | apply Kept.drewN | apply Kept.drew) | exact HK.out)⟩

-- EXTERN loop.example/g00040/laws.markJobS
/-! ### laws_markJobS: function 56 -/
-- @making
-- @nest
theorem marks_in (w0 w : World) (v : Value) (n : Nat) (a : Int) (hB : Below w0.heap.size w0 w) (hr : Row w w0.heap.size v n 3) :
  Calls Try.prog 124 #[v, .int .i64 a] w fun e w' => e = .returned (.int .i64 (adv (n * 3) a)) ∧ Below w0.heap.size w0 w' ∧ Kept w w' (fun k => v.ownBlock = some k) ∧ Sz w w' := by
 rcases hr with ⟨rfl, rfl⟩ | ⟨g, cap, t, cur, rfl, hb, hg, hc, hn⟩
 ·have HB := Aside0.mk hB
  clear hB
  go_enter Try.func124, Try.ntmps124
  go_wp2
  go_loopw [1, 5] (fun v1 v5 wr => v1 = .int .i64 a ∧ v5 = .int .i64 0 ∧ wr = w) (fun _ _ _ => 0)
  case atStart => exact ⟨rfl, rfl, rfl⟩
  case round =>
   obtain ⟨rfl, rfl, rfl⟩ := hrel
   go_wp2
   go_ret
   exact ⟨by rw [Nat.zero_mul]; rfl, HB.out, Kept.refl _ _, Sz.refl _⟩
 ·have HB := Aside0.mk hB
  have HG := Aside0.mk hb
  clear hB hb
  have HC := Aside0.mk hc
  have HH := Aside0.mk hg
  clear hc hg
  go_enter Try.func124, Try.ntmps124
  go_wp2
  go_loopw [1, 5] (fun v1 v5 wr => ∃ i : Nat, i ≤ n ∧ v1 = .int .i64 (adv (i * 3) a) ∧ v5 = .int .i64 (i : Int) ∧ Aside0 (Below w0.heap.size w0 wr) ∧ Aside0 (Kept w wr (fun k => (Value.slice (some ⟨g, 0, none⟩) n cap).ownBlock = some k)) ∧ Aside0 (Sz w wr)) (fun _ v5 _ => n - (intOf v5).toNat)
  case atStart => exact ⟨0, Nat.zero_le _, by rw [Nat.zero_mul]; rfl, rfl, HB, ⟨Kept.refl _ _⟩, ⟨Sz.refl _⟩⟩
  case round =>
   obtain ⟨i, hi, rfl, rfl, HB, HK, HS⟩ := hrel
   obtain ⟨c1, hc1, hs1⟩ := HS.out g t cur HH.out
   by_cases hlt : i < n
   ·have hx0 : ∃ v, wr.cell? ⟨g, i * 3, none⟩ = some v := ⟨c1[i * 3]'(by have := HC.out; omega), by rw [qe0 hc1]; exact Array.getElem?_eq_getElem _⟩
    obtain ⟨v0', hx0⟩ := hx0
    have hf0 := qd0 hc1 (i * 3)
    have hx1 : ∃ v, wr.cell? ⟨g, i * 3 + 1, none⟩ = some v := ⟨c1[i * 3 + 1]'(by have := HC.out; omega), by rw [qe0 hc1]; exact Array.getElem?_eq_getElem _⟩
    obtain ⟨v1', hx1⟩ := hx1
    have hf1 := qd0 hc1 (i * 3 + 1)
    have hx2 : ∃ v, wr.cell? ⟨g, i * 3 + 2, none⟩ = some v := ⟨c1[i * 3 + 2]'(by have := HC.out; omega), by rw [qe0 hc1]; exact Array.getElem?_eq_getElem _⟩
    obtain ⟨v2', hx2⟩ := hx2
    have hf2 := qd0 hc1 (i * 3 + 2)
    have HC1 := Aside0.mk hc1
    clear hc1
    go_wp2
    go_roundw
    case rel =>
     have e_ : adv ((i + 1) * 3) a = wrap64 (wrap64 (wrap64 (adv (i * 3) a + 1) + 1) + 1) := by rw [Nat.succ_mul]; rfl
     refine ⟨i + 1, by omega, by rw [e_], by go_num, ⟨qf0 (qf0 (qf0 (HB.out) HG.out) HG.out) HG.out⟩, ⟨?_⟩, ⟨(((HS.out).trans (Sz.set _ _ _ _)).trans (Sz.set _ _ _ _)).trans (Sz.set _ _ _ _)⟩⟩
     exact kept_set (kept_set (kept_set (HK.out) (show (Value.slice (some ⟨g, 0, none⟩) n cap).ownBlock = some g from rfl)) (show (Value.slice (some ⟨g, 0, none⟩) n cap).ownBlock = some g from rfl)) (show (Value.slice (some ⟨g, 0, none⟩) n cap).ownBlock = some g from rfl)
    case measure => simp [intOf]; omega
   ·go_wp2
    go_ret
    obtain rfl : i = n := by omega
    exact ⟨rfl, HB.out, HK.out, HS.out⟩


theorem row_of_R3 {w : World} {base : Nat} {ok : Nat → Prop} {v : Value} {xs : List S230} (h : Kd.R k230 230 w base ok v xs) : Row w base v xs.length 3 ∧ ∀ k, v.ownBlock = some k → ok k := by
 refine ⟨?_, h.1⟩
 obtain ⟨_, inner, ho, _⟩ := h
 rcases ho.2 with h | ⟨g, cap, cur, h1, h2, h3, h4, h5, h6, _⟩
 ·exact .inl h
 ·rw [show k230.sz = 3 from rfl] at h6
  exact .inr ⟨g, cap, 230, cur, h1, h2, h3, by omega, by have : maxLen = 9223372036854775807 := rfl; omega⟩
/-- The marks behind a list. -/
def marksOf (l : List S165) (a : Int) : Int := l.foldl (fun k x => adv (x.f3.length * 3) (wrap64 (wrap64 (wrap64 (k + 1) + 1) + 1))) a
def laws_markJobS.f (l0 : List S165) (a1 : Int) : Option Int := some (marksOf l0 a1)
theorem headsOf {w : World} {base : Nat} {ok : Nat → Prop} {g cap : Nat} {l : List S165} {inner : List Value} {cur : Array Value} (hr : Reps (k165.M w base (fun k => ok k ∧ some k ≠ (Value.slice (some ⟨g, 0, none⟩) l.length cap).ownBlock)) 4 l inner) (hc : cur.toList.take (l.length * 4) = inner) :
  ∀ i (hi : i < l.length), ∃ v1, cur[i * 4 + 3]? = some v1 ∧ Row w base v1 l[i].f3.length 3 ∧ (∀ k, v1.ownBlock = some k → ok k ∧ k ≠ g) := by
 intro i hi
 obtain ⟨v1, he, g1⟩ := k165_openM (hr.2 i l[i] (List.getElem?_eq_getElem hi))
 have at_ : cur[i * 4 + 3]? = some v1 := by
  have hv : ((inner.drop (i * 4)).take 4)[3]? = some v1 := by rw [he]; rfl
  rw [← hc, List.getElem?_take, if_pos (by omega), List.getElem?_drop, List.getElem?_take, if_pos (by omega)] at hv
  simpa using hv
 obtain ⟨r1, o1⟩ := row_of_R3 g1
 exact ⟨v1, at_, r1, fun k hk => ⟨(o1 k hk).1, fun e => (o1 k hk).2 (by subst e; rfl)⟩⟩
set_option maxHeartbeats 1000000 in
theorem laws_markJobS.calls (P_ : Nat → Prop) (u_ : Value) (l0 : List S165) (a1 : Int) (r : Int) (w0 w : World) (hB : Below w0.heap.size w0 w) (ho0 : Kd.R k165 165 w w0.heap.size P_ u_ l0) (h : laws_markJobS.f l0 a1 = some r) :
  Calls Try.prog 56 #[u_, .int .i64 a1] w fun e w' => e = .returned (.int .i64 r) ∧ Below w0.heap.size w0 w' ∧ Kept w w' (fun k_ => P_ k_ ∧ w0.heap.size ≤ k_) := by
 obtain rfl := Option.some.inj h
 clear h
 obtain ⟨hown, inner, ho, hr⟩ := ho0
 have HB := Aside0.mk hB
 clear hB
 rcases ho.2 with ⟨rfl, hn0⟩ | ⟨g, cap, cur, rfl, hb, hg, hnc, hcm, hcs, hct⟩
 ·obtain rfl : l0 = [] := List.eq_nil_of_length_eq_zero hn0
  clear ho hr hown hn0
  go_enter Try.func56, Try.ntmps56
  go_wp2
  go_loopw [1, 5] (fun v1 v5 wr => v1 = .int .i64 a1 ∧ v5 = .int .i64 0 ∧ wr = w) (fun _ _ _ => 0)
  case atStart => exact ⟨rfl, rfl, rfl⟩
  case round =>
   obtain ⟨rfl, rfl, rfl⟩ := hrel
   go_wp2
   go_ret
   exact ⟨rfl, HB.out, Kept.refl _ _⟩
 ·have hh := headsOf hr hct
  have hlen := hr.1
  have hn9 : l0.length ≤ 9223372036854775807 := by have : maxLen = 9223372036854775807 := rfl; omega
  have HGO := Aside0.mk (show P_ g ∧ w0.heap.size ≤ g from ⟨hown g rfl, hb⟩)
  have HH := Aside0.mk hh
  have HG := Aside0.mk hg
  rw [show k165.sz = 4 from rfl] at hcs
  have HS0 := Aside0.mk (show l0.length * 4 ≤ cur.size by omega)
  clear ho hr hown hct hb hg hh hcs hlen hnc hcm
  go_enter Try.func56, Try.ntmps56
  go_wp2
  go_loopw [1, 5] (fun v1 v5 wr => ∃ i : Nat, i ≤ l0.length ∧ v1 = .int .i64 (marksOf (l0.take i) a1) ∧ v5 = .int .i64 (i : Int) ∧ Aside0 (Below w0.heap.size w0 wr) ∧ Aside0 (Kept w wr (fun k_ => P_ k_ ∧ w0.heap.size ≤ k_)) ∧ Aside0 (Sz w wr) ∧ Aside0 (∃ c, wr.heap[g]? = some (.cells c 165 (0, 0)) ∧ c.size = cur.size ∧ ∀ j, j % 4 = 3 → c[j]? = cur[j]?)) (fun _ v5 _ => l0.length - (intOf v5).toNat)
  case atStart => exact ⟨0, Nat.zero_le _, by simp [marksOf], rfl, HB, ⟨Kept.refl _ _⟩, ⟨Sz.refl _⟩, ⟨cur, HG.out, rfl, fun _ _ => rfl⟩⟩
  case round =>
   obtain ⟨i, hi, rfl, rfl, HB, HK, HS, HC⟩ := hrel
   by_cases hlt : i < l0.length
   ·obtain ⟨v1, e1, r1, o1⟩ := HH.out i hlt
    obtain ⟨c, hc, hcz, hcj⟩ := HC.out
    have hx0 : ∃ v, wr.cell? ⟨g, i * 4, none⟩ = some v := ⟨c[i * 4]'(by have := HS0.out; omega), by rw [qe0 hc]; exact Array.getElem?_eq_getElem _⟩
    obtain ⟨v0', hx0⟩ := hx0
    have hf0 := qd0 hc (i * 4)
    have hx1 : ∃ v, wr.cell? ⟨g, i * 4 + 1, none⟩ = some v := ⟨c[i * 4 + 1]'(by have := HS0.out; omega), by rw [qe0 hc]; exact Array.getElem?_eq_getElem _⟩
    obtain ⟨v1', hx1⟩ := hx1
    have hf1 := qd0 hc (i * 4 + 1)
    have hx2 : ∃ v, wr.cell? ⟨g, i * 4 + 2, none⟩ = some v := ⟨c[i * 4 + 2]'(by have := HS0.out; omega), by rw [qe0 hc]; exact Array.getElem?_eq_getElem _⟩
    obtain ⟨v2', hx2⟩ := hx2
    have hf2 := qd0 hc (i * 4 + 2)
    have hx3 : wr.cell? ⟨g, i * 4 + 3, none⟩ = some v1 := by rw [qe0 hc, hcj _ (by omega)]; exact e1
    have HR1 := Aside0.mk (And.intro r1 o1)
    have HC1 := Aside0.mk (And.intro hc (And.intro hcz hcj))
    clear e1 r1 o1 hc hcz hcj HC
    go_wp2_with fail
    refine (marks_in w0 _ v1 l0[i].f3.length _ ?_ ?_).mono ?_
    ·exact qf0 (qf0 (qf0 (HB.out) HGO.out.2) HGO.out.2) HGO.out.2
    ·exact HR1.out.1.sz ((((HS.out).trans (Sz.set _ _ _ _)).trans (Sz.set _ _ _ _)).trans (Sz.set _ _ _ _))
    rintro e w1 ⟨rfl, hb1, hk1, hs1⟩
    have hg1 := (hk1.2 g (by have h_ := qf1 HC1.out.1; simpa [World.setCell] using h_) (fun e_ => (HR1.out.2 _ e_).2 rfl)).trans (blk_set (blk_set (blk_set HC1.out.1 (i * 4) _) (i * 4 + 1) _) (i * 4 + 2) _)
    have HB1 := Aside0.mk hb1
    have HK1 := Aside0.mk (kept_then (kept_set (kept_set (kept_set (HK.out) HGO.out) HGO.out) HGO.out) hk1 (fun x hx => ⟨(HR1.out.2 _ hx).1, by rcases HR1.out.1 with ⟨h_, _⟩ | ⟨gq, _, _, _, h_, hq, _⟩ <;> (rw [h_] at hx; simp [Value.ownBlock] at hx); (subst hx; exact hq)⟩))
    have HS1 := Aside0.mk (((((HS.out).trans (Sz.set _ _ _ _)).trans (Sz.set _ _ _ _)).trans (Sz.set _ _ _ _)).trans hs1)
    have HG1 := Aside0.mk hg1
    clear hb1 hk1 hs1 hg1 hx0 hf0 hx1 hf1 hx2 hf2 hx3
    go_wp2_with fail
    go_roundw
    case rel =>
     refine ⟨i + 1, by omega, ?_, by go_num, HB1, HK1, HS1, ⟨_, HG1.out, by rw [Array.size_setIfInBounds]; rw [Array.size_setIfInBounds]; rw [Array.size_setIfInBounds]; exact HC1.out.2.1, fun j hj => by rw [Array.getElem?_setIfInBounds_ne (by omega)]; rw [Array.getElem?_setIfInBounds_ne (by omega)]; rw [Array.getElem?_setIfInBounds_ne (by omega)]; exact HC1.out.2.2 j hj⟩⟩
     have e_ : marksOf (l0.take (i + 1)) a1 = adv (l0[i].f3.length * 3) (wrap64 (wrap64 (wrap64 (marksOf (l0.take i) a1 + 1) + 1) + 1)) := by
      unfold marksOf
      rw [List.take_succ_eq_append_getElem hlt, List.foldl_append]
      rfl
     rw [e_]
    case measure => simp [intOf]; omega
   ·go_wp2
    go_ret
    obtain rfl : i = l0.length := by omega
    refine ⟨?_, HB.out, HK.out⟩
    rw [List.take_length]; rfl


end Go.Proofs.Ytdnhpicgjkddbaa.PFnExactRank
