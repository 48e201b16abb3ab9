/- Lines by a program (a changed copy of the kit's print: this repo's wip/tools): Go functions as Lean functions, and proofs that the calls answer so. -/
import Derived.Test.YtinibkdbfpafcaaZPFnMovedx0
import Derived.Test.YtinibkdbfpafcaaZPFnMovedx2
import Derived.Test.YtinibkdbfpafcaaZPFnMovedx3
namespace Go.Proofs.Ytinibkdbfpafcaa.PFnMoved
open Go.RowKit Go.Proofs.YtinibkdbfpafcaaW.PrintWords Go.Proofs.YtinibkdbfpafcaaW.PrintLast Go.Proofs.YtinibkdbfpafcaaW.PrintMore
attribute [local go_sem] max2_int min2_int max_two min_two max_three min_three max_four min_four   -- for this text's walks alone
set_option linter.unusedVariables false
set_option linter.unusedSimpArgs false

attribute [local go_sem high] eqA229
/-! ### impl_bring: function 156 -/
def impl_bring.l0 : Nat → List (S117) → Int → Int → ByteArray → ByteArray → ByteArray → Int → Int → Int → Option ((List (S117)) × Bool)
 | 0, _, _, _, _, _, _, _, _, _ => none
 | k + 1, x0, x8, x9, x137000, x137001, x137002, x137003, x137004, x137005 => if x9 < x8 then (if 0 ≤ x9 then (if x9 < (x0.length : Int) then ((impl_Cell_where.f ((rd_T117 x0 x9).f0) ((rd_T117 x0 x9).f1) ((rd_T117 x0 x9).f2) ((rd_T117 x0 x9).f3) ((rd_T117 x0 x9).f4) ((rd_T117 x0 x9).f5)).bind fun bt141 => ((impl_Cell_where.f x137000 x137001 x137002 x137003 x137004 x137005).bind fun bt144 => (if (bt141.1.toList == bt144.1.toList && (bt141.2.1.toList == bt144.2.1.toList && (bt141.2.2.toList == bt144.2.2.toList))) = true then (if (wrap64 (((rd_T117 x0 x9).f4) + x137004)) > 1000000 then (some (([] : List (S117)), false)) else (some ((x0.set (x9 : Int).toNat (⟨(rd_T117 x0 x9).f0, (rd_T117 x0 x9).f1, (rd_T117 x0 x9).f2, (rd_T117 x0 x9).f3, wrap64 (((rd_T117 x0 x9).f4) + x137004), (rd_T117 x0 x9).f5⟩ : S117)), true))) else (impl_bring.l0 k x0 x8 (wrap64 (x9 + 1)) x137000 x137001 x137002 x137003 x137004 x137005)))) else (none)) else (none)) else (if (x0.length : Int) = 100 then (some (([] : List (S117)), false)) else (if x0.length < 1954687338268 then (some ((x0 ++ [(⟨x137000, x137001, x137002, x137003, x137004, x137005⟩ : S117)]), true)) else (none)))
def impl_bring.f (k : Nat) (l0 : List (S117)) (a1_0 : ByteArray) (a1_1 : ByteArray) (a1_2 : ByteArray) (a1_3 : Int) (a1_4 : Int) (a1_5 : Int) : Option ((List (S117)) × Bool) := impl_bring.l0 k l0 (l0.length : Int) 0 a1_0 a1_1 a1_2 a1_3 a1_4 a1_5
theorem impl_bring.mono_l : ∀ k, (∀ y0 y1 y2 y3 y4 y5 y6 y7 y8, LeO (impl_bring.l0 k y0 y1 y2 y3 y4 y5 y6 y7 y8) (impl_bring.l0 (k + 1) y0 y1 y2 y3 y4 y5 y6 y7 y8))
 | 0 => fun _ _ _ _ _ _ _ _ _ r h => by simp [impl_bring.l0] at h
 | k + 1 => by
  have ih0 := impl_bring.mono_l k
  ·intro y0 y1 y2 y3 y4 y5 y6 y7 y8
   unfold impl_bring.l0
   repeat' first
   | (with_reducible exact ih0 _ _ _ _ _ _ _ _ _)
   | (with_reducible exact LeO.refl _)
   | (with_reducible exact LeO.none _)
   | (with_reducible refine LeO.ite ?_ ?_)
   | (with_reducible refine LeO.bind ?_ (fun _ => ?_))
   | exact ih0 _ _ _ _ _ _ _ _ _
   | exact LeO.none _
   | refine LeO.ite ?_ ?_
   | refine LeO.bind ?_ (fun _ => ?_)
theorem impl_bring.mono : ∀ a0 a1 a2 a3 a4 a5 a6 k, LeO (impl_bring.f k a0 a1 a2 a3 a4 a5 a6) (impl_bring.f (k + 1) a0 a1 a2 a3 a4 a5 a6) := by
 intro a0 a1 a2 a3 a4 a5 a6 k
 have ih0 := impl_bring.mono_l k
 unfold impl_bring.f
 repeat' first
   | (with_reducible exact ih0 _ _ _ _ _ _ _ _ _)
   | (with_reducible exact LeO.refl _)
   | (with_reducible exact LeO.none _)
   | (with_reducible refine LeO.ite ?_ ?_)
   | (with_reducible refine LeO.bind ?_ (fun _ => ?_))
   | exact ih0 _ _ _ _ _ _ _ _ _
   | exact LeO.none _
   | refine LeO.ite ?_ ?_
   | refine LeO.bind ?_ (fun _ => ?_)
def impl_bring.T4 : Bool × List (List Nat × List Nat) := (true, [([], []), ([], []), ([0, 1], [0, 1]), ([2], [2]), ([3], [3]), ([], []), ([5, 4], [5]), ([4, 6], [4, 6])])
def impl_bring.B4 : List Nat := [0, 0, 3, 7, 15, 0, 63, 127]
theorem impl_bring.tab4 : rtab .any (opsOf Try.f156 4) = impl_bring.T4 := by kernel_rfl
theorem impl_bring.bits4 : waitsOk impl_bring.T4.2 impl_bring.B4 = true := by kernel_rfl
def impl_bring.T5 : Bool × List (List Nat × List Nat) := (true, [([], []), ([], []), ([0, 1], [0, 1]), ([2], [2]), ([3], [3]), ([], []), ([5], [5]), ([4, 6], [4, 6]), ([7], [7])])
def impl_bring.B5 : List Nat := [0, 0, 3, 7, 15, 0, 32, 127, 255]
theorem impl_bring.tab5 : rtab .any (opsOf Try.f156 5) = impl_bring.T5 := by kernel_rfl
theorem impl_bring.bits5 : waitsOk impl_bring.T5.2 impl_bring.B5 = true := by kernel_rfl
def impl_bring.T7 : Bool × List (List Nat × List Nat) := (true, [([], []), ([], []), ([0, 1], [0, 1]), ([2], [2]), ([3], [3]), ([], []), ([5], [5]), ([4, 6], [4, 6]), ([0, 1, 0, 1, 2, 3, 4, 5, 6, 7], [0, 1]), ([8, 0, 1, 2, 3, 4, 5, 6, 7], [8]), ([9, 7, 0, 1, 2, 3, 4, 5, 6, 7], [7, 9])])
def impl_bring.B7 : List Nat := [0, 0, 3, 7, 15, 0, 32, 127, 255, 511, 1023]
theorem impl_bring.tab7 : rtab .any (opsOf Try.f156 7) = impl_bring.T7 := by kernel_rfl
theorem impl_bring.bits7 : waitsOk impl_bring.T7.2 impl_bring.B7 = true := by kernel_rfl
set_option maxHeartbeats 8000000 in
set_option maxRecDepth 100000 in
theorem impl_bring.calls (k : Nat) (P0_ : Nat → Prop) (u9000_ : Value) (l0 : List (S117)) (a1_0 : ByteArray) (a1_1 : ByteArray) (a1_2 : ByteArray) (a1_3 : Int) (a1_4 : Int) (a1_5 : Int) (r1 : List (S117)) (r2 : Bool) (w0 w : World) (hB : Below w0.heap.size w0 w) (ho0 : Kd.R k117 117 w w0.heap.size P0_ u9000_ l0) (h : impl_bring.f k l0 a1_0 a1_1 a1_2 a1_3 a1_4 a1_5 = some (r1, r2)) :
  Calls Try.prog 156 #[u9000_, .agg #[.string a1_0, .string a1_1, .string a1_2, .int .i64 a1_3, .int .i64 a1_4, .int .i64 a1_5]] w fun e w' => ∃ v0_ : Value, e = .returned (.tuple #[v0_, .bool r2]) ∧ Kd.R k117 117 w' w0.heap.size (fun k_ => (P0_ k_ ∨ w.heap.size ≤ k_)) v0_ r1 ∧ Below w0.heap.size w0 w' ∧ Kept w w' (fun k_ => P0_ k_) := by
 have hu117 := Try.underlying117
 have HO0 := Aside0.mk (show Kd.R k117 117 w w0.heap.size (fun k_ => (P0_ k_ ∨ w.heap.size ≤ k_)) u9000_ l0 from Kd.qv0 ho0 (fun k_ hk => (.inl hk)))
 have HK := Aside0.mk (Kept.refl w (fun k_ => P0_ k_))
 have HW0 := Aside0.mk hB.size
 have HB := Aside0.mk hB
 clear hB
 have H : (impl_bring.l0 k l0 (l0.length : Int) 0 a1_0 a1_1 a1_2 a1_3 a1_4 a1_5) = some (r1, r2) := h
 clear h
 have H' := Aside0.mk H
 clear H
 go_enter Try.func156, Try.ntmps156
 go_wp2_with (first | ((with_reducible refine gate_dst (N := 3) rfl ?_); refine qh1 ?hg (N := 3) ?hd (cs := #[.string a1_0, .string a1_1, .string a1_2, .int .i64 a1_3, .int .i64 a1_4, .int .i64 a1_5]) (t := 117) ?hr ?_; (case hd => rfl); (case hg => rfl); (case hr => first | (go_simp; done) | (go_simp; rfl)); intro gb136 hg w3 hbox hb; have n0_ := Aside0.mk (Kd.qg1 (Kd.R_elderB (by (with_reducible repeat (first | apply Kd.qi0 | apply Kd.qh0 | apply Kd.qj0)); exact HO0.out) gb136 (Nat.le_of_eq hg.symm)) hb); have n1_ := Aside0.mk (Kept.below (S := (fun k_ => P0_ k_)) (by repeat (first | (with_reducible first | exact HK.out | apply Kept.alloc | apply Kept.drewN | apply Kept.drew) | exact HK.out)) hb); have n2_ := Aside0.mk (qk0 (by repeat (first | (with_reducible first | exact HB.out | apply qc0 | apply qa0 | apply qb0) | exact HB.out)) hb); have n3_ := Aside0.mk (hbox); have n4_ := Aside0.mk ((by rw [hg]; exact (by first | exact HK.out.1 | exact (show Kept w _ (fun k_ => P0_ k_) from by repeat (first | (with_reducible first | exact HK.out | apply Kept.alloc | apply Kept.drewN | apply Kept.drew) | exact HK.out)).1) : w.heap.size ≤ gb136)); have n5_ := Aside0.mk ((by rw [hg]; exact (ql0 (by repeat (first | (with_reducible first | exact HB.out | apply qc0 | apply qa0 | apply qb0) | exact HB.out))) : w0.heap.size ≤ gb136)); clear HO0; clear HK; clear HB; have HO0 := n0_; have HK := n1_; have HB := n2_; have BK136 := n3_; have GW136 := n4_; have GE136 := n5_; clear n0_ n1_ n2_ n3_ n4_ n5_; clear hb hbox hg; obtain ⟨Ao4, co4, eo4⟩ := Kd.qe1 HO0.out; subst eo4))
 go_loopg [9] k (fun kq v9 w' => ∃ (x0_1 : List (S117)) (x9_1 : Int) (x137004_1 : Int), v9 = .int .i64 x9_1 ∧ Aside0 (impl_bring.l0 kq x0_1 (l0.length : Int) x9_1 a1_0 a1_1 a1_2 a1_3 x137004_1 a1_5 = some (r1, r2)) ∧ Aside0 (kq ≤ k) ∧ Aside0 (Kd.R k117 117 w' w0.heap.size (fun k_ => (P0_ k_ ∨ w.heap.size ≤ k_) ∧ k_ ≠ gb136) (.slice Ao4 l0.length co4) x0_1) ∧ Aside0 (w'.heap[gb136]? = some (.cells #[.string a1_0, .string a1_1, .string a1_2, .int .i64 a1_3, .int .i64 x137004_1, .int .i64 a1_5] 117 (0, 0))) ∧ Aside0 (Kept w w' (fun k_ => P0_ k_)) ∧ Aside0 (Below w0.heap.size w0 w'))
 case atStart => exact ⟨(l0), (0), (a1_4), (by first | rfl | (simp; done) | (simp [*]; done)), H', ⟨Nat.le_refl _⟩, ⟨by (with_reducible repeat (first | apply Kd.qi0 | apply Kd.qh0 | apply Kd.qj0)); exact HO0.out⟩, ⟨by (with_reducible repeat (first | refine qm0 ?_ _ | refine qp0 ?_ | refine qn0 ?_ _)); exact BK136.out⟩, ⟨by repeat (first | (with_reducible first | exact HK.out | apply Kept.alloc | apply Kept.drewN | apply Kept.drew | refine Kept.setCell ?_ (.inr GW136.out) _) | exact HK.out)⟩, ⟨by repeat (first | (with_reducible first | exact HB.out | apply qc0 | apply qa0 | apply qb0 | refine qg0 ?_ GE136.out) | exact HB.out)⟩⟩
 case round =>
  clear H'
  try clear c1
  try clear p2
  obtain ⟨x0_1, x9_1, x137004_1, rfl, HA, HK1, HO_0, BK136, HK, HB⟩ := hrel
  have hl0_1 := (Kd.qf0 HO_0.out).1
  rw [hl0_1] at HO_0
  (try simp only [hl0_1])
  (try simp only [hl0_1] at BK136)
  cases gk with
  | zero => exact absurd HA.out (by simp [impl_bring.l0])
  | succ k1 =>
   have H := HA.out
   clear HA
   simp only [impl_bring.l0] at H
   by_cases c5 : x9_1 < (l0.length : Int)
   ·rw [if_pos c5] at H
    have c5b0 : decide (x9_1 < (l0.length : Int)) = true := decide_eq_true c5
    clear c5
    by_cases c6 : 0 ≤ x9_1
    case neg => rw [if_neg c6] at H; exact absurd H (by simp)
    rw [if_pos c6] at H
    have c6b0 : decide (0 ≤ x9_1) = true := decide_eq_true c6
    clear c6
    by_cases c7 : x9_1 < (x0_1.length : Int)
    case neg => rw [if_neg c7] at H; exact absurd H (by simp)
    rw [if_pos c7] at H
    have c7b0 : decide (x9_1 < (x0_1.length : Int)) = true := decide_eq_true c7
    clear c7
    replace H := Option.bind_eq_some_iff.mp H
    obtain ⟨⟨t141, t142, t143⟩, A80, H⟩ := H
    replace H : ((impl_Cell_where.f a1_0 a1_1 a1_2 a1_3 x137004_1 a1_5).bind fun bt144 => (if (t141.toList == bt144.1.toList && (t142.toList == bt144.2.1.toList && (t143.toList == bt144.2.2.toList))) = true then (if (wrap64 (((rd_T117 x0_1 x9_1).f4) + x137004_1)) > 1000000 then (some (([] : List (S117)), false)) else (some ((x0_1.set (x9_1 : Int).toNat (⟨(rd_T117 x0_1 x9_1).f0, (rd_T117 x0_1 x9_1).f1, (rd_T117 x0_1 x9_1).f2, (rd_T117 x0_1 x9_1).f3, wrap64 (((rd_T117 x0_1 x9_1).f4) + x137004_1), (rd_T117 x0_1 x9_1).f5⟩ : S117)), true))) else (impl_bring.l0 k1 x0_1 (l0.length : Int) (wrap64 (x9_1 + 1)) a1_0 a1_1 a1_2 a1_3 x137004_1 a1_5))) = some (r1, r2) := H
    have A8 := Aside0.mk A80
    clear A80
    replace H := Option.bind_eq_some_iff.mp H
    obtain ⟨⟨t144, t145, t146⟩, A90, H⟩ := H
    replace H : (if (t141.toList == t144.toList && (t142.toList == t145.toList && (t143.toList == t146.toList))) = true then (if (wrap64 (((rd_T117 x0_1 x9_1).f4) + x137004_1)) > 1000000 then (some (([] : List (S117)), false)) else (some ((x0_1.set (x9_1 : Int).toNat (⟨(rd_T117 x0_1 x9_1).f0, (rd_T117 x0_1 x9_1).f1, (rd_T117 x0_1 x9_1).f2, (rd_T117 x0_1 x9_1).f3, wrap64 (((rd_T117 x0_1 x9_1).f4) + x137004_1), (rd_T117 x0_1 x9_1).f5⟩ : S117)), true))) else (impl_bring.l0 k1 x0_1 (l0.length : Int) (wrap64 (x9_1 + 1)) a1_0 a1_1 a1_2 a1_3 x137004_1 a1_5)) = some (r1, r2) := H
    have A9 := Aside0.mk A90
    clear A90
    by_cases c10 : (t141.toList == t144.toList && (t142.toList == t145.toList && (t143.toList == t146.toList))) = true
    ·rw [if_pos c10] at H
     have c10b0 : (t141.toList == t144.toList && (t142.toList == t145.toList && (t143.toList == t146.toList))) = true := c10
     (try (have c10b1 : decide (t141.toList = t144.toList && (t142.toList == t145.toList && (t143.toList == t146.toList))) = true := by simpa using c10))
     (try (have c10b2 : (t141.toList == t144.toList && (t142.toList == t145.toList && (t143.toList == t146.toList))) = true := by simpa using c10))
     clear c10
     by_cases c11 : (wrap64 (((rd_T117 x0_1 x9_1).f4) + x137004_1)) > 1000000
     ·rw [if_pos c11] at H
      have c11b0 : decide (1000000 < (wrap64 (((rd_T117 x0_1 x9_1).f4) + x137004_1))) = true := decide_eq_true c11
      clear c11
      simp only [Option.some.injEq, Prod.mk.injEq] at H
      obtain ⟨rfl, rfl⟩ := H
      try go_wp2
      have n0_ := Aside0.mk (Kd.qj0 HO_0.out)
      have n1_ := Aside0.mk (qp0 BK136.out)
      have n2_ := Aside0.mk (Kept.drew HK.out)
      have n3_ := Aside0.mk (qb0 HB.out)
      clear HO_0
      clear BK136
      clear HK
      clear HB
      have HO_0 := n0_
      have BK136 := n1_
      have HK := n2_
      have HB := n3_
      clear n0_ n1_ n2_ n3_
      have p140 : 0 ≤ (x9_1 : Int) := of_decide_eq_true (by first | (with_reducible assumption) | assumption)
      have q140 : x9_1 < (x0_1.length : Int) := of_decide_eq_true (by first | (with_reducible assumption) | assumption)
      obtain ⟨ad140, e140, hx140_0, hx140_1, hx140_2, hx140_3, hx140_4, hx140_5⟩ := at_T117 (Kd.qf0 HO_0.out).2.2 x9_1 p140 q140
      cases e140
      replace p140 := eq_true p140
      replace q140 := eq_true q140
      refine start_ (n := 8) (S := fun w' => w'.cell? ⟨gb136, 0, none⟩ = some (.string a1_0) ∧ w'.cell? ⟨gb136, 1, none⟩ = some (.string a1_1) ∧ w'.cell? ⟨gb136, 2, none⟩ = some (.string a1_2) ∧ w'.cell? ⟨gb136, 3, none⟩ = some (.int .i64 a1_3) ∧ w'.cell? ⟨gb136, 4, none⟩ = some (.int .i64 x137004_1) ∧ w'.cell? ⟨gb136, 5, none⟩ = some (.int .i64 a1_5) ∧ w'.cell? (ad140.add ((x9_1).toNat * 6)) = some (.string ((rd_T117 x0_1 x9_1).f0)) ∧ w'.cell? ⟨(ad140.add ((x9_1).toNat * 6)).block, (ad140.add ((x9_1).toNat * 6)).off + 1, none⟩ = some (.string ((rd_T117 x0_1 x9_1).f1)) ∧ w'.cell? ⟨(ad140.add ((x9_1).toNat * 6)).block, (ad140.add ((x9_1).toNat * 6)).off + 2, none⟩ = some (.string ((rd_T117 x0_1 x9_1).f2)) ∧ w'.cell? ⟨(ad140.add ((x9_1).toNat * 6)).block, (ad140.add ((x9_1).toNat * 6)).off + 3, none⟩ = some (.int .i64 ((rd_T117 x0_1 x9_1).f3)) ∧ w'.cell? ⟨(ad140.add ((x9_1).toNat * 6)).block, (ad140.add ((x9_1).toNat * 6)).off + 4, none⟩ = some (.int .i64 ((rd_T117 x0_1 x9_1).f4)) ∧ w'.cell? ⟨(ad140.add ((x9_1).toNat * 6)).block, (ad140.add ((x9_1).toNat * 6)).off + 5, none⟩ = some (.int .i64 ((rd_T117 x0_1 x9_1).f5))) (ds := []) #[false, false, false, false, false, false, false, false] (by kernel_rfl) rfl rfl ⟨(qe0 BK136.out 0).trans rfl, (qe0 BK136.out 1).trans rfl, (qe0 BK136.out 2).trans rfl, (qe0 BK136.out 3).trans rfl, (qe0 BK136.out 4).trans rfl, (qe0 BK136.out 5).trans rfl, hx140_0, hx140_1, hx140_2, hx140_3, hx140_4, hx140_5⟩ (fun hHeld => ?_); refine with_tabW impl_bring.tab4 impl_bring.bits4 (fun HT_ HW_ => ?_)
      generalize wr.drew = w12 at HO_0 BK136 HK HB hx140_0 hx140_1 hx140_2 hx140_3 hx140_4 hx140_5 hHeld ⊢
      refine pure_ (i := 0) (N := some 12) (v := ?_) (a' := ?_) #[true, false, false, false, false, false, false, false] rfl rfl (qa1 HT_.out (by kernel_rfl)) (fun _ _ _ h => h) (Or.inl ⟨by rfl, ?_⟩) ?_ ?_
      rotate_left
      ·intro w'
       go_simp
       with_reducible rfl
      rotate_left
      ·simp only [Act.put, List.setIfInBounds_toArray, List.set_cons_zero, List.set_cons_succ, i64_w, i32_w]
       rfl
      refine pure_ (i := 1) (N := some 13) (v := ?_) (a' := ?_) #[true, true, false, false, false, false, false, false] rfl rfl (qa1 HT_.out (by kernel_rfl)) (fun _ _ _ h => h) (Or.inl ⟨by rfl, ?_⟩) ?_ ?_
      rotate_left
      ·intro w'
       go_simp
       with_reducible rfl
      rotate_left
      ·simp only [Act.put, List.setIfInBounds_toArray, List.set_cons_zero, List.set_cons_succ, i64_w, i32_w]
       rfl
      refine pure_ (i := 2) (N := some 14) (v := ?_) (a' := ?_) #[true, true, true, false, false, false, false, false] rfl rfl (qa1 HT_.out (by kernel_rfl)) (fun _ _ _ h => h) (Or.inl ⟨by rfl, ?_⟩) ?_ ?_
      rotate_left
      ·intro w'
       go_simp
       with_reducible rfl
      rotate_left
      ·simp only [Act.put, List.setIfInBounds_toArray, List.set_cons_zero, List.set_cons_succ, i64_w, i32_w]
       rfl
      refine take_ (i := 3) (N := some 15) (v := ?_) (a' := ?_) #[true, true, true, true, false, false, false, false] rfl rfl (qo1 HT_.out HW_.out (by kernel_rfl)) (fun _ _ _ h => h) (Or.inl ⟨by rfl, ?_⟩) hHeld ?_ ?_
      rotate_left
      ·rintro w' ⟨s0, s1, s2, s3, s4, s5, s6, s7, s8, s9, s10, s11⟩
       go_simp
       with_reducible rfl
      rotate_left
      ·simp only [Act.put, List.setIfInBounds_toArray, List.set_cons_zero, List.set_cons_succ, i64_w, i32_w]
       rfl
      refine take_ (i := 5) (N := some 17) (v := ?_) (a' := ?_) #[true, true, true, true, false, true, false, false] rfl rfl (qo1 HT_.out HW_.out (by kernel_rfl)) (fun _ _ _ h => h) (Or.inl ⟨by rfl, ?_⟩) hHeld ?_ ?_
      rotate_left
      ·rintro w' ⟨s0, s1, s2, s3, s4, s5, s6, s7, s8, s9, s10, s11⟩
       go_simp
       with_reducible rfl
      rotate_left
      ·simp only [Act.put, List.setIfInBounds_toArray, List.set_cons_zero, List.set_cons_succ, i64_w, i32_w]
       rfl
      refine one_ (i := 4) (N := some 16) #[true, true, true, true, true, true, false, false] rfl rfl (one_of HT_.out (by kernel_rfl)) (by decide) (fun K hK => ?_)
      refine goes_ Try.func162 (by kernel_rfl) rfl #[.agg #[.string ((rd_T117 x0_1 x9_1).f0), .string ((rd_T117 x0_1 x9_1).f1), .string ((rd_T117 x0_1 x9_1).f2), .int .i64 ((rd_T117 x0_1 x9_1).f3), .int .i64 ((rd_T117 x0_1 x9_1).f4), .int .i64 ((rd_T117 x0_1 x9_1).f5)]] (by rfl) rfl rfl (by (try simp only [List.map_toArray, List.map_cons, List.map_nil]); first | done | rfl | (simp only [List.length_drop, List.length_take]; rfl)) ?_
      with_reducible refine (impl_Cell_where.calls ((rd_T117 x0_1 x9_1).f0) ((rd_T117 x0_1 x9_1).f1) ((rd_T117 x0_1 x9_1).f2) ((rd_T117 x0_1 x9_1).f3) ((rd_T117 x0_1 x9_1).f4) ((rd_T117 x0_1 x9_1).f5) t141 t142 t143 _ A8.out).mono ?_
      rintro e w13 ⟨rfl, hb⟩
      have HS6_ := (hb.cell (World.block_lt_of_cell? _ _ (hHeld.2.2.2.2.2.2.1))).trans (hHeld.2.2.2.2.2.2.1)
      have HS7_ := (hb.cell (World.block_lt_of_cell? _ _ (hHeld.2.2.2.2.2.2.2.1))).trans (hHeld.2.2.2.2.2.2.2.1)
      have HS8_ := (hb.cell (World.block_lt_of_cell? _ _ (hHeld.2.2.2.2.2.2.2.2.1))).trans (hHeld.2.2.2.2.2.2.2.2.1)
      have HS9_ := (hb.cell (World.block_lt_of_cell? _ _ (hHeld.2.2.2.2.2.2.2.2.2.1))).trans (hHeld.2.2.2.2.2.2.2.2.2.1)
      have HS10_ := (hb.cell (World.block_lt_of_cell? _ _ (hHeld.2.2.2.2.2.2.2.2.2.2.1))).trans (hHeld.2.2.2.2.2.2.2.2.2.2.1)
      have HS11_ := (hb.cell (World.block_lt_of_cell? _ _ (hHeld.2.2.2.2.2.2.2.2.2.2.2))).trans (hHeld.2.2.2.2.2.2.2.2.2.2.2)
      refine ⟨_, rfl, ?_⟩
      have n0_ := Aside0.mk (Kd.qg1 (by (with_reducible repeat (first | apply Kd.qi0 | apply Kd.qh0 | apply Kd.qj0)); exact HO_0.out) hb)
      have n1_ := Aside0.mk (ql1 (g := gb136) (o := .cells #[.string a1_0, .string a1_1, .string a1_2, .int .i64 a1_3, .int .i64 x137004_1, .int .i64 a1_5] 117 (0, 0)) (by (with_reducible repeat (first | refine qm0 ?_ _ | refine qp0 ?_ | refine qn0 ?_ _)); exact BK136.out) hb)
      have n2_ := Aside0.mk (Kept.below (S := (fun k_ => P0_ k_)) (by repeat (first | (with_reducible first | exact HK.out | apply Kept.alloc | apply Kept.drewN | apply Kept.drew | refine Kept.setCell ?_ (.inr GW136.out) _) | exact HK.out)) hb)
      have n3_ := Aside0.mk (qk0 (by repeat (first | (with_reducible first | exact HB.out | apply qc0 | apply qa0 | apply qb0 | refine qg0 ?_ GE136.out) | exact HB.out)) hb)
      clear HO_0
      clear BK136
      clear HK
      clear HB
      have HO_0 := n0_
      have BK136 := n1_
      have HK := n2_
      have HB := n3_
      clear n0_ n1_ n2_ n3_
      (try clear hb)
      (try clear hb2)
      (try clear hk)
      (try clear hi)
      refine hK.out _ _ ⟨(qe0 BK136.out 0).trans rfl, (qe0 BK136.out 1).trans rfl, (qe0 BK136.out 2).trans rfl, (qe0 BK136.out 3).trans rfl, (qe0 BK136.out 4).trans rfl, (qe0 BK136.out 5).trans rfl, HS6_, HS7_, HS8_, HS9_, HS10_, HS11_⟩ (fun hHeld => ?_)
      clear hK K
      refine norm_ (a' := ?_) ?_ ?_
      rotate_left
      ·show Act.put _ (some 16) _ = _
       simp only [Act.put, List.setIfInBounds_toArray, List.set_cons_zero, List.set_cons_succ, i64_w, i32_w]
       rfl
      refine one_ (i := 6) (N := some 18) #[true, true, true, true, true, true, true, false] rfl rfl (one_of HT_.out (by kernel_rfl)) (by decide) (fun K hK => ?_)
      refine goes_ Try.func162 (by kernel_rfl) rfl #[.agg #[.string a1_0, .string a1_1, .string a1_2, .int .i64 a1_3, .int .i64 x137004_1, .int .i64 a1_5]] (by rfl) rfl rfl (by (try simp only [List.map_toArray, List.map_cons, List.map_nil]); first | done | rfl | (simp only [List.length_drop, List.length_take]; rfl)) ?_
      with_reducible refine (impl_Cell_where.calls a1_0 a1_1 a1_2 a1_3 x137004_1 a1_5 t144 t145 t146 _ A9.out).mono ?_
      rintro e w14 ⟨rfl, hb⟩
      have HS6_ := (hb.cell (World.block_lt_of_cell? _ _ (hHeld.2.2.2.2.2.2.1))).trans (hHeld.2.2.2.2.2.2.1)
      have HS7_ := (hb.cell (World.block_lt_of_cell? _ _ (hHeld.2.2.2.2.2.2.2.1))).trans (hHeld.2.2.2.2.2.2.2.1)
      have HS8_ := (hb.cell (World.block_lt_of_cell? _ _ (hHeld.2.2.2.2.2.2.2.2.1))).trans (hHeld.2.2.2.2.2.2.2.2.1)
      have HS9_ := (hb.cell (World.block_lt_of_cell? _ _ (hHeld.2.2.2.2.2.2.2.2.2.1))).trans (hHeld.2.2.2.2.2.2.2.2.2.1)
      have HS10_ := (hb.cell (World.block_lt_of_cell? _ _ (hHeld.2.2.2.2.2.2.2.2.2.2.1))).trans (hHeld.2.2.2.2.2.2.2.2.2.2.1)
      have HS11_ := (hb.cell (World.block_lt_of_cell? _ _ (hHeld.2.2.2.2.2.2.2.2.2.2.2))).trans (hHeld.2.2.2.2.2.2.2.2.2.2.2)
      refine ⟨_, rfl, ?_⟩
      have n0_ := Aside0.mk (Kd.qg1 (by (with_reducible repeat (first | apply Kd.qi0 | apply Kd.qh0 | apply Kd.qj0)); exact HO_0.out) hb)
      have n1_ := Aside0.mk (ql1 (g := gb136) (o := .cells #[.string a1_0, .string a1_1, .string a1_2, .int .i64 a1_3, .int .i64 x137004_1, .int .i64 a1_5] 117 (0, 0)) (by (with_reducible repeat (first | refine qm0 ?_ _ | refine qp0 ?_ | refine qn0 ?_ _)); exact BK136.out) hb)
      have n2_ := Aside0.mk (Kept.below (S := (fun k_ => P0_ k_)) (by repeat (first | (with_reducible first | exact HK.out | apply Kept.alloc | apply Kept.drewN | apply Kept.drew | refine Kept.setCell ?_ (.inr GW136.out) _) | exact HK.out)) hb)
      have n3_ := Aside0.mk (qk0 (by repeat (first | (with_reducible first | exact HB.out | apply qc0 | apply qa0 | apply qb0 | refine qg0 ?_ GE136.out) | exact HB.out)) hb)
      clear HO_0
      clear BK136
      clear HK
      clear HB
      have HO_0 := n0_
      have BK136 := n1_
      have HK := n2_
      have HB := n3_
      clear n0_ n1_ n2_ n3_
      (try clear hb)
      (try clear hb2)
      (try clear hk)
      (try clear hi)
      refine hK.out _ _ ⟨(qe0 BK136.out 0).trans rfl, (qe0 BK136.out 1).trans rfl, (qe0 BK136.out 2).trans rfl, (qe0 BK136.out 3).trans rfl, (qe0 BK136.out 4).trans rfl, (qe0 BK136.out 5).trans rfl, HS6_, HS7_, HS8_, HS9_, HS10_, HS11_⟩ (fun hHeld => ?_)
      clear hK K
      refine norm_ (a' := ?_) ?_ ?_
      rotate_left
      ·show Act.put _ (some 18) _ = _
       simp only [Act.put, List.setIfInBounds_toArray, List.set_cons_zero, List.set_cons_succ, i64_w, i32_w]
       rfl
      refine pure_ (i := 7) (N := some 19) (v := ?_) (a' := ?_) #[true, true, true, true, true, true, true, true] rfl rfl (qa1 HT_.out (by kernel_rfl)) (fun _ _ _ h => h) (Or.inl ⟨by rfl, ?_⟩) ?_ ?_
      rotate_left
      ·intro w'
       go_simp
       with_reducible rfl
      rotate_left
      ·simp only [Act.put, List.setIfInBounds_toArray, List.set_cons_zero, List.set_cons_succ, i64_w, i32_w]
       rfl
      refine done_ (done_of HT_.out (by kernel_rfl)) ?_
      try go_wp2
      have n0_ := Aside0.mk (Kd.qj0 HO_0.out)
      have n1_ := Aside0.mk (qp0 BK136.out)
      have n2_ := Aside0.mk (Kept.drew HK.out)
      have n3_ := Aside0.mk (qb0 HB.out)
      clear HO_0
      clear BK136
      clear HK
      clear HB
      have HO_0 := n0_
      have BK136 := n1_
      have HK := n2_
      have HB := n3_
      clear n0_ n1_ n2_ n3_
      have p147 : 0 ≤ (x9_1 : Int) := of_decide_eq_true (by first | (with_reducible assumption) | assumption)
      have q147 : x9_1 < (x0_1.length : Int) := of_decide_eq_true (by first | (with_reducible assumption) | assumption)
      obtain ⟨ad147, e147, hx147_0, hx147_1, hx147_2, hx147_3, hx147_4, hx147_5⟩ := at_T117 (Kd.qf0 HO_0.out).2.2 x9_1 p147 q147
      obtain rfl : ad140 = ad147 := (by injection e147)
      replace p147 := eq_true p147
      replace q147 := eq_true q147
      refine start_ (n := 9) (S := fun w' => w'.cell? ⟨gb136, 0, none⟩ = some (.string a1_0) ∧ w'.cell? ⟨gb136, 1, none⟩ = some (.string a1_1) ∧ w'.cell? ⟨gb136, 2, none⟩ = some (.string a1_2) ∧ w'.cell? ⟨gb136, 3, none⟩ = some (.int .i64 a1_3) ∧ w'.cell? ⟨gb136, 4, none⟩ = some (.int .i64 x137004_1) ∧ w'.cell? ⟨gb136, 5, none⟩ = some (.int .i64 a1_5) ∧ w'.cell? (ad140.add ((x9_1).toNat * 6)) = some (.string ((rd_T117 x0_1 x9_1).f0)) ∧ w'.cell? ⟨(ad140.add ((x9_1).toNat * 6)).block, (ad140.add ((x9_1).toNat * 6)).off + 1, none⟩ = some (.string ((rd_T117 x0_1 x9_1).f1)) ∧ w'.cell? ⟨(ad140.add ((x9_1).toNat * 6)).block, (ad140.add ((x9_1).toNat * 6)).off + 2, none⟩ = some (.string ((rd_T117 x0_1 x9_1).f2)) ∧ w'.cell? ⟨(ad140.add ((x9_1).toNat * 6)).block, (ad140.add ((x9_1).toNat * 6)).off + 3, none⟩ = some (.int .i64 ((rd_T117 x0_1 x9_1).f3)) ∧ w'.cell? ⟨(ad140.add ((x9_1).toNat * 6)).block, (ad140.add ((x9_1).toNat * 6)).off + 4, none⟩ = some (.int .i64 ((rd_T117 x0_1 x9_1).f4)) ∧ w'.cell? ⟨(ad140.add ((x9_1).toNat * 6)).block, (ad140.add ((x9_1).toNat * 6)).off + 5, none⟩ = some (.int .i64 ((rd_T117 x0_1 x9_1).f5))) (ds := []) #[false, false, false, false, false, false, false, false, false] (by kernel_rfl) rfl rfl ⟨(qe0 BK136.out 0).trans rfl, (qe0 BK136.out 1).trans rfl, (qe0 BK136.out 2).trans rfl, (qe0 BK136.out 3).trans rfl, (qe0 BK136.out 4).trans rfl, (qe0 BK136.out 5).trans rfl, hx147_0, hx147_1, hx147_2, hx147_3, hx147_4, hx147_5⟩ (fun hHeld => ?_); refine with_tabW impl_bring.tab5 impl_bring.bits5 (fun HT_ HW_ => ?_)
      generalize w14.drew = w15 at HO_0 BK136 HK HB hx147_0 hx147_1 hx147_2 hx147_3 hx147_4 hx147_5 hHeld ⊢
      refine pure_ (i := 0) (N := some 20) (v := ?_) (a' := ?_) #[true, false, false, false, false, false, false, false, false] rfl rfl (qa1 HT_.out (by kernel_rfl)) (fun _ _ _ h => h) (Or.inl ⟨by rfl, ?_⟩) ?_ ?_
      rotate_left
      ·intro w'
       go_simp
       with_reducible rfl
      rotate_left
      ·simp only [Act.put, List.setIfInBounds_toArray, List.set_cons_zero, List.set_cons_succ, i64_w, i32_w]
       rfl
      refine pure_ (i := 1) (N := some 21) (v := ?_) (a' := ?_) #[true, true, false, false, false, false, false, false, false] rfl rfl (qa1 HT_.out (by kernel_rfl)) (fun _ _ _ h => h) (Or.inl ⟨by rfl, ?_⟩) ?_ ?_
      rotate_left
      ·intro w'
       go_simp
       with_reducible rfl
      rotate_left
      ·simp only [Act.put, List.setIfInBounds_toArray, List.set_cons_zero, List.set_cons_succ, i64_w, i32_w]
       rfl
      refine pure_ (i := 2) (N := some 22) (v := ?_) (a' := ?_) #[true, true, true, false, false, false, false, false, false] rfl rfl (qa1 HT_.out (by kernel_rfl)) (fun _ _ _ h => h) (Or.inl ⟨by rfl, ?_⟩) ?_ ?_
      rotate_left
      ·intro w'
       go_simp
       with_reducible rfl
      rotate_left
      ·simp only [Act.put, List.setIfInBounds_toArray, List.set_cons_zero, List.set_cons_succ, i64_w, i32_w]
       rfl
      refine pure_ (i := 3) (N := some 23) (v := ?_) (a' := ?_) #[true, true, true, true, false, false, false, false, false] rfl rfl (qa1 HT_.out (by kernel_rfl)) (fun _ _ _ h => h) (Or.inl ⟨by rfl, ?_⟩) ?_ ?_
      rotate_left
      ·intro w'
       go_simp
       with_reducible rfl
      rotate_left
      ·simp only [Act.put, List.setIfInBounds_toArray, List.set_cons_zero, List.set_cons_succ, i64_w, i32_w]
       rfl
      refine pure_ (i := 5) (N := some 25) (v := ?_) (a' := ?_) #[true, true, true, true, false, true, false, false, false] rfl rfl (qa1 HT_.out (by kernel_rfl)) (fun _ _ _ h => h) (Or.inl ⟨by rfl, ?_⟩) ?_ ?_
      rotate_left
      ·intro w'
       go_simp
       with_reducible rfl
      rotate_left
      ·simp only [Act.put, List.setIfInBounds_toArray, List.set_cons_zero, List.set_cons_succ, i64_w, i32_w]
       rfl
      refine take_ (i := 4) (N := some 24) (v := ?_) (a' := ?_) #[true, true, true, true, true, true, false, false, false] rfl rfl (qo1 HT_.out HW_.out (by kernel_rfl)) (fun _ _ _ h => h) (Or.inl ⟨by rfl, ?_⟩) hHeld ?_ ?_
      rotate_left
      ·rintro w' ⟨s0, s1, s2, s3, s4, s5, s6, s7, s8, s9, s10, s11⟩
       go_simp
       with_reducible rfl
      rotate_left
      ·simp only [Act.put, List.setIfInBounds_toArray, List.set_cons_zero, List.set_cons_succ, i64_w, i32_w]
       rfl
      refine take_ (i := 6) (N := some 26) (v := ?_) (a' := ?_) #[true, true, true, true, true, true, true, false, false] rfl rfl (qo1 HT_.out HW_.out (by kernel_rfl)) (fun _ _ _ h => h) (Or.inl ⟨by rfl, ?_⟩) hHeld ?_ ?_
      rotate_left
      ·rintro w' ⟨s0, s1, s2, s3, s4, s5, s6, s7, s8, s9, s10, s11⟩
       go_simp
       with_reducible rfl
      rotate_left
      ·simp only [Act.put, List.setIfInBounds_toArray, List.set_cons_zero, List.set_cons_succ, i64_w, i32_w]
       rfl
      refine pure_ (i := 7) (N := some 27) (v := ?_) (a' := ?_) #[true, true, true, true, true, true, true, true, false] rfl rfl (qa1 HT_.out (by kernel_rfl)) (fun _ _ _ h => h) (Or.inl ⟨by rfl, ?_⟩) ?_ ?_
      rotate_left
      ·intro w'
       go_simp
       with_reducible rfl
      rotate_left
      ·simp only [Act.put, List.setIfInBounds_toArray, List.set_cons_zero, List.set_cons_succ, i64_w, i32_w]
       rfl
      refine pure_ (i := 8) (N := some 28) (v := ?_) (a' := ?_) #[true, true, true, true, true, true, true, true, true] rfl rfl (qa1 HT_.out (by kernel_rfl)) (fun _ _ _ h => h) (Or.inl ⟨by rfl, ?_⟩) ?_ ?_
      rotate_left
      ·intro w'
       go_simp
       with_reducible rfl
      rotate_left
      ·simp only [Act.put, List.setIfInBounds_toArray, List.set_cons_zero, List.set_cons_succ, i64_w, i32_w]
       rfl
      refine done_ (done_of HT_.out (by kernel_rfl)) ?_
      try go_wp2
      go_ret2
      exact ⟨_, by first | rfl | (simp [errW_none, errW_some] <;> rfl) | (simp [*, errW_none, errW_some] <;> rfl), by first | exact Kd.R_nil _ _ _ _ _ | exact Kd.N_nil _ _ _ _ _ | exact Kd.V_nil _ _ _ _ _ | exact Kd.Q_nil _ _ _ _ _ | exact Kd.S_nil _ _ _ _ _, by repeat (first | (with_reducible first | exact HB.out | apply qc0 | apply qa0 | apply qb0 | refine qg0 ?_ GE136.out) | exact HB.out), by repeat (first | (with_reducible first | exact HK.out | apply Kept.alloc | apply Kept.drewN | apply Kept.drew | refine Kept.setCell ?_ (.inr GW136.out) _) | exact HK.out)⟩
     rw [if_neg c11] at H
     have c11b0 : decide (1000000 < (wrap64 (((rd_T117 x0_1 x9_1).f4) + x137004_1))) = false := decide_eq_false c11
     clear c11
     obtain ⟨y149, hy149⟩ : ∃ y_ : List (S117), y_ = (x0_1.set (x9_1 : Int).toNat (⟨(rd_T117 x0_1 x9_1).f0, (rd_T117 x0_1 x9_1).f1, (rd_T117 x0_1 x9_1).f2, (rd_T117 x0_1 x9_1).f3, wrap64 (((rd_T117 x0_1 x9_1).f4) + x137004_1), (rd_T117 x0_1 x9_1).f5⟩ : S117)) := ⟨_, rfl⟩
     replace H : (some (y149, true)) = some (r1, r2) := by first | (rw [hy149]; with_reducible exact H) | (have H2_ := (Option.bind_some _ _).symm.trans H; rw [hy149]; with_reducible exact H2_) | (have H2_ := (Option.bind_some _ _).symm.trans H; with_reducible exact H2_) | with_reducible exact H | (rw [hy149]; exact H) | exact H
     have Ny149 := Aside0.mk hy149
     clear hy149
     simp only [Option.some.injEq, Prod.mk.injEq] at H
     obtain ⟨rfl, rfl⟩ := H
     try go_wp2
     have n0_ := Aside0.mk (Kd.qj0 HO_0.out)
     have n1_ := Aside0.mk (qp0 BK136.out)
     have n2_ := Aside0.mk (Kept.drew HK.out)
     have n3_ := Aside0.mk (qb0 HB.out)
     clear HO_0
     clear BK136
     clear HK
     clear HB
     have HO_0 := n0_
     have BK136 := n1_
     have HK := n2_
     have HB := n3_
     clear n0_ n1_ n2_ n3_
     have p140 : 0 ≤ (x9_1 : Int) := of_decide_eq_true (by first | (with_reducible assumption) | assumption)
     have q140 : x9_1 < (x0_1.length : Int) := of_decide_eq_true (by first | (with_reducible assumption) | assumption)
     obtain ⟨ad140, e140, hx140_0, hx140_1, hx140_2, hx140_3, hx140_4, hx140_5⟩ := at_T117 (Kd.qf0 HO_0.out).2.2 x9_1 p140 q140
     cases e140
     replace p140 := eq_true p140
     replace q140 := eq_true q140
     refine start_ (n := 8) (S := fun w' => w'.cell? ⟨gb136, 0, none⟩ = some (.string a1_0) ∧ w'.cell? ⟨gb136, 1, none⟩ = some (.string a1_1) ∧ w'.cell? ⟨gb136, 2, none⟩ = some (.string a1_2) ∧ w'.cell? ⟨gb136, 3, none⟩ = some (.int .i64 a1_3) ∧ w'.cell? ⟨gb136, 4, none⟩ = some (.int .i64 x137004_1) ∧ w'.cell? ⟨gb136, 5, none⟩ = some (.int .i64 a1_5) ∧ w'.cell? (ad140.add ((x9_1).toNat * 6)) = some (.string ((rd_T117 x0_1 x9_1).f0)) ∧ w'.cell? ⟨(ad140.add ((x9_1).toNat * 6)).block, (ad140.add ((x9_1).toNat * 6)).off + 1, none⟩ = some (.string ((rd_T117 x0_1 x9_1).f1)) ∧ w'.cell? ⟨(ad140.add ((x9_1).toNat * 6)).block, (ad140.add ((x9_1).toNat * 6)).off + 2, none⟩ = some (.string ((rd_T117 x0_1 x9_1).f2)) ∧ w'.cell? ⟨(ad140.add ((x9_1).toNat * 6)).block, (ad140.add ((x9_1).toNat * 6)).off + 3, none⟩ = some (.int .i64 ((rd_T117 x0_1 x9_1).f3)) ∧ w'.cell? ⟨(ad140.add ((x9_1).toNat * 6)).block, (ad140.add ((x9_1).toNat * 6)).off + 4, none⟩ = some (.int .i64 ((rd_T117 x0_1 x9_1).f4)) ∧ w'.cell? ⟨(ad140.add ((x9_1).toNat * 6)).block, (ad140.add ((x9_1).toNat * 6)).off + 5, none⟩ = some (.int .i64 ((rd_T117 x0_1 x9_1).f5))) (ds := []) #[false, false, false, false, false, false, false, false] (by kernel_rfl) rfl rfl ⟨(qe0 BK136.out 0).trans rfl, (qe0 BK136.out 1).trans rfl, (qe0 BK136.out 2).trans rfl, (qe0 BK136.out 3).trans rfl, (qe0 BK136.out 4).trans rfl, (qe0 BK136.out 5).trans rfl, hx140_0, hx140_1, hx140_2, hx140_3, hx140_4, hx140_5⟩ (fun hHeld => ?_); refine with_tabW impl_bring.tab4 impl_bring.bits4 (fun HT_ HW_ => ?_)
     generalize wr.drew = w17 at HO_0 BK136 HK HB hx140_0 hx140_1 hx140_2 hx140_3 hx140_4 hx140_5 hHeld ⊢
     refine pure_ (i := 0) (N := some 12) (v := ?_) (a' := ?_) #[true, false, false, false, false, false, false, false] rfl rfl (qa1 HT_.out (by kernel_rfl)) (fun _ _ _ h => h) (Or.inl ⟨by rfl, ?_⟩) ?_ ?_
     rotate_left
     ·intro w'
      go_simp
      with_reducible rfl
     rotate_left
     ·simp only [Act.put, List.setIfInBounds_toArray, List.set_cons_zero, List.set_cons_succ, i64_w, i32_w]
      rfl
     refine pure_ (i := 1) (N := some 13) (v := ?_) (a' := ?_) #[true, true, false, false, false, false, false, false] rfl rfl (qa1 HT_.out (by kernel_rfl)) (fun _ _ _ h => h) (Or.inl ⟨by rfl, ?_⟩) ?_ ?_
     rotate_left
     ·intro w'
      go_simp
      with_reducible rfl
     rotate_left
     ·simp only [Act.put, List.setIfInBounds_toArray, List.set_cons_zero, List.set_cons_succ, i64_w, i32_w]
      rfl
     refine pure_ (i := 2) (N := some 14) (v := ?_) (a' := ?_) #[true, true, true, false, false, false, false, false] rfl rfl (qa1 HT_.out (by kernel_rfl)) (fun _ _ _ h => h) (Or.inl ⟨by rfl, ?_⟩) ?_ ?_
     rotate_left
     ·intro w'
      go_simp
      with_reducible rfl
     rotate_left
     ·simp only [Act.put, List.setIfInBounds_toArray, List.set_cons_zero, List.set_cons_succ, i64_w, i32_w]
      rfl
     refine take_ (i := 3) (N := some 15) (v := ?_) (a' := ?_) #[true, true, true, true, false, false, false, false] rfl rfl (qo1 HT_.out HW_.out (by kernel_rfl)) (fun _ _ _ h => h) (Or.inl ⟨by rfl, ?_⟩) hHeld ?_ ?_
     rotate_left
     ·rintro w' ⟨s0, s1, s2, s3, s4, s5, s6, s7, s8, s9, s10, s11⟩
      go_simp
      with_reducible rfl
     rotate_left
     ·simp only [Act.put, List.setIfInBounds_toArray, List.set_cons_zero, List.set_cons_succ, i64_w, i32_w]
      rfl
     refine take_ (i := 5) (N := some 17) (v := ?_) (a' := ?_) #[true, true, true, true, false, true, false, false] rfl rfl (qo1 HT_.out HW_.out (by kernel_rfl)) (fun _ _ _ h => h) (Or.inl ⟨by rfl, ?_⟩) hHeld ?_ ?_
     rotate_left
     ·rintro w' ⟨s0, s1, s2, s3, s4, s5, s6, s7, s8, s9, s10, s11⟩
      go_simp
      with_reducible rfl
     rotate_left
     ·simp only [Act.put, List.setIfInBounds_toArray, List.set_cons_zero, List.set_cons_succ, i64_w, i32_w]
      rfl
     refine one_ (i := 4) (N := some 16) #[true, true, true, true, true, true, false, false] rfl rfl (one_of HT_.out (by kernel_rfl)) (by decide) (fun K hK => ?_)
     refine goes_ Try.func162 (by kernel_rfl) rfl #[.agg #[.string ((rd_T117 x0_1 x9_1).f0), .string ((rd_T117 x0_1 x9_1).f1), .string ((rd_T117 x0_1 x9_1).f2), .int .i64 ((rd_T117 x0_1 x9_1).f3), .int .i64 ((rd_T117 x0_1 x9_1).f4), .int .i64 ((rd_T117 x0_1 x9_1).f5)]] (by rfl) rfl rfl (by (try simp only [List.map_toArray, List.map_cons, List.map_nil]); first | done | rfl | (simp only [List.length_drop, List.length_take]; rfl)) ?_
     with_reducible refine (impl_Cell_where.calls ((rd_T117 x0_1 x9_1).f0) ((rd_T117 x0_1 x9_1).f1) ((rd_T117 x0_1 x9_1).f2) ((rd_T117 x0_1 x9_1).f3) ((rd_T117 x0_1 x9_1).f4) ((rd_T117 x0_1 x9_1).f5) t141 t142 t143 _ A8.out).mono ?_
     rintro e w18 ⟨rfl, hb⟩
     have HS6_ := (hb.cell (World.block_lt_of_cell? _ _ (hHeld.2.2.2.2.2.2.1))).trans (hHeld.2.2.2.2.2.2.1)
     have HS7_ := (hb.cell (World.block_lt_of_cell? _ _ (hHeld.2.2.2.2.2.2.2.1))).trans (hHeld.2.2.2.2.2.2.2.1)
     have HS8_ := (hb.cell (World.block_lt_of_cell? _ _ (hHeld.2.2.2.2.2.2.2.2.1))).trans (hHeld.2.2.2.2.2.2.2.2.1)
     have HS9_ := (hb.cell (World.block_lt_of_cell? _ _ (hHeld.2.2.2.2.2.2.2.2.2.1))).trans (hHeld.2.2.2.2.2.2.2.2.2.1)
     have HS10_ := (hb.cell (World.block_lt_of_cell? _ _ (hHeld.2.2.2.2.2.2.2.2.2.2.1))).trans (hHeld.2.2.2.2.2.2.2.2.2.2.1)
     have HS11_ := (hb.cell (World.block_lt_of_cell? _ _ (hHeld.2.2.2.2.2.2.2.2.2.2.2))).trans (hHeld.2.2.2.2.2.2.2.2.2.2.2)
     refine ⟨_, rfl, ?_⟩
     have n0_ := Aside0.mk (Kd.qg1 (by (with_reducible repeat (first | apply Kd.qi0 | apply Kd.qh0 | apply Kd.qj0)); exact HO_0.out) hb)
     have n1_ := Aside0.mk (ql1 (g := gb136) (o := .cells #[.string a1_0, .string a1_1, .string a1_2, .int .i64 a1_3, .int .i64 x137004_1, .int .i64 a1_5] 117 (0, 0)) (by (with_reducible repeat (first | refine qm0 ?_ _ | refine qp0 ?_ | refine qn0 ?_ _)); exact BK136.out) hb)
     have n2_ := Aside0.mk (Kept.below (S := (fun k_ => P0_ k_)) (by repeat (first | (with_reducible first | exact HK.out | apply Kept.alloc | apply Kept.drewN | apply Kept.drew | refine Kept.setCell ?_ (.inr GW136.out) _) | exact HK.out)) hb)
     have n3_ := Aside0.mk (qk0 (by repeat (first | (with_reducible first | exact HB.out | apply qc0 | apply qa0 | apply qb0 | refine qg0 ?_ GE136.out) | exact HB.out)) hb)
     clear HO_0
     clear BK136
     clear HK
     clear HB
     have HO_0 := n0_
     have BK136 := n1_
     have HK := n2_
     have HB := n3_
     clear n0_ n1_ n2_ n3_
     (try clear hb)
     (try clear hb2)
     (try clear hk)
     (try clear hi)
     refine hK.out _ _ ⟨(qe0 BK136.out 0).trans rfl, (qe0 BK136.out 1).trans rfl, (qe0 BK136.out 2).trans rfl, (qe0 BK136.out 3).trans rfl, (qe0 BK136.out 4).trans rfl, (qe0 BK136.out 5).trans rfl, HS6_, HS7_, HS8_, HS9_, HS10_, HS11_⟩ (fun hHeld => ?_)
     clear hK K
     refine norm_ (a' := ?_) ?_ ?_
     rotate_left
     ·show Act.put _ (some 16) _ = _
      simp only [Act.put, List.setIfInBounds_toArray, List.set_cons_zero, List.set_cons_succ, i64_w, i32_w]
      rfl
     refine one_ (i := 6) (N := some 18) #[true, true, true, true, true, true, true, false] rfl rfl (one_of HT_.out (by kernel_rfl)) (by decide) (fun K hK => ?_)
     refine goes_ Try.func162 (by kernel_rfl) rfl #[.agg #[.string a1_0, .string a1_1, .string a1_2, .int .i64 a1_3, .int .i64 x137004_1, .int .i64 a1_5]] (by rfl) rfl rfl (by (try simp only [List.map_toArray, List.map_cons, List.map_nil]); first | done | rfl | (simp only [List.length_drop, List.length_take]; rfl)) ?_
     with_reducible refine (impl_Cell_where.calls a1_0 a1_1 a1_2 a1_3 x137004_1 a1_5 t144 t145 t146 _ A9.out).mono ?_
     rintro e w19 ⟨rfl, hb⟩
     have HS6_ := (hb.cell (World.block_lt_of_cell? _ _ (hHeld.2.2.2.2.2.2.1))).trans (hHeld.2.2.2.2.2.2.1)
     have HS7_ := (hb.cell (World.block_lt_of_cell? _ _ (hHeld.2.2.2.2.2.2.2.1))).trans (hHeld.2.2.2.2.2.2.2.1)
     have HS8_ := (hb.cell (World.block_lt_of_cell? _ _ (hHeld.2.2.2.2.2.2.2.2.1))).trans (hHeld.2.2.2.2.2.2.2.2.1)
     have HS9_ := (hb.cell (World.block_lt_of_cell? _ _ (hHeld.2.2.2.2.2.2.2.2.2.1))).trans (hHeld.2.2.2.2.2.2.2.2.2.1)
     have HS10_ := (hb.cell (World.block_lt_of_cell? _ _ (hHeld.2.2.2.2.2.2.2.2.2.2.1))).trans (hHeld.2.2.2.2.2.2.2.2.2.2.1)
     have HS11_ := (hb.cell (World.block_lt_of_cell? _ _ (hHeld.2.2.2.2.2.2.2.2.2.2.2))).trans (hHeld.2.2.2.2.2.2.2.2.2.2.2)
     refine ⟨_, rfl, ?_⟩
     have n0_ := Aside0.mk (Kd.qg1 (by (with_reducible repeat (first | apply Kd.qi0 | apply Kd.qh0 | apply Kd.qj0)); exact HO_0.out) hb)
     have n1_ := Aside0.mk (ql1 (g := gb136) (o := .cells #[.string a1_0, .string a1_1, .string a1_2, .int .i64 a1_3, .int .i64 x137004_1, .int .i64 a1_5] 117 (0, 0)) (by (with_reducible repeat (first | refine qm0 ?_ _ | refine qp0 ?_ | refine qn0 ?_ _)); exact BK136.out) hb)
     have n2_ := Aside0.mk (Kept.below (S := (fun k_ => P0_ k_)) (by repeat (first | (with_reducible first | exact HK.out | apply Kept.alloc | apply Kept.drewN | apply Kept.drew | refine Kept.setCell ?_ (.inr GW136.out) _) | exact HK.out)) hb)
     have n3_ := Aside0.mk (qk0 (by repeat (first | (with_reducible first | exact HB.out | apply qc0 | apply qa0 | apply qb0 | refine qg0 ?_ GE136.out) | exact HB.out)) hb)
     clear HO_0
     clear BK136
     clear HK
     clear HB
     have HO_0 := n0_
     have BK136 := n1_
     have HK := n2_
     have HB := n3_
     clear n0_ n1_ n2_ n3_
     (try clear hb)
     (try clear hb2)
     (try clear hk)
     (try clear hi)
     refine hK.out _ _ ⟨(qe0 BK136.out 0).trans rfl, (qe0 BK136.out 1).trans rfl, (qe0 BK136.out 2).trans rfl, (qe0 BK136.out 3).trans rfl, (qe0 BK136.out 4).trans rfl, (qe0 BK136.out 5).trans rfl, HS6_, HS7_, HS8_, HS9_, HS10_, HS11_⟩ (fun hHeld => ?_)
     clear hK K
     refine norm_ (a' := ?_) ?_ ?_
     rotate_left
     ·show Act.put _ (some 18) _ = _
      simp only [Act.put, List.setIfInBounds_toArray, List.set_cons_zero, List.set_cons_succ, i64_w, i32_w]
      rfl
     refine pure_ (i := 7) (N := some 19) (v := ?_) (a' := ?_) #[true, true, true, true, true, true, true, true] rfl rfl (qa1 HT_.out (by kernel_rfl)) (fun _ _ _ h => h) (Or.inl ⟨by rfl, ?_⟩) ?_ ?_
     rotate_left
     ·intro w'
      go_simp
      with_reducible rfl
     rotate_left
     ·simp only [Act.put, List.setIfInBounds_toArray, List.set_cons_zero, List.set_cons_succ, i64_w, i32_w]
      rfl
     refine done_ (done_of HT_.out (by kernel_rfl)) ?_
     try go_wp2
     have n0_ := Aside0.mk (Kd.qj0 HO_0.out)
     have n1_ := Aside0.mk (qp0 BK136.out)
     have n2_ := Aside0.mk (Kept.drew HK.out)
     have n3_ := Aside0.mk (qb0 HB.out)
     clear HO_0
     clear BK136
     clear HK
     clear HB
     have HO_0 := n0_
     have BK136 := n1_
     have HK := n2_
     have HB := n3_
     clear n0_ n1_ n2_ n3_
     have p147 : 0 ≤ (x9_1 : Int) := of_decide_eq_true (by first | (with_reducible assumption) | assumption)
     have q147 : x9_1 < (x0_1.length : Int) := of_decide_eq_true (by first | (with_reducible assumption) | assumption)
     obtain ⟨ad147, e147, hx147_0, hx147_1, hx147_2, hx147_3, hx147_4, hx147_5⟩ := at_T117 (Kd.qf0 HO_0.out).2.2 x9_1 p147 q147
     obtain rfl : ad140 = ad147 := (by injection e147)
     replace p147 := eq_true p147
     replace q147 := eq_true q147
     refine start_ (n := 9) (S := fun w' => w'.cell? ⟨gb136, 0, none⟩ = some (.string a1_0) ∧ w'.cell? ⟨gb136, 1, none⟩ = some (.string a1_1) ∧ w'.cell? ⟨gb136, 2, none⟩ = some (.string a1_2) ∧ w'.cell? ⟨gb136, 3, none⟩ = some (.int .i64 a1_3) ∧ w'.cell? ⟨gb136, 4, none⟩ = some (.int .i64 x137004_1) ∧ w'.cell? ⟨gb136, 5, none⟩ = some (.int .i64 a1_5) ∧ w'.cell? (ad140.add ((x9_1).toNat * 6)) = some (.string ((rd_T117 x0_1 x9_1).f0)) ∧ w'.cell? ⟨(ad140.add ((x9_1).toNat * 6)).block, (ad140.add ((x9_1).toNat * 6)).off + 1, none⟩ = some (.string ((rd_T117 x0_1 x9_1).f1)) ∧ w'.cell? ⟨(ad140.add ((x9_1).toNat * 6)).block, (ad140.add ((x9_1).toNat * 6)).off + 2, none⟩ = some (.string ((rd_T117 x0_1 x9_1).f2)) ∧ w'.cell? ⟨(ad140.add ((x9_1).toNat * 6)).block, (ad140.add ((x9_1).toNat * 6)).off + 3, none⟩ = some (.int .i64 ((rd_T117 x0_1 x9_1).f3)) ∧ w'.cell? ⟨(ad140.add ((x9_1).toNat * 6)).block, (ad140.add ((x9_1).toNat * 6)).off + 4, none⟩ = some (.int .i64 ((rd_T117 x0_1 x9_1).f4)) ∧ w'.cell? ⟨(ad140.add ((x9_1).toNat * 6)).block, (ad140.add ((x9_1).toNat * 6)).off + 5, none⟩ = some (.int .i64 ((rd_T117 x0_1 x9_1).f5))) (ds := []) #[false, false, false, false, false, false, false, false, false] (by kernel_rfl) rfl rfl ⟨(qe0 BK136.out 0).trans rfl, (qe0 BK136.out 1).trans rfl, (qe0 BK136.out 2).trans rfl, (qe0 BK136.out 3).trans rfl, (qe0 BK136.out 4).trans rfl, (qe0 BK136.out 5).trans rfl, hx147_0, hx147_1, hx147_2, hx147_3, hx147_4, hx147_5⟩ (fun hHeld => ?_); refine with_tabW impl_bring.tab5 impl_bring.bits5 (fun HT_ HW_ => ?_)
     generalize w19.drew = w20 at HO_0 BK136 HK HB hx147_0 hx147_1 hx147_2 hx147_3 hx147_4 hx147_5 hHeld ⊢
     refine pure_ (i := 0) (N := some 20) (v := ?_) (a' := ?_) #[true, false, false, false, false, false, false, false, false] rfl rfl (qa1 HT_.out (by kernel_rfl)) (fun _ _ _ h => h) (Or.inl ⟨by rfl, ?_⟩) ?_ ?_
     rotate_left
     ·intro w'
      go_simp
      with_reducible rfl
     rotate_left
     ·simp only [Act.put, List.setIfInBounds_toArray, List.set_cons_zero, List.set_cons_succ, i64_w, i32_w]
      rfl
     refine pure_ (i := 1) (N := some 21) (v := ?_) (a' := ?_) #[true, true, false, false, false, false, false, false, false] rfl rfl (qa1 HT_.out (by kernel_rfl)) (fun _ _ _ h => h) (Or.inl ⟨by rfl, ?_⟩) ?_ ?_
     rotate_left
     ·intro w'
      go_simp
      with_reducible rfl
     rotate_left
     ·simp only [Act.put, List.setIfInBounds_toArray, List.set_cons_zero, List.set_cons_succ, i64_w, i32_w]
      rfl
     refine pure_ (i := 2) (N := some 22) (v := ?_) (a' := ?_) #[true, true, true, false, false, false, false, false, false] rfl rfl (qa1 HT_.out (by kernel_rfl)) (fun _ _ _ h => h) (Or.inl ⟨by rfl, ?_⟩) ?_ ?_
     rotate_left
     ·intro w'
      go_simp
      with_reducible rfl
     rotate_left
     ·simp only [Act.put, List.setIfInBounds_toArray, List.set_cons_zero, List.set_cons_succ, i64_w, i32_w]
      rfl
     refine pure_ (i := 3) (N := some 23) (v := ?_) (a' := ?_) #[true, true, true, true, false, false, false, false, false] rfl rfl (qa1 HT_.out (by kernel_rfl)) (fun _ _ _ h => h) (Or.inl ⟨by rfl, ?_⟩) ?_ ?_
     rotate_left
     ·intro w'
      go_simp
      with_reducible rfl
     rotate_left
     ·simp only [Act.put, List.setIfInBounds_toArray, List.set_cons_zero, List.set_cons_succ, i64_w, i32_w]
      rfl
     refine pure_ (i := 5) (N := some 25) (v := ?_) (a' := ?_) #[true, true, true, true, false, true, false, false, false] rfl rfl (qa1 HT_.out (by kernel_rfl)) (fun _ _ _ h => h) (Or.inl ⟨by rfl, ?_⟩) ?_ ?_
     rotate_left
     ·intro w'
      go_simp
      with_reducible rfl
     rotate_left
     ·simp only [Act.put, List.setIfInBounds_toArray, List.set_cons_zero, List.set_cons_succ, i64_w, i32_w]
      rfl
     refine take_ (i := 4) (N := some 24) (v := ?_) (a' := ?_) #[true, true, true, true, true, true, false, false, false] rfl rfl (qo1 HT_.out HW_.out (by kernel_rfl)) (fun _ _ _ h => h) (Or.inl ⟨by rfl, ?_⟩) hHeld ?_ ?_
     rotate_left
     ·rintro w' ⟨s0, s1, s2, s3, s4, s5, s6, s7, s8, s9, s10, s11⟩
      go_simp
      with_reducible rfl
     rotate_left
     ·simp only [Act.put, List.setIfInBounds_toArray, List.set_cons_zero, List.set_cons_succ, i64_w, i32_w]
      rfl
     refine take_ (i := 6) (N := some 26) (v := ?_) (a' := ?_) #[true, true, true, true, true, true, true, false, false] rfl rfl (qo1 HT_.out HW_.out (by kernel_rfl)) (fun _ _ _ h => h) (Or.inl ⟨by rfl, ?_⟩) hHeld ?_ ?_
     rotate_left
     ·rintro w' ⟨s0, s1, s2, s3, s4, s5, s6, s7, s8, s9, s10, s11⟩
      go_simp
      with_reducible rfl
     rotate_left
     ·simp only [Act.put, List.setIfInBounds_toArray, List.set_cons_zero, List.set_cons_succ, i64_w, i32_w]
      rfl
     refine pure_ (i := 7) (N := some 27) (v := ?_) (a' := ?_) #[true, true, true, true, true, true, true, true, false] rfl rfl (qa1 HT_.out (by kernel_rfl)) (fun _ _ _ h => h) (Or.inl ⟨by rfl, ?_⟩) ?_ ?_
     rotate_left
     ·intro w'
      go_simp
      with_reducible rfl
     rotate_left
     ·simp only [Act.put, List.setIfInBounds_toArray, List.set_cons_zero, List.set_cons_succ, i64_w, i32_w]
      rfl
     refine pure_ (i := 8) (N := some 28) (v := ?_) (a' := ?_) #[true, true, true, true, true, true, true, true, true] rfl rfl (qa1 HT_.out (by kernel_rfl)) (fun _ _ _ h => h) (Or.inl ⟨by rfl, ?_⟩) ?_ ?_
     rotate_left
     ·intro w'
      go_simp
      with_reducible rfl
     rotate_left
     ·simp only [Act.put, List.setIfInBounds_toArray, List.set_cons_zero, List.set_cons_succ, i64_w, i32_w]
      rfl
     refine done_ (done_of HT_.out (by kernel_rfl)) ?_
     try go_wp2
     have n0_ := Aside0.mk (Kd.qj0 HO_0.out)
     have n1_ := Aside0.mk (qp0 BK136.out)
     have n2_ := Aside0.mk (Kept.drew HK.out)
     have n3_ := Aside0.mk (qb0 HB.out)
     clear HO_0
     clear BK136
     clear HK
     clear HB
     have HO_0 := n0_
     have BK136 := n1_
     have HK := n2_
     have HB := n3_
     clear n0_ n1_ n2_ n3_
     have p148 : 0 ≤ (x9_1 : Int) := of_decide_eq_true (by first | (with_reducible assumption) | assumption)
     have q148 : x9_1 < (x0_1.length : Int) := of_decide_eq_true (by first | (with_reducible assumption) | assumption)
     obtain ⟨ad148, e148, hx148_0, hx148_1, hx148_2, hx148_3, hx148_4, hx148_5⟩ := at_T117 (Kd.qf0 HO_0.out).2.2 x9_1 p148 q148
     obtain rfl : ad140 = ad148 := (by injection e148)
     replace p148 := eq_true p148
     replace q148 := eq_true q148
     have p16 : 0 ≤ (x9_1 : Int) := of_decide_eq_true (by first | (with_reducible assumption) | assumption)
     have q16 : (x9_1 : Int) < ((x0_1.length : Int) : Int) := of_decide_eq_true (by first | (with_reducible assumption) | assumption)
     obtain ⟨go16, co16, eo16, gb16, gl16, cl16, HG16⟩ := Kd.R_form HO_0.out (by omega)
     (first | cases eo16 | (injection eo16 with ea_ en_ ec_; (first | subst ea_ | (injection ea_ with ea_; subst ea_)); subst ec_; clear en_))
     have GB16 := Aside0.mk gb16
     have GG16 := Aside0.mk HG16
     clear gb16 gl16 HG16
     have HMgo16 := Aside0.mk (show (P0_ go16 ∨ w.heap.size ≤ go16) from (HO_0.out.1 _ rfl).1)
     (first | simp only [add_plain] at hx140_0 | skip)
     (first | simp only [add_plain] at hx140_1 | skip)
     (first | simp only [add_plain] at hx140_2 | skip)
     (first | simp only [add_plain] at hx140_3 | skip)
     (first | simp only [add_plain] at hx140_4 | skip)
     (first | simp only [add_plain] at hx140_5 | skip)
     (first | simp only [add_plain] at hx147_0 | skip)
     (first | simp only [add_plain] at hx147_1 | skip)
     (first | simp only [add_plain] at hx147_2 | skip)
     (first | simp only [add_plain] at hx147_3 | skip)
     (first | simp only [add_plain] at hx147_4 | skip)
     (first | simp only [add_plain] at hx147_5 | skip)
     (first | simp only [add_plain] at hx148_0 | skip)
     (first | simp only [add_plain] at hx148_1 | skip)
     (first | simp only [add_plain] at hx148_2 | skip)
     (first | simp only [add_plain] at hx148_3 | skip)
     (first | simp only [add_plain] at hx148_4 | skip)
     (first | simp only [add_plain] at hx148_5 | skip)
     obtain ⟨ce16, hcl16, hM16, hcc16, hfr16⟩ := Kd.qt1 HO_0.out z117 (x9_1 : Int) p16 q16
     obtain rfl := k117_openM hM16
     have hx16_0 : World.cell? _ ⟨go16, (x9_1 : Int).toNat * 6, none⟩ = some (.string ((rd_T117 x0_1 x9_1).f0)) := hcc16 0 _ rfl
     have hx16_1 : World.cell? _ ⟨go16, (x9_1 : Int).toNat * 6 + 1, none⟩ = some (.string ((rd_T117 x0_1 x9_1).f1)) := hcc16 1 _ rfl
     have hx16_2 : World.cell? _ ⟨go16, (x9_1 : Int).toNat * 6 + 2, none⟩ = some (.string ((rd_T117 x0_1 x9_1).f2)) := hcc16 2 _ rfl
     have hx16_3 : World.cell? _ ⟨go16, (x9_1 : Int).toNat * 6 + 3, none⟩ = some (.int .i64 ((rd_T117 x0_1 x9_1).f3)) := hcc16 3 _ rfl
     have hx16_4 : World.cell? _ ⟨go16, (x9_1 : Int).toNat * 6 + 4, none⟩ = some (.int .i64 ((rd_T117 x0_1 x9_1).f4)) := hcc16 4 _ rfl
     have hx16_5 : World.cell? _ ⟨go16, (x9_1 : Int).toNat * 6 + 5, none⟩ = some (.int .i64 ((rd_T117 x0_1 x9_1).f5)) := hcc16 5 _ rfl
     have hf16_0 : World.frozen? _ ⟨go16, (x9_1 : Int).toNat * 6, none⟩ = false := hfr16 0
     have hf16_1 : World.frozen? _ ⟨go16, (x9_1 : Int).toNat * 6 + 1, none⟩ = false := hfr16 1
     have hf16_2 : World.frozen? _ ⟨go16, (x9_1 : Int).toNat * 6 + 2, none⟩ = false := hfr16 2
     have hf16_3 : World.frozen? _ ⟨go16, (x9_1 : Int).toNat * 6 + 3, none⟩ = false := hfr16 3
     have hf16_4 : World.frozen? _ ⟨go16, (x9_1 : Int).toNat * 6 + 4, none⟩ = false := hfr16 4
     have hf16_5 : World.frozen? _ ⟨go16, (x9_1 : Int).toNat * 6 + 5, none⟩ = false := hfr16 5
     clear hcl16 hcc16 hfr16 hM16
     replace p16 := eq_true p16
     replace q16 := eq_true q16
     obtain ⟨ce22, hcl22, hM22, hcc22, hfr22⟩ := Kd.qt1 HO_0.out z117 (x9_1 : Int) (of_decide_eq_true (by first | (with_reducible assumption) | assumption)) (by have h_ : (x9_1 : Int) < ((x0_1.length : Int) : Int) := of_decide_eq_true (by first | (with_reducible assumption) | assumption); first | exact h_ | (have e_ := (Kd.qf0 HO_0.out).1; omega) | simpa using h_)
     obtain rfl := k117_openM hM22
     have HP22 := (Kd.R_seg HO_0.out (x9_1 : Int) (of_decide_eq_true (by first | (with_reducible assumption) | assumption)) (by have h_ : (x9_1 : Int) < ((x0_1.length : Int) : Int) := of_decide_eq_true (by first | (with_reducible assumption) | assumption); first | exact h_ | (have e_ := (Kd.qf0 HO_0.out).1; omega) | simpa using h_) (seg := [.int .i64 (wrap64 (((rd_T117 x0_1 x9_1).f4) + x137004_1))]) (j := 4) hcl22 hcc22 (show 5 ≤ 6 from by decide) (x' := (⟨(rd_T117 x0_1 x9_1).f0, (rd_T117 x0_1 x9_1).f1, (rd_T117 x0_1 x9_1).f2, (rd_T117 x0_1 x9_1).f3, wrap64 (((rd_T117 x0_1 x9_1).f4) + x137004_1), (rd_T117 x0_1 x9_1).f5⟩ : S117)) (k117_mkM _ _ _ (⟨(rd_T117 x0_1 x9_1).f0, (rd_T117 x0_1 x9_1).f1, (rd_T117 x0_1 x9_1).f2, (rd_T117 x0_1 x9_1).f3, wrap64 (((rd_T117 x0_1 x9_1).f4) + x137004_1), (rd_T117 x0_1 x9_1).f5⟩ : S117) ) (fun _ hk => hk)).1
     rw [← Ny149.out] at HP22
     have HQ22 := Aside0.mk HP22
     clear hcl22 hcc22 hfr22 hM22 HP22
     refine start_ (n := 11) (S := fun w' => w'.cell? ⟨gb136, 0, none⟩ = some (.string a1_0) ∧ w'.cell? ⟨gb136, 1, none⟩ = some (.string a1_1) ∧ w'.cell? ⟨gb136, 2, none⟩ = some (.string a1_2) ∧ w'.cell? ⟨gb136, 3, none⟩ = some (.int .i64 a1_3) ∧ w'.cell? ⟨gb136, 4, none⟩ = some (.int .i64 x137004_1) ∧ w'.cell? ⟨gb136, 5, none⟩ = some (.int .i64 a1_5) ∧ w'.cell? ⟨go16, ((x9_1).toNat * 6), none⟩ = some (.string ((rd_T117 x0_1 x9_1).f0)) ∧ w'.cell? ⟨go16, ((x9_1).toNat * 6) + 1, none⟩ = some (.string ((rd_T117 x0_1 x9_1).f1)) ∧ w'.cell? ⟨go16, ((x9_1).toNat * 6) + 2, none⟩ = some (.string ((rd_T117 x0_1 x9_1).f2)) ∧ w'.cell? ⟨go16, ((x9_1).toNat * 6) + 3, none⟩ = some (.int .i64 ((rd_T117 x0_1 x9_1).f3)) ∧ w'.cell? ⟨go16, ((x9_1).toNat * 6) + 4, none⟩ = some (.int .i64 ((rd_T117 x0_1 x9_1).f4)) ∧ w'.cell? ⟨go16, ((x9_1).toNat * 6) + 5, none⟩ = some (.int .i64 ((rd_T117 x0_1 x9_1).f5))) (ds := [10]) #[false, false, false, false, false, false, false, false, false, false, false] (by kernel_rfl) rfl rfl ⟨(qe0 BK136.out 0).trans rfl, (qe0 BK136.out 1).trans rfl, (qe0 BK136.out 2).trans rfl, (qe0 BK136.out 3).trans rfl, (qe0 BK136.out 4).trans rfl, (qe0 BK136.out 5).trans rfl, hx148_0, hx148_1, hx148_2, hx148_3, hx148_4, hx148_5⟩ (fun hHeld => ?_); refine with_tabW impl_bring.tab7 impl_bring.bits7 (fun HT_ HW_ => ?_)
     generalize w20.drew = w21 at HO_0 BK136 HK HB GG16 HQ22 hf16_0 hf16_1 hf16_2 hf16_3 hf16_4 hf16_5 hx140_0 hx140_1 hx140_2 hx140_3 hx140_4 hx140_5 hx147_0 hx147_1 hx147_2 hx147_3 hx147_4 hx147_5 hx148_0 hx148_1 hx148_2 hx148_3 hx148_4 hx148_5 hx16_0 hx16_1 hx16_2 hx16_3 hx16_4 hx16_5 hHeld ⊢
     refine pure_ (i := 0) (N := some 29) (v := ?_) (a' := ?_) #[true, false, false, false, false, false, false, false, false, false, false] rfl rfl (qa1 HT_.out (by kernel_rfl)) (fun _ _ _ h => h) (Or.inl ⟨by rfl, ?_⟩) ?_ ?_
     rotate_left
     ·intro w'
      go_simp
      with_reducible rfl
     rotate_left
     ·simp only [Act.put, List.setIfInBounds_toArray, List.set_cons_zero, List.set_cons_succ, i64_w, i32_w]
      rfl
     refine pure_ (i := 1) (N := some 30) (v := ?_) (a' := ?_) #[true, true, false, false, false, false, false, false, false, false, false] rfl rfl (qa1 HT_.out (by kernel_rfl)) (fun _ _ _ h => h) (Or.inl ⟨by rfl, ?_⟩) ?_ ?_
     rotate_left
     ·intro w'
      go_simp
      with_reducible rfl
     rotate_left
     ·simp only [Act.put, List.setIfInBounds_toArray, List.set_cons_zero, List.set_cons_succ, i64_w, i32_w]
      rfl
     refine pure_ (i := 2) (N := some 31) (v := ?_) (a' := ?_) #[true, true, true, false, false, false, false, false, false, false, false] rfl rfl (qa1 HT_.out (by kernel_rfl)) (fun _ _ _ h => h) (Or.inl ⟨by rfl, ?_⟩) ?_ ?_
     rotate_left
     ·intro w'
      go_simp
      with_reducible rfl
     rotate_left
     ·simp only [Act.put, List.setIfInBounds_toArray, List.set_cons_zero, List.set_cons_succ, i64_w, i32_w]
      rfl
     refine pure_ (i := 3) (N := some 32) (v := ?_) (a' := ?_) #[true, true, true, true, false, false, false, false, false, false, false] rfl rfl (qa1 HT_.out (by kernel_rfl)) (fun _ _ _ h => h) (Or.inl ⟨by rfl, ?_⟩) ?_ ?_
     rotate_left
     ·intro w'
      go_simp
      with_reducible rfl
     rotate_left
     ·simp only [Act.put, List.setIfInBounds_toArray, List.set_cons_zero, List.set_cons_succ, i64_w, i32_w]
      rfl
     refine pure_ (i := 5) (N := some 34) (v := ?_) (a' := ?_) #[true, true, true, true, false, true, false, false, false, false, false] rfl rfl (qa1 HT_.out (by kernel_rfl)) (fun _ _ _ h => h) (Or.inl ⟨by rfl, ?_⟩) ?_ ?_
     rotate_left
     ·intro w'
      go_simp
      with_reducible rfl
     rotate_left
     ·simp only [Act.put, List.setIfInBounds_toArray, List.set_cons_zero, List.set_cons_succ, i64_w, i32_w]
      rfl
     refine take_ (i := 4) (N := some 33) (v := ?_) (a' := ?_) #[true, true, true, true, true, true, false, false, false, false, false] rfl rfl (qo1 HT_.out HW_.out (by kernel_rfl)) (fun _ _ _ h => h) (Or.inl ⟨by rfl, ?_⟩) hHeld ?_ ?_
     rotate_left
     ·rintro w' ⟨s0, s1, s2, s3, s4, s5, s6, s7, s8, s9, s10, s11⟩
      go_simp
      with_reducible rfl
     rotate_left
     ·simp only [Act.put, List.setIfInBounds_toArray, List.set_cons_zero, List.set_cons_succ, i64_w, i32_w]
      rfl
     refine take_ (i := 6) (N := some 35) (v := ?_) (a' := ?_) #[true, true, true, true, true, true, true, false, false, false, false] rfl rfl (qo1 HT_.out HW_.out (by kernel_rfl)) (fun _ _ _ h => h) (Or.inl ⟨by rfl, ?_⟩) hHeld ?_ ?_
     rotate_left
     ·rintro w' ⟨s0, s1, s2, s3, s4, s5, s6, s7, s8, s9, s10, s11⟩
      go_simp
      with_reducible rfl
     rotate_left
     ·simp only [Act.put, List.setIfInBounds_toArray, List.set_cons_zero, List.set_cons_succ, i64_w, i32_w]
      rfl
     refine pure_ (i := 7) (N := some 36) (v := ?_) (a' := ?_) #[true, true, true, true, true, true, true, true, false, false, false] rfl rfl (qa1 HT_.out (by kernel_rfl)) (fun _ _ _ h => h) (Or.inl ⟨by rfl, ?_⟩) ?_ ?_
     rotate_left
     ·intro w'
      go_simp
      with_reducible rfl
     rotate_left
     ·simp only [Act.put, List.setIfInBounds_toArray, List.set_cons_zero, List.set_cons_succ, i64_w, i32_w]
      rfl
     refine pure_ (i := 8) (N := some 37) (v := ?_) (a' := ?_) #[true, true, true, true, true, true, true, true, true, false, false] rfl rfl (qa1 HT_.out (by kernel_rfl)) (fun _ _ _ h => h) (Or.inl ⟨by rfl, ?_⟩) ?_ ?_
     rotate_left
     ·intro w'
      go_simp
      with_reducible rfl
     rotate_left
     ·simp only [Act.put, List.setIfInBounds_toArray, List.set_cons_zero, List.set_cons_succ, i64_w, i32_w]
      rfl
     refine pure_ (i := 9) (N := some 38) (v := ?_) (a' := ?_) #[true, true, true, true, true, true, true, true, true, true, false] rfl rfl (qa1 HT_.out (by kernel_rfl)) (fun _ _ _ h => h) (Or.inl ⟨by rfl, ?_⟩) ?_ ?_
     rotate_left
     ·intro w'
      go_simp
      with_reducible rfl
     rotate_left
     ·simp only [Act.put, List.setIfInBounds_toArray, List.set_cons_zero, List.set_cons_succ, i64_w, i32_w]
      rfl
     refine last_ (i := 10) (N := none) #[true, true, true, true, true, true, true, true, true, true, true] rfl rfl (one_of HT_.out (by kernel_rfl)) (by decide) (fun K hK => ?_)
     refine skip_ (w1 := ?_) (by rfl) rfl ?_ ?_
     rotate_left
     ·go_simp
      rfl
     refine hK.out _ _ ?_
     clear hK K
     refine done_ (done_of HT_.out (by kernel_rfl)) ?_
     try go_wp2
     go_ret2
     exact ⟨_, by first | rfl | (simp [errW_none, errW_some] <;> rfl) | (simp [*, errW_none, errW_some] <;> rfl), by (with_reducible repeat (first | apply Kd.qi0 | apply Kd.qh0 | apply Kd.qj0)); exact Kd.qv0 HQ22.out (fun _ hk => hk.1), by repeat (first | (with_reducible first | exact HB.out | apply qc0 | apply qa0 | apply qb0 | refine qg0 ?_ GB16.out | refine qg0 ?_ GE136.out) | exact HB.out), by repeat (first | (with_reducible first | exact HK.out | apply Kept.alloc | apply Kept.drewN | apply Kept.drew | refine Kept.setCell ?_ HMgo16.out _ | refine Kept.setCell ?_ (.inr GW136.out) _) | exact HK.out)⟩
    rw [if_neg c10] at H
    have c10b0 : (t141.toList == t144.toList && (t142.toList == t145.toList && (t143.toList == t146.toList))) = false := by simpa using c10
    (try (have c10b1 : decide (t141.toList = t144.toList && (t142.toList == t145.toList && (t143.toList == t146.toList))) = false := by simpa using c10))
    (try (have c10b2 : (t141.toList == t144.toList && (t142.toList == t145.toList && (t143.toList == t146.toList))) = false := by simpa using c10))
    (try (have c10b3 : ¬ (t141.toList = t144.toList && (t142.toList == t145.toList && (t143.toList == t146.toList))) := by simpa using c10))
    clear c10
    have H' := Aside0.mk H
    clear H
    try go_wp2
    have n0_ := Aside0.mk (Kd.qj0 HO_0.out)
    have n1_ := Aside0.mk (qp0 BK136.out)
    have n2_ := Aside0.mk (Kept.drew HK.out)
    have n3_ := Aside0.mk (qb0 HB.out)
    clear HO_0
    clear BK136
    clear HK
    clear HB
    have HO_0 := n0_
    have BK136 := n1_
    have HK := n2_
    have HB := n3_
    clear n0_ n1_ n2_ n3_
    have p140 : 0 ≤ (x9_1 : Int) := of_decide_eq_true (by first | (with_reducible assumption) | assumption)
    have q140 : x9_1 < (x0_1.length : Int) := of_decide_eq_true (by first | (with_reducible assumption) | assumption)
    obtain ⟨ad140, e140, hx140_0, hx140_1, hx140_2, hx140_3, hx140_4, hx140_5⟩ := at_T117 (Kd.qf0 HO_0.out).2.2 x9_1 p140 q140
    cases e140
    replace p140 := eq_true p140
    replace q140 := eq_true q140
    refine start_ (n := 8) (S := fun w' => w'.cell? ⟨gb136, 0, none⟩ = some (.string a1_0) ∧ w'.cell? ⟨gb136, 1, none⟩ = some (.string a1_1) ∧ w'.cell? ⟨gb136, 2, none⟩ = some (.string a1_2) ∧ w'.cell? ⟨gb136, 3, none⟩ = some (.int .i64 a1_3) ∧ w'.cell? ⟨gb136, 4, none⟩ = some (.int .i64 x137004_1) ∧ w'.cell? ⟨gb136, 5, none⟩ = some (.int .i64 a1_5) ∧ w'.cell? (ad140.add ((x9_1).toNat * 6)) = some (.string ((rd_T117 x0_1 x9_1).f0)) ∧ w'.cell? ⟨(ad140.add ((x9_1).toNat * 6)).block, (ad140.add ((x9_1).toNat * 6)).off + 1, none⟩ = some (.string ((rd_T117 x0_1 x9_1).f1)) ∧ w'.cell? ⟨(ad140.add ((x9_1).toNat * 6)).block, (ad140.add ((x9_1).toNat * 6)).off + 2, none⟩ = some (.string ((rd_T117 x0_1 x9_1).f2)) ∧ w'.cell? ⟨(ad140.add ((x9_1).toNat * 6)).block, (ad140.add ((x9_1).toNat * 6)).off + 3, none⟩ = some (.int .i64 ((rd_T117 x0_1 x9_1).f3)) ∧ w'.cell? ⟨(ad140.add ((x9_1).toNat * 6)).block, (ad140.add ((x9_1).toNat * 6)).off + 4, none⟩ = some (.int .i64 ((rd_T117 x0_1 x9_1).f4)) ∧ w'.cell? ⟨(ad140.add ((x9_1).toNat * 6)).block, (ad140.add ((x9_1).toNat * 6)).off + 5, none⟩ = some (.int .i64 ((rd_T117 x0_1 x9_1).f5))) (ds := []) #[false, false, false, false, false, false, false, false] (by kernel_rfl) rfl rfl ⟨(qe0 BK136.out 0).trans rfl, (qe0 BK136.out 1).trans rfl, (qe0 BK136.out 2).trans rfl, (qe0 BK136.out 3).trans rfl, (qe0 BK136.out 4).trans rfl, (qe0 BK136.out 5).trans rfl, hx140_0, hx140_1, hx140_2, hx140_3, hx140_4, hx140_5⟩ (fun hHeld => ?_); refine with_tabW impl_bring.tab4 impl_bring.bits4 (fun HT_ HW_ => ?_)
    generalize wr.drew = w23 at HO_0 BK136 HK HB hx140_0 hx140_1 hx140_2 hx140_3 hx140_4 hx140_5 hHeld ⊢
    refine pure_ (i := 0) (N := some 12) (v := ?_) (a' := ?_) #[true, false, false, false, false, false, false, false] rfl rfl (qa1 HT_.out (by kernel_rfl)) (fun _ _ _ h => h) (Or.inl ⟨by rfl, ?_⟩) ?_ ?_
    rotate_left
    ·intro w'
     go_simp
     with_reducible rfl
    rotate_left
    ·simp only [Act.put, List.setIfInBounds_toArray, List.set_cons_zero, List.set_cons_succ, i64_w, i32_w]
     rfl
    refine pure_ (i := 1) (N := some 13) (v := ?_) (a' := ?_) #[true, true, false, false, false, false, false, false] rfl rfl (qa1 HT_.out (by kernel_rfl)) (fun _ _ _ h => h) (Or.inl ⟨by rfl, ?_⟩) ?_ ?_
    rotate_left
    ·intro w'
     go_simp
     with_reducible rfl
    rotate_left
    ·simp only [Act.put, List.setIfInBounds_toArray, List.set_cons_zero, List.set_cons_succ, i64_w, i32_w]
     rfl
    refine pure_ (i := 2) (N := some 14) (v := ?_) (a' := ?_) #[true, true, true, false, false, false, false, false] rfl rfl (qa1 HT_.out (by kernel_rfl)) (fun _ _ _ h => h) (Or.inl ⟨by rfl, ?_⟩) ?_ ?_
    rotate_left
    ·intro w'
     go_simp
     with_reducible rfl
    rotate_left
    ·simp only [Act.put, List.setIfInBounds_toArray, List.set_cons_zero, List.set_cons_succ, i64_w, i32_w]
     rfl
    refine take_ (i := 3) (N := some 15) (v := ?_) (a' := ?_) #[true, true, true, true, false, false, false, false] rfl rfl (qo1 HT_.out HW_.out (by kernel_rfl)) (fun _ _ _ h => h) (Or.inl ⟨by rfl, ?_⟩) hHeld ?_ ?_
    rotate_left
    ·rintro w' ⟨s0, s1, s2, s3, s4, s5, s6, s7, s8, s9, s10, s11⟩
     go_simp
     with_reducible rfl
    rotate_left
    ·simp only [Act.put, List.setIfInBounds_toArray, List.set_cons_zero, List.set_cons_succ, i64_w, i32_w]
     rfl
    refine take_ (i := 5) (N := some 17) (v := ?_) (a' := ?_) #[true, true, true, true, false, true, false, false] rfl rfl (qo1 HT_.out HW_.out (by kernel_rfl)) (fun _ _ _ h => h) (Or.inl ⟨by rfl, ?_⟩) hHeld ?_ ?_
    rotate_left
    ·rintro w' ⟨s0, s1, s2, s3, s4, s5, s6, s7, s8, s9, s10, s11⟩
     go_simp
     with_reducible rfl
    rotate_left
    ·simp only [Act.put, List.setIfInBounds_toArray, List.set_cons_zero, List.set_cons_succ, i64_w, i32_w]
     rfl
    refine one_ (i := 4) (N := some 16) #[true, true, true, true, true, true, false, false] rfl rfl (one_of HT_.out (by kernel_rfl)) (by decide) (fun K hK => ?_)
    refine goes_ Try.func162 (by kernel_rfl) rfl #[.agg #[.string ((rd_T117 x0_1 x9_1).f0), .string ((rd_T117 x0_1 x9_1).f1), .string ((rd_T117 x0_1 x9_1).f2), .int .i64 ((rd_T117 x0_1 x9_1).f3), .int .i64 ((rd_T117 x0_1 x9_1).f4), .int .i64 ((rd_T117 x0_1 x9_1).f5)]] (by rfl) rfl rfl (by (try simp only [List.map_toArray, List.map_cons, List.map_nil]); first | done | rfl | (simp only [List.length_drop, List.length_take]; rfl)) ?_
    with_reducible refine (impl_Cell_where.calls ((rd_T117 x0_1 x9_1).f0) ((rd_T117 x0_1 x9_1).f1) ((rd_T117 x0_1 x9_1).f2) ((rd_T117 x0_1 x9_1).f3) ((rd_T117 x0_1 x9_1).f4) ((rd_T117 x0_1 x9_1).f5) t141 t142 t143 _ A8.out).mono ?_
    rintro e w24 ⟨rfl, hb⟩
    have HS6_ := (hb.cell (World.block_lt_of_cell? _ _ (hHeld.2.2.2.2.2.2.1))).trans (hHeld.2.2.2.2.2.2.1)
    have HS7_ := (hb.cell (World.block_lt_of_cell? _ _ (hHeld.2.2.2.2.2.2.2.1))).trans (hHeld.2.2.2.2.2.2.2.1)
    have HS8_ := (hb.cell (World.block_lt_of_cell? _ _ (hHeld.2.2.2.2.2.2.2.2.1))).trans (hHeld.2.2.2.2.2.2.2.2.1)
    have HS9_ := (hb.cell (World.block_lt_of_cell? _ _ (hHeld.2.2.2.2.2.2.2.2.2.1))).trans (hHeld.2.2.2.2.2.2.2.2.2.1)
    have HS10_ := (hb.cell (World.block_lt_of_cell? _ _ (hHeld.2.2.2.2.2.2.2.2.2.2.1))).trans (hHeld.2.2.2.2.2.2.2.2.2.2.1)
    have HS11_ := (hb.cell (World.block_lt_of_cell? _ _ (hHeld.2.2.2.2.2.2.2.2.2.2.2))).trans (hHeld.2.2.2.2.2.2.2.2.2.2.2)
    refine ⟨_, rfl, ?_⟩
    have n0_ := Aside0.mk (Kd.qg1 (by (with_reducible repeat (first | apply Kd.qi0 | apply Kd.qh0 | apply Kd.qj0)); exact HO_0.out) hb)
    have n1_ := Aside0.mk (ql1 (g := gb136) (o := .cells #[.string a1_0, .string a1_1, .string a1_2, .int .i64 a1_3, .int .i64 x137004_1, .int .i64 a1_5] 117 (0, 0)) (by (with_reducible repeat (first | refine qm0 ?_ _ | refine qp0 ?_ | refine qn0 ?_ _)); exact BK136.out) hb)
    have n2_ := Aside0.mk (Kept.below (S := (fun k_ => P0_ k_)) (by repeat (first | (with_reducible first | exact HK.out | apply Kept.alloc | apply Kept.drewN | apply Kept.drew | refine Kept.setCell ?_ (.inr GW136.out) _) | exact HK.out)) hb)
    have n3_ := Aside0.mk (qk0 (by repeat (first | (with_reducible first | exact HB.out | apply qc0 | apply qa0 | apply qb0 | refine qg0 ?_ GE136.out) | exact HB.out)) hb)
    clear HO_0
    clear BK136
    clear HK
    clear HB
    have HO_0 := n0_
    have BK136 := n1_
    have HK := n2_
    have HB := n3_
    clear n0_ n1_ n2_ n3_
    (try clear hb)
    (try clear hb2)
    (try clear hk)
    (try clear hi)
    refine hK.out _ _ ⟨(qe0 BK136.out 0).trans rfl, (qe0 BK136.out 1).trans rfl, (qe0 BK136.out 2).trans rfl, (qe0 BK136.out 3).trans rfl, (qe0 BK136.out 4).trans rfl, (qe0 BK136.out 5).trans rfl, HS6_, HS7_, HS8_, HS9_, HS10_, HS11_⟩ (fun hHeld => ?_)
    clear hK K
    refine norm_ (a' := ?_) ?_ ?_
    rotate_left
    ·show Act.put _ (some 16) _ = _
     simp only [Act.put, List.setIfInBounds_toArray, List.set_cons_zero, List.set_cons_succ, i64_w, i32_w]
     rfl
    refine one_ (i := 6) (N := some 18) #[true, true, true, true, true, true, true, false] rfl rfl (one_of HT_.out (by kernel_rfl)) (by decide) (fun K hK => ?_)
    refine goes_ Try.func162 (by kernel_rfl) rfl #[.agg #[.string a1_0, .string a1_1, .string a1_2, .int .i64 a1_3, .int .i64 x137004_1, .int .i64 a1_5]] (by rfl) rfl rfl (by (try simp only [List.map_toArray, List.map_cons, List.map_nil]); first | done | rfl | (simp only [List.length_drop, List.length_take]; rfl)) ?_
    with_reducible refine (impl_Cell_where.calls a1_0 a1_1 a1_2 a1_3 x137004_1 a1_5 t144 t145 t146 _ A9.out).mono ?_
    rintro e w25 ⟨rfl, hb⟩
    have HS6_ := (hb.cell (World.block_lt_of_cell? _ _ (hHeld.2.2.2.2.2.2.1))).trans (hHeld.2.2.2.2.2.2.1)
    have HS7_ := (hb.cell (World.block_lt_of_cell? _ _ (hHeld.2.2.2.2.2.2.2.1))).trans (hHeld.2.2.2.2.2.2.2.1)
    have HS8_ := (hb.cell (World.block_lt_of_cell? _ _ (hHeld.2.2.2.2.2.2.2.2.1))).trans (hHeld.2.2.2.2.2.2.2.2.1)
    have HS9_ := (hb.cell (World.block_lt_of_cell? _ _ (hHeld.2.2.2.2.2.2.2.2.2.1))).trans (hHeld.2.2.2.2.2.2.2.2.2.1)
    have HS10_ := (hb.cell (World.block_lt_of_cell? _ _ (hHeld.2.2.2.2.2.2.2.2.2.2.1))).trans (hHeld.2.2.2.2.2.2.2.2.2.2.1)
    have HS11_ := (hb.cell (World.block_lt_of_cell? _ _ (hHeld.2.2.2.2.2.2.2.2.2.2.2))).trans (hHeld.2.2.2.2.2.2.2.2.2.2.2)
    refine ⟨_, rfl, ?_⟩
    have n0_ := Aside0.mk (Kd.qg1 (by (with_reducible repeat (first | apply Kd.qi0 | apply Kd.qh0 | apply Kd.qj0)); exact HO_0.out) hb)
    have n1_ := Aside0.mk (ql1 (g := gb136) (o := .cells #[.string a1_0, .string a1_1, .string a1_2, .int .i64 a1_3, .int .i64 x137004_1, .int .i64 a1_5] 117 (0, 0)) (by (with_reducible repeat (first | refine qm0 ?_ _ | refine qp0 ?_ | refine qn0 ?_ _)); exact BK136.out) hb)
    have n2_ := Aside0.mk (Kept.below (S := (fun k_ => P0_ k_)) (by repeat (first | (with_reducible first | exact HK.out | apply Kept.alloc | apply Kept.drewN | apply Kept.drew | refine Kept.setCell ?_ (.inr GW136.out) _) | exact HK.out)) hb)
    have n3_ := Aside0.mk (qk0 (by repeat (first | (with_reducible first | exact HB.out | apply qc0 | apply qa0 | apply qb0 | refine qg0 ?_ GE136.out) | exact HB.out)) hb)
    clear HO_0
    clear BK136
    clear HK
    clear HB
    have HO_0 := n0_
    have BK136 := n1_
    have HK := n2_
    have HB := n3_
    clear n0_ n1_ n2_ n3_
    (try clear hb)
    (try clear hb2)
    (try clear hk)
    (try clear hi)
    refine hK.out _ _ ⟨(qe0 BK136.out 0).trans rfl, (qe0 BK136.out 1).trans rfl, (qe0 BK136.out 2).trans rfl, (qe0 BK136.out 3).trans rfl, (qe0 BK136.out 4).trans rfl, (qe0 BK136.out 5).trans rfl, HS6_, HS7_, HS8_, HS9_, HS10_, HS11_⟩ (fun hHeld => ?_)
    clear hK K
    refine norm_ (a' := ?_) ?_ ?_
    rotate_left
    ·show Act.put _ (some 18) _ = _
     simp only [Act.put, List.setIfInBounds_toArray, List.set_cons_zero, List.set_cons_succ, i64_w, i32_w]
     rfl
    refine pure_ (i := 7) (N := some 19) (v := ?_) (a' := ?_) #[true, true, true, true, true, true, true, true] rfl rfl (qa1 HT_.out (by kernel_rfl)) (fun _ _ _ h => h) (Or.inl ⟨by rfl, ?_⟩) ?_ ?_
    rotate_left
    ·intro w'
     go_simp
     with_reducible rfl
    rotate_left
    ·simp only [Act.put, List.setIfInBounds_toArray, List.set_cons_zero, List.set_cons_succ, i64_w, i32_w]
     rfl
    refine done_ (done_of HT_.out (by kernel_rfl)) ?_
    try go_wp2
    (try simp only [← hl0_1])
    go_roundg k1
    case measure => have := HK1.out; omega
    case rel => exact ⟨(x0_1), (wrap64 (x9_1 + 1)), (x137004_1), (by first | rfl | (simp; done) | (simp [*]; done)), H', ⟨by have := HK1.out; omega⟩, ⟨by (try simp only [hl0_1]); (with_reducible repeat (first | apply Kd.qi0 | apply Kd.qh0 | apply Kd.qj0)); exact HO_0.out⟩, ⟨by (try simp only [hl0_1]); (with_reducible repeat (first | refine qm0 ?_ _ | refine qp0 ?_ | refine qn0 ?_ _)); exact BK136.out⟩, ⟨by repeat (first | (with_reducible first | exact HK.out | apply Kept.alloc | apply Kept.drewN | apply Kept.drew | refine Kept.setCell ?_ (.inr GW136.out) _) | exact HK.out)⟩, ⟨by repeat (first | (with_reducible first | exact HB.out | apply qc0 | apply qa0 | apply qb0 | refine qg0 ?_ GE136.out) | exact HB.out)⟩⟩
   rw [if_neg c5] at H
   have c5b0 : decide (x9_1 < (l0.length : Int)) = false := decide_eq_false c5
   (try rw [hl0_1] at c5b0)
   clear c5
   by_cases c26 : (x0_1.length : Int) = 100
   ·rw [if_pos c26] at H
    have c26b0 : ((x0_1.length : Int) == 100) = true := beq_iff_eq.mpr c26
    have c26b1 : ((x0_1.length : Int) != 100) = false := bne_eq_false_iff_eq.mpr c26
    clear c26
    simp only [Option.some.injEq, Prod.mk.injEq] at H
    obtain ⟨rfl, rfl⟩ := H
    go_wp2
    go_ret2
    exact ⟨_, by first | rfl | (simp [errW_none, errW_some] <;> rfl) | (simp [*, errW_none, errW_some] <;> rfl), by first | exact Kd.R_nil _ _ _ _ _ | exact Kd.N_nil _ _ _ _ _ | exact Kd.V_nil _ _ _ _ _ | exact Kd.Q_nil _ _ _ _ _ | exact Kd.S_nil _ _ _ _ _, by repeat (first | (with_reducible first | exact HB.out | apply qc0 | apply qa0 | apply qb0 | refine qg0 ?_ GE136.out) | exact HB.out), by repeat (first | (with_reducible first | exact HK.out | apply Kept.alloc | apply Kept.drewN | apply Kept.drew | refine Kept.setCell ?_ (.inr GW136.out) _) | exact HK.out)⟩
   rw [if_neg c26] at H
   have c26b0 : ((x0_1.length : Int) == 100) = false := beq_eq_false_iff_ne.mpr c26
   have c26b1 : ((x0_1.length : Int) != 100) = true := bne_iff_ne.mpr c26
   by_cases c27 : x0_1.length < 1954687338268
   case neg => rw [if_neg c27] at H; exact absurd H (by simp)
   rw [if_pos c27] at H
   have LMc27 := Aside0.mk c27
   clear c27
   obtain ⟨y137, hy137⟩ : ∃ y_ : List (S117), y_ = (x0_1 ++ [(⟨a1_0, a1_1, a1_2, a1_3, x137004_1, a1_5⟩ : S117)]) := ⟨_, rfl⟩
   replace H : (some (y137, true)) = some (r1, r2) := by first | (rw [hy137]; with_reducible exact H) | (have H2_ := (Option.bind_some _ _).symm.trans H; rw [hy137]; with_reducible exact H2_) | (have H2_ := (Option.bind_some _ _).symm.trans H; with_reducible exact H2_) | with_reducible exact H | (rw [hy137]; exact H) | exact H
   have Ny137 := Aside0.mk hy137
   clear hy137
   simp only [Option.some.injEq, Prod.mk.injEq] at H
   obtain ⟨rfl, rfl⟩ := H
   have hcz28_0 : wr.cell? ⟨gb136, 0, none⟩ = some (.string a1_0) := (qe0 BK136.out 0).trans rfl
   have hcz28_1 : wr.cell? ⟨gb136, 1, none⟩ = some (.string a1_1) := (qe0 BK136.out 1).trans rfl
   have hcz28_2 : wr.cell? ⟨gb136, 2, none⟩ = some (.string a1_2) := (qe0 BK136.out 2).trans rfl
   have hcz28_3 : wr.cell? ⟨gb136, 3, none⟩ = some (.int .i64 a1_3) := (qe0 BK136.out 3).trans rfl
   have hcz28_4 : wr.cell? ⟨gb136, 4, none⟩ = some (.int .i64 x137004_1) := (qe0 BK136.out 4).trans rfl
   have hcz28_5 : wr.cell? ⟨gb136, 5, none⟩ = some (.int .i64 a1_5) := (qe0 BK136.out 5).trans rfl
   have hfz28_0 := qd0 BK136.out 0
   have hfz28_1 := qd0 BK136.out 1
   have hfz28_2 := qd0 BK136.out 2
   have hfz28_3 := qd0 BK136.out 3
   have hfz28_4 := qd0 BK136.out 4
   have hfz28_5 := qd0 BK136.out 5
   go_wp2_with (first | ((with_reducible refine gate_builtin (b := .append) (xs := #[.tmp 44, .tmp 46]) rfl ?_); at_builtin; refine Kd.R_append k117 (w0 := w0) w0.heap.size rfl (.tmp 44) (.tmp 46) 72 117 (.agg #[(.string ⟨#[]⟩), (.string ⟨#[]⟩), (.string ⟨#[]⟩), (.int .i64 0), (.int .i64 0), (.int .i64 0)]) 72 rfl Try.underlying72 info117 rfl (by decide) (by omega) (.slice Ao4 x0_1.length co4) x0_1 (⟨a1_0, a1_1, a1_2, a1_3, x137004_1, a1_5⟩ : S117) [.string a1_0, .string a1_1, .string a1_2, .int .i64 a1_3, .int .i64 x137004_1, .int .i64 a1_5] (fun k_ => (P0_ k_ ∨ w.heap.size ≤ k_) ∧ k_ ≠ gb136) (fun _ => False) rfl rfl ?aP (fun _ hk => hk.elim) ?aF ?aO ?aB ?aS ?aL ?_; (case aP => exact k117_mkM _ _ _ (⟨a1_0, a1_1, a1_2, a1_3, x137004_1, a1_5⟩ : S117)); (case aB => exact (by repeat (first | (with_reducible first | exact HB.out | apply qc0 | apply qa0 | apply qb0 | refine qg0 ?_ GE136.out) | exact HB.out))); (case aF => exact (fun k_ hk => ⟨(.inr (Nat.le_trans (by first | exact HK.out.1 | exact (show Kept w _ (fun k_ => P0_ k_) from by repeat (first | (with_reducible first | exact HK.out | apply Kept.alloc | apply Kept.drewN | apply Kept.drew | refine Kept.setCell ?_ (.inr GW136.out) _) | exact HK.out)).1) hk)), Kd.freshB (g := gb136) (o := .cells #[.string a1_0, .string a1_1, .string a1_2, .int .i64 a1_3, .int .i64 x137004_1, .int .i64 a1_5] 117 (0, 0)) (by (with_reducible repeat (first | refine qm0 ?_ _ | refine qp0 ?_ | refine qn0 ?_ _)); exact BK136.out) k_ hk⟩)); (case aO => exact (by (with_reducible repeat (first | apply Kd.qi0 | apply Kd.qh0 | apply Kd.qj0)); exact HO_0.out)); (case aS => exact (ql0 (by repeat (first | (with_reducible first | exact HB.out | apply qc0 | apply qa0 | apply qb0 | refine qg0 ?_ GE136.out) | exact HB.out)))); (case aL => have := LMc27.out; omega); intro v138 w29 ho hb hg hat; rw [← Ny137.out] at ho; have n0_ := Aside0.mk (blk_grown (g := gb136) (o := .cells #[.string a1_0, .string a1_1, .string a1_2, .int .i64 a1_3, .int .i64 x137004_1, .int .i64 a1_5] 117 (0, 0)) (by (with_reducible repeat (first | refine qm0 ?_ _ | refine qp0 ?_ | refine qn0 ?_ _)); exact BK136.out) hg (Kd.R_away HO_0.out (fun _ hk => hk.2))); have n1_ := Aside0.mk (hb); have n2_ := Aside0.mk (Kept.of_grown (S := (fun k_ => P0_ k_)) hg (by repeat (first | (with_reducible first | exact HK.out | apply Kept.alloc | apply Kept.drewN | apply Kept.drew | refine Kept.setCell ?_ (.inr GW136.out) _) | exact HK.out)) (fun k_ e_ => (HO_0.out.1 k_ e_).1)); have n3_ := Aside0.mk (ho); clear BK136; clear HB; clear HK; clear HO_0; have BK136 := n0_; have HB := n1_; have HK := n2_; have HO139 := n3_; clear n0_ n1_ n2_ n3_; clear ho hb hg hat))
   go_ret2
   exact ⟨_, by first | rfl | (simp [errW_none, errW_some] <;> rfl) | (simp [*, errW_none, errW_some] <;> rfl), by (with_reducible repeat (first | apply Kd.qi0 | apply Kd.qh0 | apply Kd.qj0)); exact Kd.qv0 HO139.out (fun _ hk => hk.1), by repeat (first | (with_reducible first | exact HB.out | apply qc0 | apply qa0 | apply qb0 | refine qg0 ?_ GE136.out) | exact HB.out), by repeat (first | (with_reducible first | exact HK.out | apply Kept.alloc | apply Kept.drewN | apply Kept.drew | refine Kept.setCell ?_ (.inr GW136.out) _) | exact HK.out)⟩

end Go.Proofs.Ytinibkdbfpafcaa.PFnMoved
