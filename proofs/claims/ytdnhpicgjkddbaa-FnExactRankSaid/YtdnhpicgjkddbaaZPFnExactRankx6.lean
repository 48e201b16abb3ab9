/- Lines by a program (a changed copy of the kit's print: this repo's wip/tools): Go functions as Lean functions, and proofs that the calls answer so. -/
import Derived.Test.YtdnhpicgjkddbaaZPFnExactRankx0
namespace Go.Proofs.Ytdnhpicgjkddbaa.PFnExactRank
open Go.RowKit Go.Proofs.YtdnhpicgjkddbaaW.PrintWords Go.Proofs.YtdnhpicgjkddbaaW.PrintLast Go.Proofs.YtdnhpicgjkddbaaW.PrintMore
/-- Runs of true and false, by turns. -/
def rb6l : Bool → List Nat → List Bool
 | _, [] => []
 | b, n :: r => List.replicate n b ++ rb6l (!b) r
def rb6 (l : List Nat) : Array Bool := (rb6l true l).toArray
attribute [local go_sem] max2_int min2_int max_two min_two max_three min_three max_four min_four   -- for this text's walks alone
set_option linter.unusedVariables false
set_option linter.unusedSimpArgs false

/-! ### impl_sortBy_int: function 122 -/
mutual
def impl_sortBy_int.l0 : Nat → List Int → (Int → Int → Option Bool) → List Int → List Int → Int → Int → Int → Int → Option (List Int)
 | 0, _, _, _, _, _, _, _, _ => none
 | k + 1, x0, x1, x5, x6, x7, x8, x33, x34 => if x34 < x33 then (if x8 = (x6.length : Int) then (if 0 ≤ x7 then (if x7 < (x5.length : Int) then (if 0 ≤ x34 then (if x34 < (x0.length : Int) then (impl_sortBy_int.l0 k (x0.set (x34 : Int).toNat (rd x5 x7)) x1 x5 x6 (wrap64 (x7 + 1)) x8 x33 (wrap64 (x34 + 1))) else (none)) else (none)) else (none)) else (none)) else (if x7 < (x5.length : Int) then (if 0 ≤ x8 then (if x8 < (x6.length : Int) then (if 0 ≤ x7 then ((x1 (rd x6 x8) (rd x5 x7)).bind fun t221 => (if t221 = true then (if 0 ≤ x34 then (if x34 < (x0.length : Int) then (impl_sortBy_int.l0 k (x0.set (x34 : Int).toNat (rd x6 x8)) x1 x5 x6 x7 (wrap64 (x8 + 1)) x33 (wrap64 (x34 + 1))) else (none)) else (none)) else (if 0 ≤ x34 then (if x34 < (x0.length : Int) then (impl_sortBy_int.l0 k (x0.set (x34 : Int).toNat (rd x5 x7)) x1 x5 x6 (wrap64 (x7 + 1)) x8 x33 (wrap64 (x34 + 1))) else (none)) else (none)))) else (none)) else (none)) else (none)) else (if 0 ≤ x8 then (if x8 < (x6.length : Int) then (if 0 ≤ x34 then (if x34 < (x0.length : Int) then (impl_sortBy_int.l0 k (x0.set (x34 : Int).toNat (rd x6 x8)) x1 x5 x6 x7 (wrap64 (x8 + 1)) x33 (wrap64 (x34 + 1))) else (none)) else (none)) else (none)) else (none)))) else (some x0)
def impl_sortBy_int.f : Nat → List Int → (Int → Int → Option Bool) → Option (List Int)
 | 0, _, _ => none
 | k + 1, l0, a1 => if (l0.length : Int) < 2 then (some l0) else ((some (([] : List Int) : List Int)).bind fun y195 => (if 0 ≤ (wrap64 ((l0.length : Int) / 2)) then (if (wrap64 ((l0.length : Int) / 2)) ≤ (l0.length : Int) then ((some (l0.take ((wrap64 ((l0.length : Int) / 2)) : Int).toNat : List Int)).bind fun y198 => (if y195.length + y198.length < 17592186044416 then ((some (([] : List Int) : List Int)).bind fun y205 => ((some (l0.drop ((wrap64 ((l0.length : Int) / 2)) : Int).toNat : List Int)).bind fun y208 => (if y205.length + y208.length < 17592186044416 then ((impl_sortBy_int.f k (y195 ++ y198) a1).bind fun t215 => ((impl_sortBy_int.f k (y205 ++ y208) a1).bind fun t216 => (impl_sortBy_int.l0 k l0 a1 t215 t216 0 0 (l0.length : Int) 0))) else (none)))) else (none))) else (none)) else (none)))
end
theorem impl_sortBy_int.mono_l : ∀ k, (∀ y0 y1, LeO (impl_sortBy_int.f k y0 y1) (impl_sortBy_int.f (k + 1) y0 y1)) ∧ (∀ y0 y1 y2 y3 y4 y5 y6 y7, LeO (impl_sortBy_int.l0 k y0 y1 y2 y3 y4 y5 y6 y7) (impl_sortBy_int.l0 (k + 1) y0 y1 y2 y3 y4 y5 y6 y7))
 | 0 => ⟨fun _ _ r h => by simp [impl_sortBy_int.f] at h, fun _ _ _ _ _ _ _ _ r h => by simp [impl_sortBy_int.l0] at h⟩
 | k + 1 => by
  obtain ⟨ih0, ih1⟩ := impl_sortBy_int.mono_l k
  refine ⟨?_, ?_⟩
  ·intro y0 y1
   unfold impl_sortBy_int.f
   repeat' first
   | (with_reducible exact ih0 _ _)
   | (with_reducible exact ih1 _ _ _ _ _ _ _ _)
   | (with_reducible exact LeO.refl _)
   | (with_reducible exact LeO.none _)
   | (with_reducible refine LeO.ite ?_ ?_)
   | (with_reducible refine LeO.bind ?_ (fun _ => ?_))
   | exact ih0 _ _
   | exact ih1 _ _ _ _ _ _ _ _
   | exact LeO.none _
   | refine LeO.ite ?_ ?_
   | refine LeO.bind ?_ (fun _ => ?_)
  ·intro y0 y1 y2 y3 y4 y5 y6 y7
   unfold impl_sortBy_int.l0
   repeat' first
   | (with_reducible exact ih0 _ _)
   | (with_reducible exact ih1 _ _ _ _ _ _ _ _)
   | (with_reducible exact LeO.refl _)
   | (with_reducible exact LeO.none _)
   | (with_reducible refine LeO.ite ?_ ?_)
   | (with_reducible refine LeO.bind ?_ (fun _ => ?_))
   | exact ih0 _ _
   | exact ih1 _ _ _ _ _ _ _ _
   | exact LeO.none _
   | refine LeO.ite ?_ ?_
   | refine LeO.bind ?_ (fun _ => ?_)
theorem impl_sortBy_int.mono : ∀ a0 a1 k, LeO (impl_sortBy_int.f k a0 a1) (impl_sortBy_int.f (k + 1) a0 a1) := by
 intro a0 a1 k
 obtain ⟨ih0, ih1⟩ := impl_sortBy_int.mono_l k
 exact ih0 a0 a1
def impl_sortBy_int.T10 : Bool × List (List Nat × List Nat) := (true, [([], []), ([], []), ([1], [1]), ([0, 2], [0, 2]), ([3], [3]), ([4], [4]), ([4], [4]), ([6, 4], [4, 6]), ([5, 7, 4], [4, 5, 7]), ([8, 4, 4], [4, 8]), ([9], [9]), ([9], [9]), ([9], [9]), ([11, 12, 9], [9, 11, 12]), ([13, 9], [9, 13]), ([9], [9]), ([9], [9]), ([15, 16, 9], [9, 15, 16]), ([17, 9], [9, 17]), ([10, 14, 18, 9, 9], [9, 10, 14, 18]), ([19, 9], [9, 19]), ([9, 20, 4], [4, 9, 20]), ([4, 21], [4, 21])])
def impl_sortBy_int.B10 : List Nat := [0, 0, 2, 7, 15, 31, 31, 95, 255, 511, 1023, 1023, 1023, 7167, 15359, 1023, 1023, 99327, 230399, 524287, 1048575, 2097151, 4194303]
theorem impl_sortBy_int.tab10 : rtab .any (opsOf Try.f122 10) = impl_sortBy_int.T10 := by kernel_rfl
theorem impl_sortBy_int.bits10 : waitsOk impl_sortBy_int.T10.2 impl_sortBy_int.B10 = true := by kernel_rfl
set_option maxHeartbeats 8000000 in
set_option maxRecDepth 100000 in
theorem impl_sortBy_int.calls (k : Nat) : ∀ (P0_ : Nat → Prop) (u9000_ : Value) (l0 : List Int) (f1 : Nat) (b1 : Array Value × Array Value) (a1 : (Int → Int → Option Bool)) (r : List Int) (w0 w : World) (hB : Below w0.heap.size w0 w) (ho0 : Kd.R (Kd.int .i64) 3 w w0.heap.size P0_ u9000_ l0) (hq1 : ∀ W_, Kept w W_ (fun k_ => P0_ k_) → FnOk (α := Int) Try.prog W_ f1 b1 (Value.int .i64) a1) (h : impl_sortBy_int.f k l0 a1 = some r),
  Calls Try.prog 122 #[u9000_, .func (.func f1) b1.1 b1.2] w fun e w' => e = .returned (.tuple #[]) ∧ Kd.R (Kd.int .i64) 3 w' w0.heap.size (fun k_ => (P0_ k_ ∨ w.heap.size ≤ k_)) u9000_ r ∧ Below w0.heap.size w0 w' ∧ Kept w w' (fun k_ => P0_ k_) := by
 induction k using Nat.strongRecOn with
 | _ k ih =>
 intro P0_ u9000_ l0 f1 b1 a1 r w0 w hB ho0 hq1 h
 cases k with
 | zero => exact absurd h (by simp [impl_sortBy_int.f])
 | succ k =>
 simp only [impl_sortBy_int.f] at h
 have HO0 := Aside0.mk (show Kd.R (Kd.int .i64) 3 w w0.heap.size (fun k_ => (P0_ k_ ∨ w.heap.size ≤ k_)) u9000_ l0 from Kd.qa1 ho0 (fun k_ hk => (.inl hk)))
 have HQ1 := Aside0.mk hq1
 clear hq1
 have HK := Aside0.mk (Kept.refl w (fun k_ => P0_ k_))
 have HW0 := Aside0.mk hB.size
 have HB := Aside0.mk hB
 clear hB
 have H : (if (l0.length : Int) < 2 then (some l0) else ((some (([] : List Int) : List Int)).bind fun y195 => (if 0 ≤ (wrap64 ((l0.length : Int) / 2)) then (if (wrap64 ((l0.length : Int) / 2)) ≤ (l0.length : Int) then ((some (l0.take ((wrap64 ((l0.length : Int) / 2)) : Int).toNat : List Int)).bind fun y198 => (if y195.length + y198.length < 17592186044416 then ((some (([] : List Int) : List Int)).bind fun y205 => ((some (l0.drop ((wrap64 ((l0.length : Int) / 2)) : Int).toNat : List Int)).bind fun y208 => (if y205.length + y208.length < 17592186044416 then ((impl_sortBy_int.f k (y195 ++ y198) a1).bind fun t215 => ((impl_sortBy_int.f k (y205 ++ y208) a1).bind fun t216 => (impl_sortBy_int.l0 k l0 a1 t215 t216 0 0 (l0.length : Int) 0))) else (none)))) else (none))) else (none)) else (none)))) = some r := h
 clear h
 by_cases c3 : (l0.length : Int) < 2
 ·rw [if_pos c3] at H
  have c3b0 : decide ((l0.length : Int) < 2) = true := decide_eq_true c3
  have c3b1 : decide (l0.length < 2) = true := decide_eq_true (by omega)
  clear c3
  obtain rfl := Option.some.inj H
  obtain ⟨Ao4, co4, eo4⟩ := Kd.ql1 HO0.out
  subst eo4
  go_enter Try.func122, Try.ntmps122
  go_wp2
  first | go_end0 | ((try simp only [Exit.inBlock, Exit.then]); refine bodyPost_ret (results_none rfl _ _ _) rfl ?_)
  exact ⟨by first | rfl | (simp [errW_none, errW_some] <;> rfl) | (simp [*, errW_none, errW_some] <;> rfl), by (with_reducible repeat (first | apply Kd.qp0 | apply Kd.qo0 | apply Kd.qq0)); exact HO0.out, by repeat (first | (with_reducible first | exact HB.out | apply qc0 | apply qa0 | apply qb0) | exact HB.out), by repeat (first | (with_reducible first | exact HK.out | apply Kept.alloc | apply Kept.drewN | apply Kept.drew) | exact HK.out)⟩
 rw [if_neg c3] at H
 have c3b0 : decide ((l0.length : Int) < 2) = false := decide_eq_false c3
 have c3b1 : decide (l0.length < 2) = false := decide_eq_false (by omega)
 clear c3
 obtain ⟨y195, hy195⟩ : ∃ y_ : List Int, y_ = (([] : List Int)) := ⟨_, rfl⟩
 replace H : (if 0 ≤ (wrap64 ((l0.length : Int) / 2)) then (if (wrap64 ((l0.length : Int) / 2)) ≤ (l0.length : Int) then ((some (l0.take ((wrap64 ((l0.length : Int) / 2)) : Int).toNat : List Int)).bind fun y198 => (if y195.length + y198.length < 17592186044416 then ((some (([] : List Int) : List Int)).bind fun y205 => ((some (l0.drop ((wrap64 ((l0.length : Int) / 2)) : Int).toNat : List Int)).bind fun y208 => (if y205.length + y208.length < 17592186044416 then ((impl_sortBy_int.f k (y195 ++ y198) a1).bind fun t215 => ((impl_sortBy_int.f k (y205 ++ y208) a1).bind fun t216 => (impl_sortBy_int.l0 k l0 a1 t215 t216 0 0 (l0.length : Int) 0))) else (none)))) else (none))) else (none)) else (none)) = some r := by first | (rw [hy195]; with_reducible exact H) | (have H2_ := (Option.bind_some _ _).symm.trans H; rw [hy195]; with_reducible exact H2_) | (have H2_ := (Option.bind_some _ _).symm.trans H; with_reducible exact H2_) | with_reducible exact H | (rw [hy195]; exact H) | exact H
 have Ny195 := Aside0.mk hy195
 clear hy195
 obtain ⟨ji5, hji5⟩ : ∃ j_ : Int, (wrap64 ((l0.length : Int) / 2)) = j_ := ⟨_, rfl⟩
 replace H : (if 0 ≤ (ji5) then (if (ji5) ≤ (l0.length : Int) then ((some (l0.take ((ji5) : Int).toNat : List Int)).bind fun y198 => (if y195.length + y198.length < 17592186044416 then ((some (([] : List Int) : List Int)).bind fun y205 => ((some (l0.drop ((ji5) : Int).toNat : List Int)).bind fun y208 => (if y205.length + y208.length < 17592186044416 then ((impl_sortBy_int.f k (y195 ++ y198) a1).bind fun t215 => ((impl_sortBy_int.f k (y205 ++ y208) a1).bind fun t216 => (impl_sortBy_int.l0 k l0 a1 t215 t216 0 0 (l0.length : Int) 0))) else (none)))) else (none))) else (none)) else (none)) = some r := by first | (rw [hji5] at H; exact H) | (simp only [hji5] at H ⊢; exact H)
 have hji5w : (IntKind.i64.wrap ((l0.length : Int) / 2)) = ji5 := (i64_w _).trans hji5
 by_cases c6 : 0 ≤ (ji5)
 case neg => rw [if_neg c6] at H; exact absurd H (by simp)
 rw [if_pos c6] at H
 have c6b0 := eq_true c6
 have c6b1 : decide (0 ≤ (ji5)) = true := decide_eq_true c6
 clear c6
 by_cases c7 : (ji5) ≤ (l0.length : Int)
 case neg => rw [if_neg c7] at H; exact absurd H (by simp)
 rw [if_pos c7] at H
 have c7b0 := eq_true c7
 have c7b1 : decide ((ji5) ≤ (l0.length : Int)) = true := decide_eq_true c7
 clear c7
 obtain ⟨y198, hy198⟩ : ∃ y_ : List Int, y_ = (l0.take ((ji5) : Int).toNat) := ⟨_, rfl⟩
 replace H : (if y195.length + y198.length < 17592186044416 then ((some (([] : List Int) : List Int)).bind fun y205 => ((some (l0.drop ((ji5) : Int).toNat : List Int)).bind fun y208 => (if y205.length + y208.length < 17592186044416 then ((impl_sortBy_int.f k (y195 ++ y198) a1).bind fun t215 => ((impl_sortBy_int.f k (y205 ++ y208) a1).bind fun t216 => (impl_sortBy_int.l0 k l0 a1 t215 t216 0 0 (l0.length : Int) 0))) else (none)))) else (none)) = some r := by first | (rw [hy198]; with_reducible exact H) | (have H2_ := (Option.bind_some _ _).symm.trans H; rw [hy198]; with_reducible exact H2_) | (have H2_ := (Option.bind_some _ _).symm.trans H; with_reducible exact H2_) | with_reducible exact H | (rw [hy198]; exact H) | exact H
 have Ny198 := Aside0.mk hy198
 clear hy198
 by_cases c8 : y195.length + y198.length < 17592186044416
 case neg => rw [if_neg c8] at H; exact absurd H (by simp)
 rw [if_pos c8] at H
 have LMc8 := Aside0.mk c8
 clear c8
 obtain ⟨y202, hy202⟩ : ∃ y_ : List Int, y_ = (y195 ++ y198) := ⟨_, rfl⟩
 replace H : ((some (([] : List Int) : List Int)).bind fun y205 => ((some (l0.drop ((ji5) : Int).toNat : List Int)).bind fun y208 => (if y205.length + y208.length < 17592186044416 then ((impl_sortBy_int.f k y202 a1).bind fun t215 => ((impl_sortBy_int.f k (y205 ++ y208) a1).bind fun t216 => (impl_sortBy_int.l0 k l0 a1 t215 t216 0 0 (l0.length : Int) 0))) else (none)))) = some r := by first | (rw [hy202]; with_reducible exact H) | (have H2_ := (Option.bind_some _ _).symm.trans H; rw [hy202]; with_reducible exact H2_) | (have H2_ := (Option.bind_some _ _).symm.trans H; with_reducible exact H2_) | with_reducible exact H | (rw [hy202]; exact H) | exact H
 have Ny202 := Aside0.mk hy202
 clear hy202
 obtain ⟨y205, hy205⟩ : ∃ y_ : List Int, y_ = (([] : List Int)) := ⟨_, rfl⟩
 replace H : ((some (l0.drop ((ji5) : Int).toNat : List Int)).bind fun y208 => (if y205.length + y208.length < 17592186044416 then ((impl_sortBy_int.f k y202 a1).bind fun t215 => ((impl_sortBy_int.f k (y205 ++ y208) a1).bind fun t216 => (impl_sortBy_int.l0 k l0 a1 t215 t216 0 0 (l0.length : Int) 0))) else (none))) = some r := by first | (rw [hy205]; with_reducible exact H) | (have H2_ := (Option.bind_some _ _).symm.trans H; rw [hy205]; with_reducible exact H2_) | (have H2_ := (Option.bind_some _ _).symm.trans H; with_reducible exact H2_) | with_reducible exact H | (rw [hy205]; exact H) | exact H
 have Ny205 := Aside0.mk hy205
 clear hy205
 have c9b0 := eq_true (of_decide_eq_true (by first | (with_reducible assumption) | assumption) : 0 ≤ (ji5))
 have c10b0 := eq_true (of_decide_eq_true (by first | (with_reducible assumption) | assumption) : (ji5) ≤ (l0.length : Int))
 obtain ⟨y208, hy208⟩ : ∃ y_ : List Int, y_ = (l0.drop ((ji5) : Int).toNat) := ⟨_, rfl⟩
 replace H : (if y205.length + y208.length < 17592186044416 then ((impl_sortBy_int.f k y202 a1).bind fun t215 => ((impl_sortBy_int.f k (y205 ++ y208) a1).bind fun t216 => (impl_sortBy_int.l0 k l0 a1 t215 t216 0 0 (l0.length : Int) 0))) else (none)) = some r := by first | (rw [hy208]; with_reducible exact H) | (have H2_ := (Option.bind_some _ _).symm.trans H; rw [hy208]; with_reducible exact H2_) | (have H2_ := (Option.bind_some _ _).symm.trans H; with_reducible exact H2_) | with_reducible exact H | (rw [hy208]; exact H) | exact H
 have Ny208 := Aside0.mk hy208
 clear hy208
 by_cases c11 : y205.length + y208.length < 17592186044416
 case neg => rw [if_neg c11] at H; exact absurd H (by simp)
 rw [if_pos c11] at H
 have LMc11 := Aside0.mk c11
 clear c11
 obtain ⟨y212, hy212⟩ : ∃ y_ : List Int, y_ = (y205 ++ y208) := ⟨_, rfl⟩
 replace H : ((impl_sortBy_int.f k y202 a1).bind fun t215 => ((impl_sortBy_int.f k y212 a1).bind fun t216 => (impl_sortBy_int.l0 k l0 a1 t215 t216 0 0 (l0.length : Int) 0))) = some r := by first | (rw [hy212]; with_reducible exact H) | (have H2_ := (Option.bind_some _ _).symm.trans H; rw [hy212]; with_reducible exact H2_) | (have H2_ := (Option.bind_some _ _).symm.trans H; with_reducible exact H2_) | with_reducible exact H | (rw [hy212]; exact H) | exact H
 have Ny212 := Aside0.mk hy212
 clear hy212
 replace H := Option.bind_eq_some_iff.mp H
 obtain ⟨t215, A120, H⟩ := H
 replace H : ((impl_sortBy_int.f k y212 a1).bind fun t216 => (impl_sortBy_int.l0 k l0 a1 t215 t216 0 0 (l0.length : Int) 0)) = some r := H
 have A12 := Aside0.mk A120
 clear A120
 replace H := Option.bind_eq_some_iff.mp H
 obtain ⟨t216, A130, H⟩ := H
 replace H : (impl_sortBy_int.l0 k l0 a1 t215 t216 0 0 (l0.length : Int) 0) = some r := H
 have A13 := Aside0.mk A130
 clear A130
 have H' := Aside0.mk H
 clear H
 obtain ⟨Ao14, co14, eo14⟩ := Kd.ql1 HO0.out
 subst eo14
 go_enter Try.func122, Try.ntmps122
 go_wp2_with (first | ((with_reducible refine qw0 (N := 16) rfl ?_); (try (refine gate_guard (by rfl) ?_; dsimp only)); refine Kd.R_lit (Kd.int .i64) _ 3 ?hg (N := 16) ?hd (xs := ([] : List Int)) (inner := []) (ok := fun _ => True) (okp := fun _ => True) ?hr ?hp (fun _ hk => hk) trivial (Below.refl _ _) (Nat.le_refl _) (by simp) ?_; (case hd => rfl); (case hg => rfl); (case hr => first | (go_simp; done) | (go_simp; rfl)); (case hp => exact (Reps.none _ _)); intro v196 w15 ho16 hb hg_ hnew_; clear hg_ hnew_; (first | rw [← Ny195.out] at ho16 | (simp only [Int.reduceToNat] at ho16; rw [← Ny195.out] at ho16)); have n0_ := Aside0.mk (Kd.R_elder' (by (with_reducible repeat (first | apply Kd.qp0 | apply Kd.qo0 | apply Kd.qq0)); exact HO0.out) (Kd.R_base ho16) hb); have n1_ := Aside0.mk (Kd.R_lower (Kd.R_new' (Kd.R_newM (M := fun k_ => (P0_ k_ ∨ w.heap.size ≤ k_)) ho16 (by first | exact HK.out.1 | exact (show Kept w _ (fun k_ => P0_ k_) from by repeat (first | (with_reducible first | exact HK.out | apply Kept.alloc | apply Kept.drewN | apply Kept.drew) | exact HK.out)).1) (fun k_ h_ => .inr h_)) (Kd.R_lt (by (with_reducible repeat (first | apply Kd.qp0 | apply Kd.qo0 | apply Kd.qq0)); exact HO0.out))) (qg0 (by repeat (first | (with_reducible first | exact HB.out | apply qc0 | apply qa0 | apply qb0) | exact HB.out)))); have n2_ := Aside0.mk (Kept.below (S := (fun k_ => P0_ k_)) (by repeat (first | (with_reducible first | exact HK.out | apply Kept.alloc | apply Kept.drewN | apply Kept.drew) | exact HK.out)) hb); have n3_ := Aside0.mk (qj0 (by repeat (first | (with_reducible first | exact HB.out | apply qc0 | apply qa0 | apply qb0) | exact HB.out)) hb); clear HO0; clear HK; clear HB; have HO0 := n0_; have HO197 := n1_; have HK := n2_; have HB := n3_; clear n0_ n1_ n2_ n3_; clear hb ho16; have q17 : ((ji5) : Int) ≤ ((l0.length : Int) : Int) := of_decide_eq_true (by first | (with_reducible assumption) | assumption); obtain ⟨i017, hi017, _, hsz17, _⟩ := info_parts info3; have hroom17 : l0.length ≤ co14 := (Kd.qn0 HO0.out).2.1; have hC17 : Kd.C (Kd.int .i64) _ Ao14 l0.length l0 := (Kd.qn0 HO0.out).2.2; have hcut17 := cut_to (P := Try.prog) 25 3 .i64 Try.underlying25 hi017 Ao14 l0.length co14 (ji5) (of_decide_eq_true (by first | (with_reducible assumption) | assumption)) q17 hroom17; have hr17 := Kd.C_take (m := ((ji5) : Int).toNat) hC17 (by omega); have hy17 : y198.length = ((ji5) : Int).toNat := (by rw [Ny198.out, List.length_take]; omega); rw [← Ny198.out] at hr17; rw [← hy17] at hcut17; have HR201 := Aside0.mk hr17; have HC201 := Aside0.mk (show y198.length ≤ co14 from by omega); clear hr17 hC17 hroom17 hi017 hsz17; have KY17 := Aside0.mk hy17; clear hy17; have KL17 := Aside0.mk (show ((ji5) : Int).toNat ≤ l0.length from by omega); replace q17 := eq_true q17) | ((with_reducible refine gate_builtin (b := .append) (xs := #[.tmp 16, .tmp 19]) rfl ?_); (try (refine gate_guard (by rfl) ?_; dsimp only)); at_builtin; refine Kd.R_append_rows (Kd.int .i64) (w0 := w0) w0.heap.size rfl (.tmp 16) (.tmp 19) 25 3 (.int .i64 0) 8 rfl Try.underlying25 info3 rfl (by decide) (by omega) v196 y195 y198 _ _ _ (fun k_ => (P0_ k_ ∨ w.heap.size ≤ k_) ∧ some k_ ≠ (.slice Ao14 l0.length co14 : Value).ownBlock) (fun _ => False) rfl rfl ?aO ?aR (fun _ _ h => h) (fun _ h => h.elim) ?aF ?aB ?aS ?aL ?_; (case aR => repeat (first | exact (by repeat (first | (with_reducible exact HR201.out) | (with_reducible refine Kd.qs0 ?_ _) | (with_reducible refine Kd.qr0 ?_ _) | (with_reducible refine Kd.qv0 ?_) | exact HR201.out)) | (with_reducible refine Kd.qs0 ?_ _) | (with_reducible refine Kd.qr0 ?_ _) | (with_reducible refine Kd.qv0 ?_))); (case aB => exact (by repeat (first | (with_reducible first | exact HB.out | apply qc0 | apply qa0 | apply qb0) | exact HB.out))); (case aF => exact (fun k_ hk => ⟨(.inr (Nat.le_trans (by first | exact HK.out.1 | exact (show Kept w _ (fun k_ => P0_ k_) from by repeat (first | (with_reducible first | exact HK.out | apply Kept.alloc | apply Kept.drewN | apply Kept.drew) | exact HK.out)).1) hk)), Kd.fresh' (Kd.R_lt (by (with_reducible repeat (first | apply Kd.qp0 | apply Kd.qo0 | apply Kd.qq0)); exact HO0.out)) k_ hk⟩)); (case aO => exact (by (with_reducible repeat (first | apply Kd.qp0 | apply Kd.qo0 | apply Kd.qq0)); exact Kd.qa1 HO197.out (fun _ hk => ⟨hk.1.1, hk.2⟩))); (case aS => exact (qg0 (by repeat (first | (with_reducible first | exact HB.out | apply qc0 | apply qa0 | apply qb0) | exact HB.out)))); (case aL => have := LMc8.out; omega); intro v203 w18 ho hb hg hat; rw [← Ny202.out] at ho; have n0_ := Aside0.mk (Kd.R_after (ok := (fun k_ => (P0_ k_ ∨ w.heap.size ≤ k_))) (by (with_reducible repeat (first | apply Kd.qp0 | apply Kd.qo0 | apply Kd.qq0)); exact HO0.out) hg hat); have n1_ := Aside0.mk (hb); have n2_ := Aside0.mk (Kept.of_grown (S := (fun k_ => P0_ k_)) hg (by repeat (first | (with_reducible first | exact HK.out | apply Kept.alloc | apply Kept.drewN | apply Kept.drew) | exact HK.out)) (fun k_ e_ => (HO197.out.1 k_ e_).1.1)); have n3_ := Aside0.mk ((show Kd.C (Kd.int .i64) w18 Ao14 y198.length y198 from by rw [Ny198.out]; exact Kd.C_take (m := ((ji5) : Int).toNat) ((Kd.qn0 (Kd.R_after (ok := (fun k_ => (P0_ k_ ∨ w.heap.size ≤ k_))) (by (with_reducible repeat (first | apply Kd.qp0 | apply Kd.qo0 | apply Kd.qq0)); exact HO0.out) hg hat)).2.2) KL17.out)); have n4_ := Aside0.mk (ho); clear HO0; clear HB; clear HK; clear HR201; clear HO197; have HO0 := n0_; have HB := n1_; have HK := n2_; have HR201 := n3_; have HO204 := n4_; clear n0_ n1_ n2_ n3_ n4_; clear ho hb hg hat) | ((with_reducible refine qw0 (N := 21) rfl ?_); (try (refine gate_guard (by rfl) ?_; dsimp only)); refine Kd.R_lit (Kd.int .i64) _ 3 ?hg (N := 21) ?hd (xs := ([] : List Int)) (inner := []) (ok := fun _ => True) (okp := fun _ => True) ?hr ?hp (fun _ hk => hk) trivial (Below.refl _ _) (Nat.le_refl _) (by simp) ?_; (case hd => rfl); (case hg => rfl); (case hr => first | (go_simp; done) | (go_simp; rfl)); (case hp => exact (Reps.none _ _)); intro v206 w19 ho20 hb hg_ hnew_; clear hg_ hnew_; (first | rw [← Ny205.out] at ho20 | (simp only [Int.reduceToNat] at ho20; rw [← Ny205.out] at ho20)); have n0_ := Aside0.mk (Kd.R_elder' (by (with_reducible repeat (first | apply Kd.qp0 | apply Kd.qo0 | apply Kd.qq0)); exact HO0.out) (Kd.R_base ho20) hb); have n1_ := Aside0.mk (Kd.R_elder' (by (with_reducible repeat (first | apply Kd.qp0 | apply Kd.qo0 | apply Kd.qq0)); exact HO204.out) (Kd.R_base ho20) hb); have n2_ := Aside0.mk (Kd.R_lower (Kd.R_new' (Kd.R_new' (Kd.R_newM (M := fun k_ => (P0_ k_ ∨ w.heap.size ≤ k_)) ho20 (by first | exact HK.out.1 | exact (show Kept w _ (fun k_ => P0_ k_) from by repeat (first | (with_reducible first | exact HK.out | apply Kept.alloc | apply Kept.drewN | apply Kept.drew) | exact HK.out)).1) (fun k_ h_ => .inr h_)) (Kd.R_lt (by (with_reducible repeat (first | apply Kd.qp0 | apply Kd.qo0 | apply Kd.qq0)); exact HO0.out))) (Kd.R_lt (by (with_reducible repeat (first | apply Kd.qp0 | apply Kd.qo0 | apply Kd.qq0)); exact HO204.out))) (qg0 (by repeat (first | (with_reducible first | exact HB.out | apply qc0 | apply qa0 | apply qb0) | exact HB.out)))); have n3_ := Aside0.mk (Kd.qy0 (by repeat (first | (with_reducible exact HR201.out) | (with_reducible refine Kd.qs0 ?_ _) | (with_reducible refine Kd.qr0 ?_ _) | (with_reducible refine Kd.qv0 ?_) | exact HR201.out)) hb); have n4_ := Aside0.mk (Kept.below (S := (fun k_ => P0_ k_)) (by repeat (first | (with_reducible first | exact HK.out | apply Kept.alloc | apply Kept.drewN | apply Kept.drew) | exact HK.out)) hb); have n5_ := Aside0.mk (qj0 (by repeat (first | (with_reducible first | exact HB.out | apply qc0 | apply qa0 | apply qb0) | exact HB.out)) hb); clear HO0; clear HO204; clear HR201; clear HK; clear HB; have HO0 := n0_; have HO204 := n1_; have HO207 := n2_; have HR201 := n3_; have HK := n4_; have HB := n5_; clear n0_ n1_ n2_ n3_ n4_ n5_; clear hb ho20; have q21 : ((ji5) : Int) ≤ ((l0.length : Int) : Int) := of_decide_eq_true (by first | (with_reducible assumption) | assumption); obtain ⟨i021, hi021, _, hsz21, _⟩ := info_parts info3; have hroom21 : l0.length ≤ co14 := (Kd.qn0 HO0.out).2.1; have hC21 : Kd.C (Kd.int .i64) _ Ao14 l0.length l0 := (Kd.qn0 HO0.out).2.2; have q021 : (0 : Int) ≤ ((ji5) : Int) := of_decide_eq_true (by first | (with_reducible assumption) | assumption); have hcut21 := cut_from (P := Try.prog) 25 3 .i64 Try.underlying25 hi021 1 hsz21 Ao14 l0.length co14 (ji5) q021 q21; have hr21 := Kd.C_drop (m := ((ji5) : Int).toNat) (c := co14) hC21 (by omega) hroom21; obtain ⟨A21, hA21⟩ : ∃ A1, A1 = (if co14 = ((ji5) : Int).toNat then Ao14 else (Ao14 : Option Addr).map (·.add (((ji5) : Int).toNat * 1))) := ⟨_, rfl⟩; obtain ⟨c21, hc21⟩ : ∃ c1, c1 = co14 - ((ji5) : Int).toNat := ⟨_, rfl⟩; have hy21 : y208.length = l0.length - ((ji5) : Int).toNat := (by rw [Ny208.out, List.length_drop] <;> omega); rw [show (l0).drop ((ji5) : Int).toNat = y208 from Ny208.out.symm] at hr21; replace hr21 : Kd.C (Kd.int .i64) _ A21 y208.length y208 := (by rw [hA21]; exact hr21); rw [← hy21, ← hA21, ← hc21] at hcut21; have HR211 := Aside0.mk hr21; have HC211 := Aside0.mk (show y208.length ≤ c21 from by rw [hy21, hc21]; exact Nat.sub_le_sub_right hroom21 _); clear hr21 hC21 hroom21 hi021 hsz21 hc21; have KY21 := Aside0.mk hy21; have KA21 := Aside0.mk hA21; clear hy21 hA21; have KL21 := Aside0.mk (show ((ji5) : Int).toNat ≤ l0.length from by omega); replace q21 := eq_true q21) | ((with_reducible refine gate_builtin (b := .append) (xs := #[.tmp 21, .tmp 24]) rfl ?_); (try (refine gate_guard (by rfl) ?_; dsimp only)); at_builtin; refine Kd.R_append_rows (Kd.int .i64) (w0 := w0) w0.heap.size rfl (.tmp 21) (.tmp 24) 25 3 (.int .i64 0) 8 rfl Try.underlying25 info3 rfl (by decide) (by omega) v206 y205 y208 _ _ _ (fun k_ => (P0_ k_ ∨ w.heap.size ≤ k_) ∧ some k_ ≠ (.slice Ao14 l0.length co14 : Value).ownBlock ∧ some k_ ≠ (v203 : Value).ownBlock) (fun _ => False) rfl rfl ?aO ?aR (fun _ _ h => h) (fun _ h => h.elim) ?aF ?aB ?aS ?aL ?_; (case aR => repeat (first | exact (by repeat (first | (with_reducible exact HR211.out) | (with_reducible refine Kd.qs0 ?_ _) | (with_reducible refine Kd.qr0 ?_ _) | (with_reducible refine Kd.qv0 ?_) | exact HR211.out)) | (with_reducible refine Kd.qs0 ?_ _) | (with_reducible refine Kd.qr0 ?_ _) | (with_reducible refine Kd.qv0 ?_))); (case aB => exact (by repeat (first | (with_reducible first | exact HB.out | apply qc0 | apply qa0 | apply qb0) | exact HB.out))); (case aF => exact (fun k_ hk => ⟨(.inr (Nat.le_trans (by first | exact HK.out.1 | exact (show Kept w _ (fun k_ => P0_ k_) from by repeat (first | (with_reducible first | exact HK.out | apply Kept.alloc | apply Kept.drewN | apply Kept.drew) | exact HK.out)).1) hk)), Kd.fresh' (Kd.R_lt (by (with_reducible repeat (first | apply Kd.qp0 | apply Kd.qo0 | apply Kd.qq0)); exact HO0.out)) k_ hk, Kd.fresh' (Kd.R_lt (by (with_reducible repeat (first | apply Kd.qp0 | apply Kd.qo0 | apply Kd.qq0)); exact HO204.out)) k_ hk⟩)); (case aO => exact (by (with_reducible repeat (first | apply Kd.qp0 | apply Kd.qo0 | apply Kd.qq0)); exact Kd.qa1 HO207.out (fun _ hk => ⟨hk.1.1.1, ⟨hk.1.2, hk.2⟩⟩))); (case aS => exact (qg0 (by repeat (first | (with_reducible first | exact HB.out | apply qc0 | apply qa0 | apply qb0) | exact HB.out)))); (case aL => have := LMc11.out; omega); intro v213 w22 ho hb hg hat; rw [← Ny212.out] at ho; have n0_ := Aside0.mk (Kd.R_after (ok := (fun k_ => (P0_ k_ ∨ w.heap.size ≤ k_) ∧ some k_ ≠ (v203 : Value).ownBlock)) (by (with_reducible repeat (first | apply Kd.qp0 | apply Kd.qo0 | apply Kd.qq0)); exact HO0.out) hg hat); have n1_ := Aside0.mk (Kd.R_after (ok := (fun k_ => (P0_ k_ ∨ w.heap.size ≤ k_) ∧ some k_ ≠ (.slice Ao14 l0.length co14 : Value).ownBlock)) (by (with_reducible repeat (first | apply Kd.qp0 | apply Kd.qo0 | apply Kd.qq0)); exact HO204.out) hg hat); have n2_ := Aside0.mk (hb); have n3_ := Aside0.mk (Kept.of_grown (S := (fun k_ => P0_ k_)) hg (by repeat (first | (with_reducible first | exact HK.out | apply Kept.alloc | apply Kept.drewN | apply Kept.drew) | exact HK.out)) (fun k_ e_ => (HO207.out.1 k_ e_).1.1.1)); have n4_ := Aside0.mk ((show Kd.C (Kd.int .i64) w22 Ao14 y198.length y198 from by rw [Ny198.out]; exact Kd.C_take (m := ((ji5) : Int).toNat) ((Kd.qn0 (Kd.R_after (ok := (fun k_ => (P0_ k_ ∨ w.heap.size ≤ k_) ∧ some k_ ≠ (v203 : Value).ownBlock)) (by (with_reducible repeat (first | apply Kd.qp0 | apply Kd.qo0 | apply Kd.qq0)); exact HO0.out) hg hat)).2.2) KL17.out)); have n5_ := Aside0.mk ((show Kd.C (Kd.int .i64) w22 A21 y208.length y208 from by rw [Ny208.out, KA21.out]; exact Kd.C_drop (m := ((ji5) : Int).toNat) (c := co14) ((Kd.qn0 (Kd.R_after (ok := (fun k_ => (P0_ k_ ∨ w.heap.size ≤ k_) ∧ some k_ ≠ (v203 : Value).ownBlock)) (by (with_reducible repeat (first | apply Kd.qp0 | apply Kd.qo0 | apply Kd.qq0)); exact HO0.out) hg hat)).2.2) KL21.out ((Kd.qn0 (Kd.R_after (ok := (fun k_ => (P0_ k_ ∨ w.heap.size ≤ k_) ∧ some k_ ≠ (v203 : Value).ownBlock)) (by (with_reducible repeat (first | apply Kd.qp0 | apply Kd.qo0 | apply Kd.qq0)); exact HO0.out) hg hat)).2.1))); have n6_ := Aside0.mk (ho); clear HO0; clear HO204; clear HB; clear HK; clear HR201; clear HR211; clear HO207; have HO0 := n0_; have HO204 := n1_; have HB := n2_; have HK := n3_; have HR201 := n4_; have HR211 := n5_; have HO214 := n6_; clear n0_ n1_ n2_ n3_ n4_ n5_ n6_; clear ho hb hg hat; obtain ⟨Ao23, co23, eo23⟩ := Kd.ql1 HO204.out; subst eo23) | ((with_reducible refine qk0 (f := 122) rfl ?_); refine qu0 (some 28) rfl rfl Try.func122 (by kernel_rfl) rfl #[.slice Ao23 y202.length co23, .func (.func f1) b1.1 b1.2] rfl (by (try simp only [List.map_toArray, List.map_cons, List.map_nil]); first | done | rfl | (simp only [List.length_drop, List.length_take]; rfl)) ?_; (with_reducible refine (ih k (by omega) (fun k_ => some k_ = (.slice Ao23 y202.length co23 : Value).ownBlock) (.slice Ao23 y202.length co23) y202 f1 b1 a1 t215 w0 _ ?side1 ?side2 ?side3 A12.out).mono ?_); (case side1 => repeat (first | (with_reducible first | exact HB.out | apply qc0 | apply qa0 | apply qb0) | exact HB.out)); (case side2 => exact Kd.R_tight rfl HO204.out); (case side3 => exact FnOk.kept HQ1.out (by repeat (first | (with_reducible first | exact HK.out | apply Kept.alloc | apply Kept.drewN | apply Kept.drew) | exact HK.out)) (fun k_ hs_ => (fun e_ => (HO204.out.1 k_ e_.symm).1.1) hs_)); rintro e w24 ⟨rfl, hy0, hb, hkp⟩; refine ⟨_, rfl, ?_⟩; have n0_ := Aside0.mk (Kd.qa1 (ok' := fun k_ => (P0_ k_ ∨ w.heap.size ≤ k_) ∧ some k_ ≠ (.slice Ao23 y202.length co23 : Value).ownBlock ∧ some k_ ≠ (v213 : Value).ownBlock) (Kd.R_keptB (HO0.out) hkp (fun k_ hk_ hs_ => (hk_.1.2) hs_)) (fun k_ hk_ => ⟨hk_.1.1.1, hk_.1.1.2, hk_.1.2⟩)); have n1_ := Aside0.mk (Kd.R_reok rfl hy0 (fun k_ e_ => HO204.out.1 k_ e_)); have n2_ := Aside0.mk (Kd.qa1 (ok' := fun k_ => (P0_ k_ ∨ w.heap.size ≤ k_) ∧ some k_ ≠ (.slice Ao14 l0.length co14 : Value).ownBlock ∧ some k_ ≠ (.slice Ao23 y202.length co23 : Value).ownBlock) (Kd.R_keptB (HO214.out) hkp (fun k_ hk_ hs_ => (hk_.2.2) hs_)) (fun k_ hk_ => ⟨hk_.1.1, hk_.1.2.1, hk_.1.2.2⟩)); have n3_ := Aside0.mk (Kept.then_ (S := (fun k_ => P0_ k_)) (by repeat (first | (with_reducible first | exact HK.out | apply Kept.alloc | apply Kept.drewN | apply Kept.drew) | exact HK.out)) hkp (fun k_ hs_ => (fun e_ => (HO204.out.1 k_ e_.symm).1.1) hs_)); have n4_ := Aside0.mk (hb); clear HO0; clear HO204; clear HO214; clear HK; clear HB; have HO0 := n0_; have HO204 := n1_; have HO214 := n2_; have HK := n3_; have HB := n4_; clear n0_ n1_ n2_ n3_ n4_; (try clear hb); (try clear hkp); (try clear hy0); obtain ⟨Ao25, co25, eo25⟩ := Kd.ql1 HO214.out; subst eo25) | ((with_reducible refine qk0 (f := 122) rfl ?_); refine qu0 (some 31) rfl rfl Try.func122 (by kernel_rfl) rfl #[.slice Ao25 y212.length co25, .func (.func f1) b1.1 b1.2] rfl (by (try simp only [List.map_toArray, List.map_cons, List.map_nil]); first | done | rfl | (simp only [List.length_drop, List.length_take]; rfl)) ?_; (with_reducible refine (ih k (by omega) (fun k_ => some k_ = (.slice Ao25 y212.length co25 : Value).ownBlock) (.slice Ao25 y212.length co25) y212 f1 b1 a1 t216 w0 _ ?side1 ?side2 ?side3 A13.out).mono ?_); (case side1 => repeat (first | (with_reducible first | exact HB.out | apply qc0 | apply qa0 | apply qb0) | exact HB.out)); (case side2 => exact Kd.R_tight rfl HO214.out); (case side3 => exact FnOk.kept HQ1.out (by repeat (first | (with_reducible first | exact HK.out | apply Kept.alloc | apply Kept.drewN | apply Kept.drew) | exact HK.out)) (fun k_ hs_ => (fun e_ => (HO214.out.1 k_ e_.symm).1) hs_)); rintro e w26 ⟨rfl, hy0, hb, hkp⟩; refine ⟨_, rfl, ?_⟩; have n0_ := Aside0.mk (Kd.qa1 (ok' := fun k_ => (P0_ k_ ∨ w.heap.size ≤ k_) ∧ some k_ ≠ (.slice Ao23 y202.length co23 : Value).ownBlock ∧ some k_ ≠ (.slice Ao25 y212.length co25 : Value).ownBlock) (Kd.R_keptB (HO0.out) hkp (fun k_ hk_ hs_ => (hk_.2.2) hs_)) (fun k_ hk_ => ⟨hk_.1.1, hk_.1.2.1, hk_.1.2.2⟩)); have n1_ := Aside0.mk (Kd.qa1 (ok' := fun k_ => (P0_ k_ ∨ w.heap.size ≤ k_) ∧ some k_ ≠ (.slice Ao14 l0.length co14 : Value).ownBlock ∧ some k_ ≠ (.slice Ao25 y212.length co25 : Value).ownBlock) (Kd.R_keptB (HO204.out) hkp (fun k_ hk_ hs_ => (hk_.2) hs_)) (fun k_ hk_ => ⟨hk_.1.1.1, hk_.1.1.2, hk_.1.2⟩)); have n2_ := Aside0.mk (Kd.R_reok rfl hy0 (fun k_ e_ => HO214.out.1 k_ e_)); have n3_ := Aside0.mk (Kept.then_ (S := (fun k_ => P0_ k_)) (by repeat (first | (with_reducible first | exact HK.out | apply Kept.alloc | apply Kept.drewN | apply Kept.drew) | exact HK.out)) hkp (fun k_ hs_ => (fun e_ => (HO214.out.1 k_ e_.symm).1) hs_)); have n4_ := Aside0.mk (hb); clear HO0; clear HO204; clear HO214; clear HK; clear HB; have HO0 := n0_; have HO204 := n1_; have HO214 := n2_; have HK := n3_; have HB := n4_; clear n0_ n1_ n2_ n3_ n4_; (try clear hb); (try clear hkp); (try clear hy0)))
 go_loopg [7, 8, 34] k (fun kq v7 v8 v34 w' => ∃ (x0_1 : List Int) (x7_1 : Int) (x8_1 : Int) (x34_1 : Int), v7 = .int .i64 x7_1 ∧ v8 = .int .i64 x8_1 ∧ v34 = .int .i64 x34_1 ∧ Aside0 (impl_sortBy_int.l0 kq x0_1 a1 t215 t216 x7_1 x8_1 (l0.length : Int) x34_1 = some r) ∧ Aside0 (kq ≤ k) ∧ Aside0 (Kd.R (Kd.int .i64) 3 w' w0.heap.size (fun k_ => (P0_ k_ ∨ w.heap.size ≤ k_) ∧ some k_ ≠ ((.slice Ao23 y202.length co23) : Value).ownBlock ∧ some k_ ≠ ((.slice Ao25 y212.length co25) : Value).ownBlock) (.slice Ao14 l0.length co14) x0_1) ∧ Aside0 (Kd.R (Kd.int .i64) 3 w' w0.heap.size (fun k_ => (P0_ k_ ∨ w.heap.size ≤ k_) ∧ some k_ ≠ ((.slice Ao14 l0.length co14) : Value).ownBlock ∧ some k_ ≠ ((.slice Ao25 y212.length co25) : Value).ownBlock) (.slice Ao23 y202.length co23) t215) ∧ Aside0 (Kd.R (Kd.int .i64) 3 w' w0.heap.size (fun k_ => (P0_ k_ ∨ w.heap.size ≤ k_) ∧ some k_ ≠ ((.slice Ao14 l0.length co14) : Value).ownBlock ∧ some k_ ≠ ((.slice Ao23 y202.length co23) : Value).ownBlock) (.slice Ao25 y212.length co25) t216) ∧ Aside0 (Kept w w' (fun k_ => P0_ k_)) ∧ Aside0 (Below w0.heap.size w0 w'))
 case atStart => exact ⟨(l0), (0), (0), (0), (by first | rfl | (simp; done) | (simp [*]; done)), (by first | rfl | (simp; done) | (simp [*]; done)), (by first | rfl | (simp; done) | (simp [*]; done)), H', ⟨Nat.le_refl _⟩, ⟨by (with_reducible repeat (first | apply Kd.qp0 | apply Kd.qo0 | apply Kd.qq0)); exact HO0.out⟩, ⟨by (with_reducible repeat (first | apply Kd.qp0 | apply Kd.qo0 | apply Kd.qq0)); exact HO204.out⟩, ⟨by (with_reducible repeat (first | apply Kd.qp0 | apply Kd.qo0 | apply Kd.qq0)); exact HO214.out⟩, ⟨by repeat (first | (with_reducible first | exact HK.out | apply Kept.alloc | apply Kept.drewN | apply Kept.drew) | exact HK.out)⟩, ⟨by repeat (first | (with_reducible first | exact HB.out | apply qc0 | apply qa0 | apply qb0) | exact HB.out)⟩⟩
 case round =>
  clear H'
  try clear c1
  try clear q1
  try clear c2
  try clear p2
  try clear q2
  try clear c3
  try clear c3b0
  try clear c3b1
  try clear c6
  try clear c6b0
  try clear c6b1
  try clear p6
  try clear c7
  try clear c7b0
  try clear c7b1
  try clear c8
  try clear c9
  try clear c9b0
  try clear c10
  try clear c10b0
  try clear c11
  try clear c12
  try clear q17
  try clear c21
  try clear q21
  try clear q021
  try clear q17
  try clear q21
  obtain ⟨x0_1, x7_1, x8_1, x34_1, rfl, rfl, rfl, HA, HK1, HO_0, HO_5, HO_6, HK, HB⟩ := hrel
  have hl0_1 := (Kd.qn0 HO_0.out).1
  rw [hl0_1] at HO_0
  (try simp only [hl0_1])
  (try simp only [hl0_1] at HO_5)
  (try simp only [hl0_1] at HO_6)
  have hl5_1 := (Kd.qn0 HO_5.out).1
  rw [hl5_1] at HO_5
  (try simp only [hl5_1])
  (try simp only [hl5_1] at HO_0)
  (try simp only [hl5_1] at HO_6)
  have hl6_1 := (Kd.qn0 HO_6.out).1
  rw [hl6_1] at HO_6
  (try simp only [hl6_1])
  (try simp only [hl6_1] at HO_0)
  (try simp only [hl6_1] at HO_5)
  cases gk with
  | zero => exact absurd HA.out (by simp [impl_sortBy_int.l0])
  | succ k1 =>
   have H := HA.out
   clear HA
   simp only [impl_sortBy_int.l0] at H
   by_cases c27 : x34_1 < (l0.length : Int)
   ·rw [if_pos c27] at H
    have c27b0 : decide (x34_1 < (l0.length : Int)) = true := decide_eq_true c27
    clear c27
    by_cases c28 : x8_1 = (t216.length : Int)
    ·rw [if_pos c28] at H
     have c28b0 : (x8_1 == (t216.length : Int)) = true := beq_iff_eq.mpr c28
     have c28b1 : (x8_1 != (t216.length : Int)) = false := bne_eq_false_iff_eq.mpr c28
     clear c28
     by_cases c29 : 0 ≤ x7_1
     case neg => rw [if_neg c29] at H; exact absurd H (by simp)
     rw [if_pos c29] at H
     have c29b0 : decide (0 ≤ x7_1) = true := decide_eq_true c29
     clear c29
     by_cases c30 : x7_1 < (t215.length : Int)
     case neg => rw [if_neg c30] at H; exact absurd H (by simp)
     rw [if_pos c30] at H
     have c30b0 : decide (x7_1 < (t215.length : Int)) = true := decide_eq_true c30
     clear c30
     by_cases c31 : 0 ≤ x34_1
     case neg => rw [if_neg c31] at H; exact absurd H (by simp)
     rw [if_pos c31] at H
     have c31b0 : decide (0 ≤ x34_1) = true := decide_eq_true c31
     clear c31
     by_cases c32 : x34_1 < (x0_1.length : Int)
     case neg => rw [if_neg c32] at H; exact absurd H (by simp)
     rw [if_pos c32] at H
     have c32b0 : decide (x34_1 < (x0_1.length : Int)) = true := decide_eq_true c32
     clear c32
     obtain ⟨y218, hy218⟩ : ∃ y_ : List Int, y_ = (x0_1.set (x34_1 : Int).toNat (rd t215 x7_1)) := ⟨_, rfl⟩
     replace H : (impl_sortBy_int.l0 k1 y218 a1 t215 t216 (wrap64 (x7_1 + 1)) x8_1 (l0.length : Int) (wrap64 (x34_1 + 1))) = some r := by first | (rw [hy218]; with_reducible exact H) | (have H2_ := (Option.bind_some _ _).symm.trans H; rw [hy218]; with_reducible exact H2_) | (have H2_ := (Option.bind_some _ _).symm.trans H; with_reducible exact H2_) | with_reducible exact H | (rw [hy218]; exact H) | exact H
     have Ny218 := Aside0.mk hy218
     clear hy218
     have H' := Aside0.mk H
     clear H
     try go_wp2
     have n0_ := Aside0.mk (Kd.qq0 HO_0.out)
     have n1_ := Aside0.mk (Kd.qq0 HO_5.out)
     have n2_ := Aside0.mk (Kd.qq0 HO_6.out)
     have n3_ := Aside0.mk (Kept.drew HK.out)
     have n4_ := Aside0.mk (qb0 HB.out)
     clear HO_0
     clear HO_5
     clear HO_6
     clear HK
     clear HB
     have HO_0 := n0_
     have HO_5 := n1_
     have HO_6 := n2_
     have HK := n3_
     have HB := n4_
     clear n0_ n1_ n2_ n3_ n4_
     refine start_ (n := 23) (S := fun w' => True) (ds := []) (rb6 [0, 23]) (by kernel_rfl) rfl rfl trivial (fun hHeld => ?_); refine with_tabW impl_sortBy_int.tab10 impl_sortBy_int.bits10 (fun HT_ HW_ => ?_)
     generalize wr.drew = w34 at HO_0 HO_5 HO_6 HK HB hHeld ⊢
     refine pure_ (i := 0) (N := some 37) (v := ?_) (a' := ?_) (rb6 [1, 22]) rfl rfl (ql0 HT_.out (by kernel_rfl)) (fun _ _ _ h => h) (Or.inl ⟨by rfl, ?_⟩) ?_ ?_
     rotate_left
     ·intro w'
      go_simp
      with_reducible rfl
     rotate_left
     ·simp only [Act.put, List.setIfInBounds_toArray, List.set_cons_zero, List.set_cons_succ, i64_w, i32_w]
      rfl
     refine pure_ (i := 1) (N := some 38) (v := ?_) (a' := ?_) (rb6 [2, 21]) rfl rfl (ql0 HT_.out (by kernel_rfl)) (fun _ _ _ h => h) (Or.inl ⟨by rfl, ?_⟩) ?_ ?_
     rotate_left
     ·intro w'
      go_simp
      with_reducible rfl
     rotate_left
     ·simp only [Act.put, List.setIfInBounds_toArray, List.set_cons_zero, List.set_cons_succ, i64_w, i32_w]
      rfl
     refine pure_ (i := 2) (N := some 39) (v := ?_) (a' := ?_) (rb6 [3, 20]) rfl rfl (ql0 HT_.out (by kernel_rfl)) (fun _ _ _ h => h) (Or.inl ⟨by rfl, ?_⟩) ?_ ?_
     rotate_left
     ·intro w'
      go_simp
      with_reducible rfl
     rotate_left
     ·simp only [Act.put, List.setIfInBounds_toArray, List.set_cons_zero, List.set_cons_succ, i64_w, i32_w]
      rfl
     refine pure_ (i := 3) (N := some 40) (v := ?_) (a' := ?_) (rb6 [4, 19]) rfl rfl (ql0 HT_.out (by kernel_rfl)) (fun _ _ _ h => h) (Or.inl ⟨by rfl, ?_⟩) ?_ ?_
     rotate_left
     ·intro w'
      go_simp
      with_reducible rfl
     rotate_left
     ·simp only [Act.put, List.setIfInBounds_toArray, List.set_cons_zero, List.set_cons_succ, i64_w, i32_w]
      rfl
     refine pure_ (i := 4) (N := some 41) (v := ?_) (a' := ?_) (rb6 [5, 18]) rfl rfl (ql0 HT_.out (by kernel_rfl)) (fun _ _ _ h => h) (Or.inl ⟨by rfl, ?_⟩) ?_ ?_
     rotate_left
     ·intro w'
      go_simp
      with_reducible rfl
     rotate_left
     ·simp only [Act.put, List.setIfInBounds_toArray, List.set_cons_zero, List.set_cons_succ, i64_w, i32_w]
      rfl
     refine pure_ (i := 5) (N := some 42) (v := undef) (a' := ?_) (rb6 [6, 17]) rfl rfl (ql0 HT_.out (by kernel_rfl)) (fun _ _ _ h => h) (Or.inr ⟨by rfl, rfl⟩) ?_ ?_
     rotate_left
     ·simp only [Act.put, List.setIfInBounds_toArray, List.set_cons_zero, List.set_cons_succ, i64_w, i32_w]
      rfl
     refine pure_ (i := 6) (N := some 43) (v := undef) (a' := ?_) (rb6 [7, 16]) rfl rfl (ql0 HT_.out (by kernel_rfl)) (fun _ _ _ h => h) (Or.inr ⟨by rfl, rfl⟩) ?_ ?_
     rotate_left
     ·simp only [Act.put, List.setIfInBounds_toArray, List.set_cons_zero, List.set_cons_succ, i64_w, i32_w]
      rfl
     refine pure_ (i := 7) (N := some 44) (v := undef) (a' := ?_) (rb6 [8, 15]) rfl rfl (ql0 HT_.out (by kernel_rfl)) (fun _ _ _ h => h) (Or.inr ⟨by rfl, rfl⟩) ?_ ?_
     rotate_left
     ·simp only [Act.put, List.setIfInBounds_toArray, List.set_cons_zero, List.set_cons_succ, i64_w, i32_w]
      rfl
     refine pure_ (i := 8) (N := some 45) (v := undef) (a' := ?_) (rb6 [9, 14]) rfl rfl (ql0 HT_.out (by kernel_rfl)) (fun _ _ _ h => h) (Or.inr ⟨by rfl, rfl⟩) ?_ ?_
     rotate_left
     ·simp only [Act.put, List.setIfInBounds_toArray, List.set_cons_zero, List.set_cons_succ, i64_w, i32_w]
      rfl
     refine pure_ (i := 9) (N := some 46) (v := undef) (a' := ?_) (rb6 [10, 13]) rfl rfl (ql0 HT_.out (by kernel_rfl)) (fun _ _ _ h => h) (Or.inr ⟨by rfl, rfl⟩) ?_ ?_
     rotate_left
     ·simp only [Act.put, List.setIfInBounds_toArray, List.set_cons_zero, List.set_cons_succ, i64_w, i32_w]
      rfl
     refine pure_ (i := 10) (N := some 47) (v := undef) (a' := ?_) (rb6 [11, 12]) rfl rfl (ql0 HT_.out (by kernel_rfl)) (fun _ _ _ h => h) (Or.inr ⟨by rfl, rfl⟩) ?_ ?_
     rotate_left
     ·simp only [Act.put, List.setIfInBounds_toArray, List.set_cons_zero, List.set_cons_succ, i64_w, i32_w]
      rfl
     refine pure_ (i := 11) (N := some 48) (v := undef) (a' := ?_) (rb6 [12, 11]) rfl rfl (ql0 HT_.out (by kernel_rfl)) (fun _ _ _ h => h) (Or.inr ⟨by rfl, rfl⟩) ?_ ?_
     rotate_left
     ·simp only [Act.put, List.setIfInBounds_toArray, List.set_cons_zero, List.set_cons_succ, i64_w, i32_w]
      rfl
     refine pure_ (i := 12) (N := some 49) (v := undef) (a' := ?_) (rb6 [13, 10]) rfl rfl (ql0 HT_.out (by kernel_rfl)) (fun _ _ _ h => h) (Or.inr ⟨by rfl, rfl⟩) ?_ ?_
     rotate_left
     ·simp only [Act.put, List.setIfInBounds_toArray, List.set_cons_zero, List.set_cons_succ, i64_w, i32_w]
      rfl
     refine pure_ (i := 13) (N := some 50) (v := undef) (a' := ?_) (rb6 [14, 9]) rfl rfl (ql0 HT_.out (by kernel_rfl)) (fun _ _ _ h => h) (Or.inr ⟨by rfl, rfl⟩) ?_ ?_
     rotate_left
     ·simp only [Act.put, List.setIfInBounds_toArray, List.set_cons_zero, List.set_cons_succ, i64_w, i32_w]
      rfl
     refine pure_ (i := 14) (N := some 51) (v := undef) (a' := ?_) (rb6 [15, 8]) rfl rfl (ql0 HT_.out (by kernel_rfl)) (fun _ _ _ h => h) (Or.inr ⟨by rfl, rfl⟩) ?_ ?_
     rotate_left
     ·simp only [Act.put, List.setIfInBounds_toArray, List.set_cons_zero, List.set_cons_succ, i64_w, i32_w]
      rfl
     refine pure_ (i := 15) (N := some 52) (v := undef) (a' := ?_) (rb6 [16, 7]) rfl rfl (ql0 HT_.out (by kernel_rfl)) (fun _ _ _ h => h) (Or.inr ⟨by rfl, rfl⟩) ?_ ?_
     rotate_left
     ·simp only [Act.put, List.setIfInBounds_toArray, List.set_cons_zero, List.set_cons_succ, i64_w, i32_w]
      rfl
     refine pure_ (i := 16) (N := some 53) (v := undef) (a' := ?_) (rb6 [17, 6]) rfl rfl (ql0 HT_.out (by kernel_rfl)) (fun _ _ _ h => h) (Or.inr ⟨by rfl, rfl⟩) ?_ ?_
     rotate_left
     ·simp only [Act.put, List.setIfInBounds_toArray, List.set_cons_zero, List.set_cons_succ, i64_w, i32_w]
      rfl
     refine pure_ (i := 17) (N := some 54) (v := undef) (a' := ?_) (rb6 [18, 5]) rfl rfl (ql0 HT_.out (by kernel_rfl)) (fun _ _ _ h => h) (Or.inr ⟨by rfl, rfl⟩) ?_ ?_
     rotate_left
     ·simp only [Act.put, List.setIfInBounds_toArray, List.set_cons_zero, List.set_cons_succ, i64_w, i32_w]
      rfl
     refine pure_ (i := 18) (N := some 55) (v := undef) (a' := ?_) (rb6 [19, 4]) rfl rfl (ql0 HT_.out (by kernel_rfl)) (fun _ _ _ h => h) (Or.inr ⟨by rfl, rfl⟩) ?_ ?_
     rotate_left
     ·simp only [Act.put, List.setIfInBounds_toArray, List.set_cons_zero, List.set_cons_succ, i64_w, i32_w]
      rfl
     refine pure_ (i := 19) (N := some 56) (v := undef) (a' := ?_) (rb6 [20, 3]) rfl rfl (ql0 HT_.out (by kernel_rfl)) (fun _ _ _ h => h) (Or.inr ⟨by rfl, rfl⟩) ?_ ?_
     rotate_left
     ·simp only [Act.put, List.setIfInBounds_toArray, List.set_cons_zero, List.set_cons_succ, i64_w, i32_w]
      rfl
     refine pure_ (i := 20) (N := some 57) (v := undef) (a' := ?_) (rb6 [21, 2]) rfl rfl (ql0 HT_.out (by kernel_rfl)) (fun _ _ _ h => h) (Or.inr ⟨by rfl, rfl⟩) ?_ ?_
     rotate_left
     ·simp only [Act.put, List.setIfInBounds_toArray, List.set_cons_zero, List.set_cons_succ, i64_w, i32_w]
      rfl
     refine pure_ (i := 21) (N := some 58) (v := undef) (a' := ?_) (rb6 [22, 1]) rfl rfl (ql0 HT_.out (by kernel_rfl)) (fun _ _ _ h => h) (Or.inr ⟨by rfl, rfl⟩) ?_ ?_
     rotate_left
     ·simp only [Act.put, List.setIfInBounds_toArray, List.set_cons_zero, List.set_cons_succ, i64_w, i32_w]
      rfl
     refine pure_ (i := 22) (N := some 59) (v := ?_) (a' := ?_) (rb6 [23]) rfl rfl (ql0 HT_.out (by kernel_rfl)) (fun _ _ _ h => h) (Or.inl ⟨by rfl, ?_⟩) ?_ ?_
     rotate_left
     ·intro w'
      go_simp
      with_reducible rfl
     rotate_left
     ·simp only [Act.put, List.setIfInBounds_toArray, List.set_cons_zero, List.set_cons_succ, i64_w, i32_w]
      rfl
     refine done_ (done_of HT_.out (by kernel_rfl)) ?_
     have p217 : 0 ≤ (x7_1 : Int) := of_decide_eq_true (by first | (with_reducible assumption) | assumption)
     have q217 : x7_1 < (t215.length : Int) := of_decide_eq_true (by first | (with_reducible assumption) | assumption)
     obtain ⟨ad217, e217, hx217_0⟩ := Kd.at_int (Kd.qn0 HO_5.out).2.2 x7_1 p217 q217
     cases e217
     replace p217 := eq_true p217
     replace q217 := eq_true q217
     have p33 : 0 ≤ (x34_1 : Int) := of_decide_eq_true (by first | (with_reducible assumption) | assumption)
     have q33 : (x34_1 : Int) < ((x0_1.length : Int) : Int) := of_decide_eq_true (by first | (with_reducible assumption) | assumption)
     obtain ⟨go33, co33, eo33, gb33, gl33, cl33, HG33⟩ := Kd.R_form HO_0.out (by omega)
     (first | cases eo33 | (injection eo33 with ea_ en_ ec_; (first | subst ea_ | (injection ea_ with ea_; subst ea_)); subst ec_; clear en_))
     have GB33 := Aside0.mk gb33
     have GG33 := Aside0.mk HG33
     clear gb33 gl33 HG33
     have HMgo33 := Aside0.mk (show (P0_ go33 ∨ w.heap.size ≤ go33) from (HO_0.out.1 _ rfl).1)
     obtain ⟨hx33_0, hf33_0⟩ := Kd.R_celln 0 HO_0.out (x34_1 : Int) p33 q33
     replace p33 := eq_true p33
     replace q33 := eq_true q33
     obtain ⟨hy35_, hz35_⟩ := Kd.R_celln 0 HO_0.out (x34_1 : Int) (of_decide_eq_true (by first | (with_reducible assumption) | assumption)) (of_decide_eq_true (by first | (with_reducible assumption) | assumption))
     have HP35 := Kd.R_putg HO_0.out (x34_1 : Int) (rd t215 x7_1)
     try go_wp2_with (first | ((with_reducible refine gate_store (t := 3) (p := 66) rfl ?_); refine store_event (t := 3) (p := 66) (v := ?vo_w36) (w1 := (w34.setCell ⟨go33, (x34_1 : Int).toNat, none⟩ (.int .i64 (rd t215 x7_1)))) ?hg ?ho ?hn ?hr ?_; (case ho => rfl); (case hg => rfl); (case hn => rfl); (case hr => first | (go_simp; done) | (go_simp; rfl)); intro w36 hw; have hg : w34.grownBy w36 (some go33) := (by rw [hw]; exact HP35.2); have hp_ : Kd.R (Kd.int .i64) 3 w36 w0.heap.size (fun k_ => (P0_ k_ ∨ w.heap.size ≤ k_) ∧ some k_ ≠ (.slice (some ad217) t215.length co23 : Value).ownBlock ∧ some k_ ≠ (.slice Ao25 t216.length co25 : Value).ownBlock) (.slice (some ⟨go33, 0, none⟩) x0_1.length co14) y218 := (by rw [hw, Ny218.out]; exact HP35.1); clear HP35; have n0_ := Aside0.mk (hp_); have n1_ := Aside0.mk (Kd.R_after (v := (.slice (some ⟨go33, 0, none⟩) x0_1.length co14)) (v1 := (.slice (some ⟨go33, 0, none⟩) x0_1.length co14)) (ok := (fun k_ => (P0_ k_ ∨ w.heap.size ≤ k_) ∧ some k_ ≠ (.slice Ao25 t216.length co25 : Value).ownBlock)) (by (with_reducible repeat (first | apply Kd.qp0 | apply Kd.qo0 | apply Kd.qq0)); exact Kd.qa1 HO_5.out (fun _ hk => ⟨⟨hk.1, hk.2.2⟩, hk.2.1⟩)) hg (.inl rfl)); have n2_ := Aside0.mk (Kd.R_after (v := (.slice (some ⟨go33, 0, none⟩) x0_1.length co14)) (v1 := (.slice (some ⟨go33, 0, none⟩) x0_1.length co14)) (ok := (fun k_ => (P0_ k_ ∨ w.heap.size ≤ k_) ∧ some k_ ≠ (.slice (some ad217) t215.length co23 : Value).ownBlock)) (by (with_reducible repeat (first | apply Kd.qp0 | apply Kd.qo0 | apply Kd.qq0)); exact Kd.qa1 HO_6.out (fun _ hk => ⟨⟨hk.1, hk.2.2⟩, hk.2.1⟩)) hg (.inl rfl)); have n3_ := Aside0.mk ((by rw [hw]; exact qf0 (HB.out) GB33.out : Below w0.heap.size w0 w36)); have n4_ := Aside0.mk (Kept.of_grown (S := (fun k_ => P0_ k_)) hg (by repeat (first | (with_reducible first | exact HK.out | apply Kept.alloc | apply Kept.drewN | apply Kept.drew) | exact HK.out)) (fun k_ e_ => (HO_0.out.1 k_ e_).1)); clear HO_0; clear HO_5; clear HO_6; clear HB; clear HK; have HO_0 := n0_; have HO_5 := n1_; have HO_6 := n2_; have HB := n3_; have HK := n4_; clear n0_ n1_ n2_ n3_ n4_; clear hg hw hp_))
     (try simp only [← hl0_1, ← hl5_1, ← hl6_1])
     go_roundg k1
     case measure => have := HK1.out; omega
     case rel => exact ⟨(y218), (wrap64 (x7_1 + 1)), (x8_1), (wrap64 (x34_1 + 1)), (by first | rfl | (simp; done) | (simp [*]; done)), (by first | rfl | (simp; done) | (simp [*]; done)), (by first | rfl | (simp; done) | (simp [*]; done)), H', ⟨by have := HK1.out; omega⟩, ⟨by (try simp only [hl0_1]); (try simp only [hl5_1]); (try simp only [hl6_1]); (with_reducible repeat (first | apply Kd.qp0 | apply Kd.qo0 | apply Kd.qq0)); exact HO_0.out⟩, ⟨by (try simp only [hl0_1]); (try simp only [hl5_1]); (try simp only [hl6_1]); (with_reducible repeat (first | apply Kd.qp0 | apply Kd.qo0 | apply Kd.qq0)); exact Kd.qa1 HO_5.out (fun _ hk => ⟨hk.1.1, ⟨hk.2, hk.1.2⟩⟩)⟩, ⟨by (try simp only [hl0_1]); (try simp only [hl5_1]); (try simp only [hl6_1]); (with_reducible repeat (first | apply Kd.qp0 | apply Kd.qo0 | apply Kd.qq0)); exact Kd.qa1 HO_6.out (fun _ hk => ⟨hk.1.1, ⟨hk.2, hk.1.2⟩⟩)⟩, ⟨by repeat (first | (with_reducible first | exact HK.out | apply Kept.alloc | apply Kept.drewN | apply Kept.drew) | exact HK.out)⟩, ⟨by repeat (first | (with_reducible first | exact HB.out | apply qc0 | apply qa0 | apply qb0) | exact HB.out)⟩⟩
    rw [if_neg c28] at H
    have c28b0 : (x8_1 == (t216.length : Int)) = false := beq_eq_false_iff_ne.mpr c28
    have c28b1 : (x8_1 != (t216.length : Int)) = true := bne_iff_ne.mpr c28
    by_cases c37 : x7_1 < (t215.length : Int)
    ·rw [if_pos c37] at H
     have c37b0 : decide (x7_1 < (t215.length : Int)) = true := decide_eq_true c37
     clear c37
     by_cases c38 : 0 ≤ x8_1
     case neg => rw [if_neg c38] at H; exact absurd H (by simp)
     rw [if_pos c38] at H
     have c38b0 : decide (0 ≤ x8_1) = true := decide_eq_true c38
     clear c38
     by_cases c39 : x8_1 < (t216.length : Int)
     case neg => rw [if_neg c39] at H; exact absurd H (by simp)
     rw [if_pos c39] at H
     have c39b0 : decide (x8_1 < (t216.length : Int)) = true := decide_eq_true c39
     clear c39
     by_cases c40 : 0 ≤ x7_1
     case neg => rw [if_neg c40] at H; exact absurd H (by simp)
     rw [if_pos c40] at H
     have c40b0 : decide (0 ≤ x7_1) = true := decide_eq_true c40
     clear c40
     replace H := Option.bind_eq_some_iff.mp H
     obtain ⟨t221, A410, H⟩ := H
     replace H : (if t221 = true then (if 0 ≤ x34_1 then (if x34_1 < (x0_1.length : Int) then (impl_sortBy_int.l0 k1 (x0_1.set (x34_1 : Int).toNat (rd t216 x8_1)) a1 t215 t216 x7_1 (wrap64 (x8_1 + 1)) (l0.length : Int) (wrap64 (x34_1 + 1))) else (none)) else (none)) else (if 0 ≤ x34_1 then (if x34_1 < (x0_1.length : Int) then (impl_sortBy_int.l0 k1 (x0_1.set (x34_1 : Int).toNat (rd t215 x7_1)) a1 t215 t216 (wrap64 (x7_1 + 1)) x8_1 (l0.length : Int) (wrap64 (x34_1 + 1))) else (none)) else (none))) = some r := H
     have A41 := Aside0.mk A410
     clear A410
     by_cases c42 : t221 = true
     ·subst c42
      have H1 : (if 0 ≤ x34_1 then (if x34_1 < (x0_1.length : Int) then (impl_sortBy_int.l0 k1 (x0_1.set (x34_1 : Int).toNat (rd t216 x8_1)) a1 t215 t216 x7_1 (wrap64 (x8_1 + 1)) (l0.length : Int) (wrap64 (x34_1 + 1))) else (none)) else (none)) = some r := by rw [if_pos rfl] at H; exact H
      clear H
      have H := H1
      clear H1
      by_cases c43 : 0 ≤ x34_1
      case neg => rw [if_neg c43] at H; exact absurd H (by simp)
      rw [if_pos c43] at H
      have c43b0 : decide (0 ≤ x34_1) = true := decide_eq_true c43
      clear c43
      by_cases c44 : x34_1 < (x0_1.length : Int)
      case neg => rw [if_neg c44] at H; exact absurd H (by simp)
      rw [if_pos c44] at H
      have c44b0 : decide (x34_1 < (x0_1.length : Int)) = true := decide_eq_true c44
      clear c44
      obtain ⟨y223, hy223⟩ : ∃ y_ : List Int, y_ = (x0_1.set (x34_1 : Int).toNat (rd t216 x8_1)) := ⟨_, rfl⟩
      replace H : (impl_sortBy_int.l0 k1 y223 a1 t215 t216 x7_1 (wrap64 (x8_1 + 1)) (l0.length : Int) (wrap64 (x34_1 + 1))) = some r := by first | (rw [hy223]; with_reducible exact H) | (have H2_ := (Option.bind_some _ _).symm.trans H; rw [hy223]; with_reducible exact H2_) | (have H2_ := (Option.bind_some _ _).symm.trans H; with_reducible exact H2_) | with_reducible exact H | (rw [hy223]; exact H) | exact H
      have Ny223 := Aside0.mk hy223
      clear hy223
      have H' := Aside0.mk H
      clear H
      try go_wp2
      have n0_ := Aside0.mk (Kd.qq0 HO_0.out)
      have n1_ := Aside0.mk (Kd.qq0 HO_5.out)
      have n2_ := Aside0.mk (Kd.qq0 HO_6.out)
      have n3_ := Aside0.mk (Kept.drew HK.out)
      have n4_ := Aside0.mk (qb0 HB.out)
      clear HO_0
      clear HO_5
      clear HO_6
      clear HK
      clear HB
      have HO_0 := n0_
      have HO_5 := n1_
      have HO_6 := n2_
      have HK := n3_
      have HB := n4_
      clear n0_ n1_ n2_ n3_ n4_
      have p219 : 0 ≤ (x8_1 : Int) := of_decide_eq_true (by first | (with_reducible assumption) | assumption)
      have q219 : x8_1 < (t216.length : Int) := of_decide_eq_true (by first | (with_reducible assumption) | assumption)
      obtain ⟨ad219, e219, hx219_0⟩ := Kd.at_int (Kd.qn0 HO_6.out).2.2 x8_1 p219 q219
      cases e219
      replace p219 := eq_true p219
      replace q219 := eq_true q219
      have p220 : 0 ≤ (x7_1 : Int) := of_decide_eq_true (by first | (with_reducible assumption) | assumption)
      have q220 : x7_1 < (t215.length : Int) := of_decide_eq_true (by first | (with_reducible assumption) | assumption)
      obtain ⟨ad220, e220, hx220_0⟩ := Kd.at_int (Kd.qn0 HO_5.out).2.2 x7_1 p220 q220
      cases e220
      replace p220 := eq_true p220
      replace q220 := eq_true q220
      refine start_ (n := 23) (S := fun w' => w'.cell? (ad219.add (x8_1).toNat) = some (.int .i64 (rd t216 x8_1)) ∧ w'.cell? (ad220.add (x7_1).toNat) = some (.int .i64 (rd t215 x7_1))) (ds := []) (rb6 [0, 23]) (by kernel_rfl) rfl rfl ⟨hx219_0, hx220_0⟩ (fun hHeld => ?_); refine with_tabW impl_sortBy_int.tab10 impl_sortBy_int.bits10 (fun HT_ HW_ => ?_)
      generalize wr.drew = w46 at HO_0 HO_5 HO_6 HK HB hx219_0 hx220_0 hHeld ⊢
      refine pure_ (i := 0) (N := some 37) (v := ?_) (a' := ?_) (rb6 [1, 22]) rfl rfl (ql0 HT_.out (by kernel_rfl)) (fun _ _ _ h => h) (Or.inl ⟨by rfl, ?_⟩) ?_ ?_
      rotate_left
      ·intro w'
       go_simp
       with_reducible rfl
      rotate_left
      ·simp only [Act.put, List.setIfInBounds_toArray, List.set_cons_zero, List.set_cons_succ, i64_w, i32_w]
       rfl
      refine pure_ (i := 1) (N := some 38) (v := ?_) (a' := ?_) (rb6 [2, 21]) rfl rfl (ql0 HT_.out (by kernel_rfl)) (fun _ _ _ h => h) (Or.inl ⟨by rfl, ?_⟩) ?_ ?_
      rotate_left
      ·intro w'
       go_simp
       with_reducible rfl
      rotate_left
      ·simp only [Act.put, List.setIfInBounds_toArray, List.set_cons_zero, List.set_cons_succ, i64_w, i32_w]
       rfl
      refine pure_ (i := 2) (N := some 39) (v := ?_) (a' := ?_) (rb6 [3, 20]) rfl rfl (ql0 HT_.out (by kernel_rfl)) (fun _ _ _ h => h) (Or.inl ⟨by rfl, ?_⟩) ?_ ?_
      rotate_left
      ·intro w'
       go_simp
       with_reducible rfl
      rotate_left
      ·simp only [Act.put, List.setIfInBounds_toArray, List.set_cons_zero, List.set_cons_succ, i64_w, i32_w]
       rfl
      refine pure_ (i := 3) (N := some 40) (v := ?_) (a' := ?_) (rb6 [4, 19]) rfl rfl (ql0 HT_.out (by kernel_rfl)) (fun _ _ _ h => h) (Or.inl ⟨by rfl, ?_⟩) ?_ ?_
      rotate_left
      ·intro w'
       go_simp
       with_reducible rfl
      rotate_left
      ·simp only [Act.put, List.setIfInBounds_toArray, List.set_cons_zero, List.set_cons_succ, i64_w, i32_w]
       rfl
      refine pure_ (i := 4) (N := some 41) (v := ?_) (a' := ?_) (rb6 [5, 18]) rfl rfl (ql0 HT_.out (by kernel_rfl)) (fun _ _ _ h => h) (Or.inl ⟨by rfl, ?_⟩) ?_ ?_
      rotate_left
      ·intro w'
       go_simp
       with_reducible rfl
      rotate_left
      ·simp only [Act.put, List.setIfInBounds_toArray, List.set_cons_zero, List.set_cons_succ, i64_w, i32_w]
       rfl
      refine pure_ (i := 5) (N := some 42) (v := ?_) (a' := ?_) (rb6 [6, 17]) rfl rfl (ql0 HT_.out (by kernel_rfl)) (fun _ _ _ h => h) (Or.inl ⟨by rfl, ?_⟩) ?_ ?_
      rotate_left
      ·intro w'
       go_simp
       with_reducible rfl
      rotate_left
      ·simp only [Act.put, List.setIfInBounds_toArray, List.set_cons_zero, List.set_cons_succ, i64_w, i32_w]
       rfl
      refine pure_ (i := 6) (N := some 43) (v := ?_) (a' := ?_) (rb6 [7, 16]) rfl rfl (ql0 HT_.out (by kernel_rfl)) (fun _ _ _ h => h) (Or.inl ⟨by rfl, ?_⟩) ?_ ?_
      rotate_left
      ·intro w'
       go_simp
       with_reducible rfl
      rotate_left
      ·simp only [Act.put, List.setIfInBounds_toArray, List.set_cons_zero, List.set_cons_succ, i64_w, i32_w]
       rfl
      refine pure_ (i := 7) (N := some 44) (v := ?_) (a' := ?_) (rb6 [8, 15]) rfl rfl (ql0 HT_.out (by kernel_rfl)) (fun _ _ _ h => h) (Or.inl ⟨by rfl, ?_⟩) ?_ ?_
      rotate_left
      ·intro w'
       go_simp
       with_reducible rfl
      rotate_left
      ·simp only [Act.put, List.setIfInBounds_toArray, List.set_cons_zero, List.set_cons_succ, i64_w, i32_w]
       rfl
      refine pure_ (i := 8) (N := some 45) (v := ?_) (a' := ?_) (rb6 [9, 14]) rfl rfl (ql0 HT_.out (by kernel_rfl)) (fun _ _ _ h => h) (Or.inl ⟨by rfl, ?_⟩) ?_ ?_
      rotate_left
      ·intro w'
       go_simp
       with_reducible rfl
      rotate_left
      ·simp only [Act.put, List.setIfInBounds_toArray, List.set_cons_zero, List.set_cons_succ, i64_w, i32_w]
       rfl
      refine pure_ (i := 9) (N := some 46) (v := ?_) (a' := ?_) (rb6 [10, 13]) rfl rfl (ql0 HT_.out (by kernel_rfl)) (fun _ _ _ h => h) (Or.inl ⟨by rfl, ?_⟩) ?_ ?_
      rotate_left
      ·intro w'
       go_simp
       with_reducible rfl
      rotate_left
      ·simp only [Act.put, List.setIfInBounds_toArray, List.set_cons_zero, List.set_cons_succ, i64_w, i32_w]
       rfl
      refine pure_ (i := 10) (N := some 47) (v := ?_) (a' := ?_) (rb6 [11, 12]) rfl rfl (ql0 HT_.out (by kernel_rfl)) (fun _ _ _ h => h) (Or.inl ⟨by rfl, ?_⟩) ?_ ?_
      rotate_left
      ·intro w'
       go_simp
       with_reducible rfl
      rotate_left
      ·simp only [Act.put, List.setIfInBounds_toArray, List.set_cons_zero, List.set_cons_succ, i64_w, i32_w]
       rfl
      refine pure_ (i := 11) (N := some 48) (v := ?_) (a' := ?_) (rb6 [12, 11]) rfl rfl (ql0 HT_.out (by kernel_rfl)) (fun _ _ _ h => h) (Or.inl ⟨by rfl, ?_⟩) ?_ ?_
      rotate_left
      ·intro w'
       go_simp
       with_reducible rfl
      rotate_left
      ·simp only [Act.put, List.setIfInBounds_toArray, List.set_cons_zero, List.set_cons_succ, i64_w, i32_w]
       rfl
      refine pure_ (i := 12) (N := some 49) (v := ?_) (a' := ?_) (rb6 [13, 10]) rfl rfl (ql0 HT_.out (by kernel_rfl)) (fun _ _ _ h => h) (Or.inl ⟨by rfl, ?_⟩) ?_ ?_
      rotate_left
      ·intro w'
       go_simp
       with_reducible rfl
      rotate_left
      ·simp only [Act.put, List.setIfInBounds_toArray, List.set_cons_zero, List.set_cons_succ, i64_w, i32_w]
       rfl
      refine pure_ (i := 13) (N := some 50) (v := ?_) (a' := ?_) (rb6 [14, 9]) rfl rfl (ql0 HT_.out (by kernel_rfl)) (fun _ _ _ h => h) (Or.inl ⟨by rfl, ?_⟩) ?_ ?_
      rotate_left
      ·intro w'
       go_simp
       with_reducible rfl
      rotate_left
      ·simp only [Act.put, List.setIfInBounds_toArray, List.set_cons_zero, List.set_cons_succ, i64_w, i32_w]
       rfl
      refine pure_ (i := 15) (N := some 52) (v := ?_) (a' := ?_) (rb6 [14, 1, 1, 7]) rfl rfl (ql0 HT_.out (by kernel_rfl)) (fun _ _ _ h => h) (Or.inl ⟨by rfl, ?_⟩) ?_ ?_
      rotate_left
      ·intro w'
       go_simp
       with_reducible rfl
      rotate_left
      ·simp only [Act.put, List.setIfInBounds_toArray, List.set_cons_zero, List.set_cons_succ, i64_w, i32_w]
       rfl
      refine pure_ (i := 16) (N := some 53) (v := ?_) (a' := ?_) (rb6 [14, 1, 2, 6]) rfl rfl (ql0 HT_.out (by kernel_rfl)) (fun _ _ _ h => h) (Or.inl ⟨by rfl, ?_⟩) ?_ ?_
      rotate_left
      ·intro w'
       go_simp
       with_reducible rfl
      rotate_left
      ·simp only [Act.put, List.setIfInBounds_toArray, List.set_cons_zero, List.set_cons_succ, i64_w, i32_w]
       rfl
      refine pure_ (i := 17) (N := some 54) (v := ?_) (a' := ?_) (rb6 [14, 1, 3, 5]) rfl rfl (ql0 HT_.out (by kernel_rfl)) (fun _ _ _ h => h) (Or.inl ⟨by rfl, ?_⟩) ?_ ?_
      rotate_left
      ·intro w'
       go_simp
       with_reducible rfl
      rotate_left
      ·simp only [Act.put, List.setIfInBounds_toArray, List.set_cons_zero, List.set_cons_succ, i64_w, i32_w]
       rfl
      refine take_ (i := 14) (N := some 51) (v := ?_) (a' := ?_) (rb6 [18, 5]) rfl rfl (qg1 HT_.out HW_.out (by kernel_rfl)) (fun _ _ _ h => h) (Or.inl ⟨by rfl, ?_⟩) hHeld ?_ ?_
      rotate_left
      ·rintro w' ⟨s0, s1⟩
       go_simp
       with_reducible rfl
      rotate_left
      ·simp only [Act.put, List.setIfInBounds_toArray, List.set_cons_zero, List.set_cons_succ, i64_w, i32_w]
       rfl
      refine take_ (i := 18) (N := some 55) (v := ?_) (a' := ?_) (rb6 [19, 4]) rfl rfl (qg1 HT_.out HW_.out (by kernel_rfl)) (fun _ _ _ h => h) (Or.inl ⟨by rfl, ?_⟩) hHeld ?_ ?_
      rotate_left
      ·rintro w' ⟨s0, s1⟩
       go_simp
       with_reducible rfl
      rotate_left
      ·simp only [Act.put, List.setIfInBounds_toArray, List.set_cons_zero, List.set_cons_succ, i64_w, i32_w]
       rfl
      refine one_ (i := 19) (N := some 56) (rb6 [20, 3]) rfl rfl (one_of HT_.out (by kernel_rfl)) (by decide) (fun K hK => ?_)
      refine goesD_ (HQ1.out _ (by repeat (first | (with_reducible first | exact HK.out | apply Kept.alloc | apply Kept.drewN | apply Kept.drew) | exact HK.out))).enters #[.int .i64 (rd t216 x8_1), .int .i64 (rd t215 x7_1)] (by rfl) rfl rfl rfl (by (try simp only [List.map_toArray, List.map_cons, List.map_nil]); first | done | rfl) ?_
      refine (FnOk.call (HQ1.out _ (by repeat (first | (with_reducible first | exact HK.out | apply Kept.alloc | apply Kept.drewN | apply Kept.drew) | exact HK.out))) (rd t216 x8_1) (rd t215 x7_1) true rfl A41.out).mono ?_
      rintro e w47 ⟨rfl, hb⟩
      have HS0_ := (hb.cell (World.block_lt_of_cell? _ _ (hHeld.1))).trans (hHeld.1)
      have HS1_ := (hb.cell (World.block_lt_of_cell? _ _ (hHeld.2))).trans (hHeld.2)
      refine ⟨_, rfl, ?_⟩
      have n0_ := Aside0.mk (Kd.qe1 (by (with_reducible repeat (first | apply Kd.qp0 | apply Kd.qo0 | apply Kd.qq0)); exact HO_0.out) hb)
      have n1_ := Aside0.mk (Kd.qe1 (by (with_reducible repeat (first | apply Kd.qp0 | apply Kd.qo0 | apply Kd.qq0)); exact HO_5.out) hb)
      have n2_ := Aside0.mk (Kd.qe1 (by (with_reducible repeat (first | apply Kd.qp0 | apply Kd.qo0 | apply Kd.qq0)); exact HO_6.out) hb)
      have n3_ := Aside0.mk (Kept.below (S := (fun k_ => P0_ k_)) (by repeat (first | (with_reducible first | exact HK.out | apply Kept.alloc | apply Kept.drewN | apply Kept.drew) | exact HK.out)) hb)
      have n4_ := Aside0.mk (qj0 (by repeat (first | (with_reducible first | exact HB.out | apply qc0 | apply qa0 | apply qb0) | exact HB.out)) hb)
      clear HO_0
      clear HO_5
      clear HO_6
      clear HK
      clear HB
      have HO_0 := n0_
      have HO_5 := n1_
      have HO_6 := n2_
      have HK := n3_
      have HB := n4_
      clear n0_ n1_ n2_ n3_ n4_
      (try clear hb)
      (try clear hb2)
      (try clear hk)
      (try clear hi)
      refine hK.out _ _ ⟨HS0_, HS1_⟩ (fun hHeld => ?_)
      clear hK K
      refine norm_ (a' := ?_) ?_ ?_
      rotate_left
      ·show Act.put _ (some 56) _ = _
       simp only [Act.put, List.setIfInBounds_toArray, List.set_cons_zero, List.set_cons_succ, i64_w, i32_w]
       rfl
      refine pure_ (i := 20) (N := some 57) (v := ?_) (a' := ?_) (rb6 [21, 2]) rfl rfl (ql0 HT_.out (by kernel_rfl)) (fun _ _ _ h => h) (Or.inl ⟨by rfl, ?_⟩) ?_ ?_
      rotate_left
      ·intro w'
       go_simp
       with_reducible rfl
      rotate_left
      ·simp only [Act.put, List.setIfInBounds_toArray, List.set_cons_zero, List.set_cons_succ, i64_w, i32_w]
       rfl
      refine pure_ (i := 21) (N := some 58) (v := ?_) (a' := ?_) (rb6 [22, 1]) rfl rfl (ql0 HT_.out (by kernel_rfl)) (fun _ _ _ h => h) (Or.inl ⟨by rfl, ?_⟩) ?_ ?_
      rotate_left
      ·intro w'
       go_simp
       with_reducible rfl
      rotate_left
      ·simp only [Act.put, List.setIfInBounds_toArray, List.set_cons_zero, List.set_cons_succ, i64_w, i32_w]
       rfl
      refine pure_ (i := 22) (N := some 59) (v := ?_) (a' := ?_) (rb6 [23]) rfl rfl (ql0 HT_.out (by kernel_rfl)) (fun _ _ _ h => h) (Or.inl ⟨by rfl, ?_⟩) ?_ ?_
      rotate_left
      ·intro w'
       go_simp
       with_reducible rfl
      rotate_left
      ·simp only [Act.put, List.setIfInBounds_toArray, List.set_cons_zero, List.set_cons_succ, i64_w, i32_w]
       rfl
      refine done_ (done_of HT_.out (by kernel_rfl)) ?_
      have p222 : 0 ≤ (x8_1 : Int) := of_decide_eq_true (by first | (with_reducible assumption) | assumption)
      have q222 : x8_1 < (t216.length : Int) := of_decide_eq_true (by first | (with_reducible assumption) | assumption)
      obtain ⟨ad222, e222, hx222_0⟩ := Kd.at_int (Kd.qn0 HO_6.out).2.2 x8_1 p222 q222
      obtain rfl : ad219 = ad222 := (by injection e222)
      replace p222 := eq_true p222
      replace q222 := eq_true q222
      have p45 : 0 ≤ (x34_1 : Int) := of_decide_eq_true (by first | (with_reducible assumption) | assumption)
      have q45 : (x34_1 : Int) < ((x0_1.length : Int) : Int) := of_decide_eq_true (by first | (with_reducible assumption) | assumption)
      obtain ⟨go45, co45, eo45, gb45, gl45, cl45, HG45⟩ := Kd.R_form HO_0.out (by omega)
      (first | cases eo45 | (injection eo45 with ea_ en_ ec_; (first | subst ea_ | (injection ea_ with ea_; subst ea_)); subst ec_; clear en_))
      have GB45 := Aside0.mk gb45
      have GG45 := Aside0.mk HG45
      clear gb45 gl45 HG45
      have HMgo45 := Aside0.mk (show (P0_ go45 ∨ w.heap.size ≤ go45) from (HO_0.out.1 _ rfl).1)
      obtain ⟨hx45_0, hf45_0⟩ := Kd.R_celln 0 HO_0.out (x34_1 : Int) p45 q45
      replace p45 := eq_true p45
      replace q45 := eq_true q45
      obtain ⟨hy48_, hz48_⟩ := Kd.R_celln 0 HO_0.out (x34_1 : Int) (of_decide_eq_true (by first | (with_reducible assumption) | assumption)) (of_decide_eq_true (by first | (with_reducible assumption) | assumption))
      have HP48 := Kd.R_putg HO_0.out (x34_1 : Int) (rd t216 x8_1)
      try go_wp2_with (first | ((with_reducible refine gate_store (t := 3) (p := 75) rfl ?_); refine store_event (t := 3) (p := 75) (v := ?vo_w49) (w1 := (w47.setCell ⟨go45, (x34_1 : Int).toNat, none⟩ (.int .i64 (rd t216 x8_1)))) ?hg ?ho ?hn ?hr ?_; (case ho => rfl); (case hg => rfl); (case hn => rfl); (case hr => first | (go_simp; done) | (go_simp; rfl)); intro w49 hw; have hg : w47.grownBy w49 (some go45) := (by rw [hw]; exact HP48.2); have hp_ : Kd.R (Kd.int .i64) 3 w49 w0.heap.size (fun k_ => (P0_ k_ ∨ w.heap.size ≤ k_) ∧ some k_ ≠ (.slice (some ad220) t215.length co23 : Value).ownBlock ∧ some k_ ≠ (.slice (some ad219) t216.length co25 : Value).ownBlock) (.slice (some ⟨go45, 0, none⟩) x0_1.length co14) y223 := (by rw [hw, Ny223.out]; exact HP48.1); clear HP48; have n0_ := Aside0.mk (hp_); have n1_ := Aside0.mk (Kd.R_after (v := (.slice (some ⟨go45, 0, none⟩) x0_1.length co14)) (v1 := (.slice (some ⟨go45, 0, none⟩) x0_1.length co14)) (ok := (fun k_ => (P0_ k_ ∨ w.heap.size ≤ k_) ∧ some k_ ≠ (.slice (some ad219) t216.length co25 : Value).ownBlock)) (by (with_reducible repeat (first | apply Kd.qp0 | apply Kd.qo0 | apply Kd.qq0)); exact Kd.qa1 HO_5.out (fun _ hk => ⟨⟨hk.1, hk.2.2⟩, hk.2.1⟩)) hg (.inl rfl)); have n2_ := Aside0.mk (Kd.R_after (v := (.slice (some ⟨go45, 0, none⟩) x0_1.length co14)) (v1 := (.slice (some ⟨go45, 0, none⟩) x0_1.length co14)) (ok := (fun k_ => (P0_ k_ ∨ w.heap.size ≤ k_) ∧ some k_ ≠ (.slice (some ad220) t215.length co23 : Value).ownBlock)) (by (with_reducible repeat (first | apply Kd.qp0 | apply Kd.qo0 | apply Kd.qq0)); exact Kd.qa1 HO_6.out (fun _ hk => ⟨⟨hk.1, hk.2.2⟩, hk.2.1⟩)) hg (.inl rfl)); have n3_ := Aside0.mk ((by rw [hw]; exact qf0 (HB.out) GB45.out : Below w0.heap.size w0 w49)); have n4_ := Aside0.mk (Kept.of_grown (S := (fun k_ => P0_ k_)) hg (by repeat (first | (with_reducible first | exact HK.out | apply Kept.alloc | apply Kept.drewN | apply Kept.drew) | exact HK.out)) (fun k_ e_ => (HO_0.out.1 k_ e_).1)); clear HO_0; clear HO_5; clear HO_6; clear HB; clear HK; have HO_0 := n0_; have HO_5 := n1_; have HO_6 := n2_; have HB := n3_; have HK := n4_; clear n0_ n1_ n2_ n3_ n4_; clear hg hw hp_))
      (try simp only [← hl0_1, ← hl5_1, ← hl6_1])
      go_roundg k1
      case measure => have := HK1.out; omega
      case rel => exact ⟨(y223), (x7_1), (wrap64 (x8_1 + 1)), (wrap64 (x34_1 + 1)), (by first | rfl | (simp; done) | (simp [*]; done)), (by first | rfl | (simp; done) | (simp [*]; done)), (by first | rfl | (simp; done) | (simp [*]; done)), H', ⟨by have := HK1.out; omega⟩, ⟨by (try simp only [hl0_1]); (try simp only [hl5_1]); (try simp only [hl6_1]); (with_reducible repeat (first | apply Kd.qp0 | apply Kd.qo0 | apply Kd.qq0)); exact HO_0.out⟩, ⟨by (try simp only [hl0_1]); (try simp only [hl5_1]); (try simp only [hl6_1]); (with_reducible repeat (first | apply Kd.qp0 | apply Kd.qo0 | apply Kd.qq0)); exact Kd.qa1 HO_5.out (fun _ hk => ⟨hk.1.1, ⟨hk.2, hk.1.2⟩⟩)⟩, ⟨by (try simp only [hl0_1]); (try simp only [hl5_1]); (try simp only [hl6_1]); (with_reducible repeat (first | apply Kd.qp0 | apply Kd.qo0 | apply Kd.qq0)); exact Kd.qa1 HO_6.out (fun _ hk => ⟨hk.1.1, ⟨hk.2, hk.1.2⟩⟩)⟩, ⟨by repeat (first | (with_reducible first | exact HK.out | apply Kept.alloc | apply Kept.drewN | apply Kept.drew) | exact HK.out)⟩, ⟨by repeat (first | (with_reducible first | exact HB.out | apply qc0 | apply qa0 | apply qb0) | exact HB.out)⟩⟩
     replace c42 := Bool.eq_false_iff.mpr c42
     subst c42
     have H1 : (if 0 ≤ x34_1 then (if x34_1 < (x0_1.length : Int) then (impl_sortBy_int.l0 k1 (x0_1.set (x34_1 : Int).toNat (rd t215 x7_1)) a1 t215 t216 (wrap64 (x7_1 + 1)) x8_1 (l0.length : Int) (wrap64 (x34_1 + 1))) else (none)) else (none)) = some r := by rw [if_neg (show ¬ (false = true) by decide)] at H; exact H
     clear H
     have H := H1
     clear H1
     by_cases c50 : 0 ≤ x34_1
     case neg => rw [if_neg c50] at H; exact absurd H (by simp)
     rw [if_pos c50] at H
     have c50b0 : decide (0 ≤ x34_1) = true := decide_eq_true c50
     clear c50
     by_cases c51 : x34_1 < (x0_1.length : Int)
     case neg => rw [if_neg c51] at H; exact absurd H (by simp)
     rw [if_pos c51] at H
     have c51b0 : decide (x34_1 < (x0_1.length : Int)) = true := decide_eq_true c51
     clear c51
     obtain ⟨y225, hy225⟩ : ∃ y_ : List Int, y_ = (x0_1.set (x34_1 : Int).toNat (rd t215 x7_1)) := ⟨_, rfl⟩
     replace H : (impl_sortBy_int.l0 k1 y225 a1 t215 t216 (wrap64 (x7_1 + 1)) x8_1 (l0.length : Int) (wrap64 (x34_1 + 1))) = some r := by first | (rw [hy225]; with_reducible exact H) | (have H2_ := (Option.bind_some _ _).symm.trans H; rw [hy225]; with_reducible exact H2_) | (have H2_ := (Option.bind_some _ _).symm.trans H; with_reducible exact H2_) | with_reducible exact H | (rw [hy225]; exact H) | exact H
     have Ny225 := Aside0.mk hy225
     clear hy225
     have H' := Aside0.mk H
     clear H
     try go_wp2
     have n0_ := Aside0.mk (Kd.qq0 HO_0.out)
     have n1_ := Aside0.mk (Kd.qq0 HO_5.out)
     have n2_ := Aside0.mk (Kd.qq0 HO_6.out)
     have n3_ := Aside0.mk (Kept.drew HK.out)
     have n4_ := Aside0.mk (qb0 HB.out)
     clear HO_0
     clear HO_5
     clear HO_6
     clear HK
     clear HB
     have HO_0 := n0_
     have HO_5 := n1_
     have HO_6 := n2_
     have HK := n3_
     have HB := n4_
     clear n0_ n1_ n2_ n3_ n4_
     have p219 : 0 ≤ (x8_1 : Int) := of_decide_eq_true (by first | (with_reducible assumption) | assumption)
     have q219 : x8_1 < (t216.length : Int) := of_decide_eq_true (by first | (with_reducible assumption) | assumption)
     obtain ⟨ad219, e219, hx219_0⟩ := Kd.at_int (Kd.qn0 HO_6.out).2.2 x8_1 p219 q219
     cases e219
     replace p219 := eq_true p219
     replace q219 := eq_true q219
     have p220 : 0 ≤ (x7_1 : Int) := of_decide_eq_true (by first | (with_reducible assumption) | assumption)
     have q220 : x7_1 < (t215.length : Int) := of_decide_eq_true (by first | (with_reducible assumption) | assumption)
     obtain ⟨ad220, e220, hx220_0⟩ := Kd.at_int (Kd.qn0 HO_5.out).2.2 x7_1 p220 q220
     cases e220
     replace p220 := eq_true p220
     replace q220 := eq_true q220
     refine start_ (n := 23) (S := fun w' => w'.cell? (ad219.add (x8_1).toNat) = some (.int .i64 (rd t216 x8_1)) ∧ w'.cell? (ad220.add (x7_1).toNat) = some (.int .i64 (rd t215 x7_1))) (ds := []) (rb6 [0, 23]) (by kernel_rfl) rfl rfl ⟨hx219_0, hx220_0⟩ (fun hHeld => ?_); refine with_tabW impl_sortBy_int.tab10 impl_sortBy_int.bits10 (fun HT_ HW_ => ?_)
     generalize wr.drew = w53 at HO_0 HO_5 HO_6 HK HB hx219_0 hx220_0 hHeld ⊢
     refine pure_ (i := 0) (N := some 37) (v := ?_) (a' := ?_) (rb6 [1, 22]) rfl rfl (ql0 HT_.out (by kernel_rfl)) (fun _ _ _ h => h) (Or.inl ⟨by rfl, ?_⟩) ?_ ?_
     rotate_left
     ·intro w'
      go_simp
      with_reducible rfl
     rotate_left
     ·simp only [Act.put, List.setIfInBounds_toArray, List.set_cons_zero, List.set_cons_succ, i64_w, i32_w]
      rfl
     refine pure_ (i := 1) (N := some 38) (v := ?_) (a' := ?_) (rb6 [2, 21]) rfl rfl (ql0 HT_.out (by kernel_rfl)) (fun _ _ _ h => h) (Or.inl ⟨by rfl, ?_⟩) ?_ ?_
     rotate_left
     ·intro w'
      go_simp
      with_reducible rfl
     rotate_left
     ·simp only [Act.put, List.setIfInBounds_toArray, List.set_cons_zero, List.set_cons_succ, i64_w, i32_w]
      rfl
     refine pure_ (i := 2) (N := some 39) (v := ?_) (a' := ?_) (rb6 [3, 20]) rfl rfl (ql0 HT_.out (by kernel_rfl)) (fun _ _ _ h => h) (Or.inl ⟨by rfl, ?_⟩) ?_ ?_
     rotate_left
     ·intro w'
      go_simp
      with_reducible rfl
     rotate_left
     ·simp only [Act.put, List.setIfInBounds_toArray, List.set_cons_zero, List.set_cons_succ, i64_w, i32_w]
      rfl
     refine pure_ (i := 3) (N := some 40) (v := ?_) (a' := ?_) (rb6 [4, 19]) rfl rfl (ql0 HT_.out (by kernel_rfl)) (fun _ _ _ h => h) (Or.inl ⟨by rfl, ?_⟩) ?_ ?_
     rotate_left
     ·intro w'
      go_simp
      with_reducible rfl
     rotate_left
     ·simp only [Act.put, List.setIfInBounds_toArray, List.set_cons_zero, List.set_cons_succ, i64_w, i32_w]
      rfl
     refine pure_ (i := 4) (N := some 41) (v := ?_) (a' := ?_) (rb6 [5, 18]) rfl rfl (ql0 HT_.out (by kernel_rfl)) (fun _ _ _ h => h) (Or.inl ⟨by rfl, ?_⟩) ?_ ?_
     rotate_left
     ·intro w'
      go_simp
      with_reducible rfl
     rotate_left
     ·simp only [Act.put, List.setIfInBounds_toArray, List.set_cons_zero, List.set_cons_succ, i64_w, i32_w]
      rfl
     refine pure_ (i := 5) (N := some 42) (v := ?_) (a' := ?_) (rb6 [6, 17]) rfl rfl (ql0 HT_.out (by kernel_rfl)) (fun _ _ _ h => h) (Or.inl ⟨by rfl, ?_⟩) ?_ ?_
     rotate_left
     ·intro w'
      go_simp
      with_reducible rfl
     rotate_left
     ·simp only [Act.put, List.setIfInBounds_toArray, List.set_cons_zero, List.set_cons_succ, i64_w, i32_w]
      rfl
     refine pure_ (i := 6) (N := some 43) (v := ?_) (a' := ?_) (rb6 [7, 16]) rfl rfl (ql0 HT_.out (by kernel_rfl)) (fun _ _ _ h => h) (Or.inl ⟨by rfl, ?_⟩) ?_ ?_
     rotate_left
     ·intro w'
      go_simp
      with_reducible rfl
     rotate_left
     ·simp only [Act.put, List.setIfInBounds_toArray, List.set_cons_zero, List.set_cons_succ, i64_w, i32_w]
      rfl
     refine pure_ (i := 7) (N := some 44) (v := ?_) (a' := ?_) (rb6 [8, 15]) rfl rfl (ql0 HT_.out (by kernel_rfl)) (fun _ _ _ h => h) (Or.inl ⟨by rfl, ?_⟩) ?_ ?_
     rotate_left
     ·intro w'
      go_simp
      with_reducible rfl
     rotate_left
     ·simp only [Act.put, List.setIfInBounds_toArray, List.set_cons_zero, List.set_cons_succ, i64_w, i32_w]
      rfl
     refine pure_ (i := 8) (N := some 45) (v := ?_) (a' := ?_) (rb6 [9, 14]) rfl rfl (ql0 HT_.out (by kernel_rfl)) (fun _ _ _ h => h) (Or.inl ⟨by rfl, ?_⟩) ?_ ?_
     rotate_left
     ·intro w'
      go_simp
      with_reducible rfl
     rotate_left
     ·simp only [Act.put, List.setIfInBounds_toArray, List.set_cons_zero, List.set_cons_succ, i64_w, i32_w]
      rfl
     refine pure_ (i := 9) (N := some 46) (v := ?_) (a' := ?_) (rb6 [10, 13]) rfl rfl (ql0 HT_.out (by kernel_rfl)) (fun _ _ _ h => h) (Or.inl ⟨by rfl, ?_⟩) ?_ ?_
     rotate_left
     ·intro w'
      go_simp
      with_reducible rfl
     rotate_left
     ·simp only [Act.put, List.setIfInBounds_toArray, List.set_cons_zero, List.set_cons_succ, i64_w, i32_w]
      rfl
     refine pure_ (i := 10) (N := some 47) (v := ?_) (a' := ?_) (rb6 [11, 12]) rfl rfl (ql0 HT_.out (by kernel_rfl)) (fun _ _ _ h => h) (Or.inl ⟨by rfl, ?_⟩) ?_ ?_
     rotate_left
     ·intro w'
      go_simp
      with_reducible rfl
     rotate_left
     ·simp only [Act.put, List.setIfInBounds_toArray, List.set_cons_zero, List.set_cons_succ, i64_w, i32_w]
      rfl
     refine pure_ (i := 11) (N := some 48) (v := ?_) (a' := ?_) (rb6 [12, 11]) rfl rfl (ql0 HT_.out (by kernel_rfl)) (fun _ _ _ h => h) (Or.inl ⟨by rfl, ?_⟩) ?_ ?_
     rotate_left
     ·intro w'
      go_simp
      with_reducible rfl
     rotate_left
     ·simp only [Act.put, List.setIfInBounds_toArray, List.set_cons_zero, List.set_cons_succ, i64_w, i32_w]
      rfl
     refine pure_ (i := 12) (N := some 49) (v := ?_) (a' := ?_) (rb6 [13, 10]) rfl rfl (ql0 HT_.out (by kernel_rfl)) (fun _ _ _ h => h) (Or.inl ⟨by rfl, ?_⟩) ?_ ?_
     rotate_left
     ·intro w'
      go_simp
      with_reducible rfl
     rotate_left
     ·simp only [Act.put, List.setIfInBounds_toArray, List.set_cons_zero, List.set_cons_succ, i64_w, i32_w]
      rfl
     refine pure_ (i := 13) (N := some 50) (v := ?_) (a' := ?_) (rb6 [14, 9]) rfl rfl (ql0 HT_.out (by kernel_rfl)) (fun _ _ _ h => h) (Or.inl ⟨by rfl, ?_⟩) ?_ ?_
     rotate_left
     ·intro w'
      go_simp
      with_reducible rfl
     rotate_left
     ·simp only [Act.put, List.setIfInBounds_toArray, List.set_cons_zero, List.set_cons_succ, i64_w, i32_w]
      rfl
     refine pure_ (i := 15) (N := some 52) (v := ?_) (a' := ?_) (rb6 [14, 1, 1, 7]) rfl rfl (ql0 HT_.out (by kernel_rfl)) (fun _ _ _ h => h) (Or.inl ⟨by rfl, ?_⟩) ?_ ?_
     rotate_left
     ·intro w'
      go_simp
      with_reducible rfl
     rotate_left
     ·simp only [Act.put, List.setIfInBounds_toArray, List.set_cons_zero, List.set_cons_succ, i64_w, i32_w]
      rfl
     refine pure_ (i := 16) (N := some 53) (v := ?_) (a' := ?_) (rb6 [14, 1, 2, 6]) rfl rfl (ql0 HT_.out (by kernel_rfl)) (fun _ _ _ h => h) (Or.inl ⟨by rfl, ?_⟩) ?_ ?_
     rotate_left
     ·intro w'
      go_simp
      with_reducible rfl
     rotate_left
     ·simp only [Act.put, List.setIfInBounds_toArray, List.set_cons_zero, List.set_cons_succ, i64_w, i32_w]
      rfl
     refine pure_ (i := 17) (N := some 54) (v := ?_) (a' := ?_) (rb6 [14, 1, 3, 5]) rfl rfl (ql0 HT_.out (by kernel_rfl)) (fun _ _ _ h => h) (Or.inl ⟨by rfl, ?_⟩) ?_ ?_
     rotate_left
     ·intro w'
      go_simp
      with_reducible rfl
     rotate_left
     ·simp only [Act.put, List.setIfInBounds_toArray, List.set_cons_zero, List.set_cons_succ, i64_w, i32_w]
      rfl
     refine take_ (i := 14) (N := some 51) (v := ?_) (a' := ?_) (rb6 [18, 5]) rfl rfl (qg1 HT_.out HW_.out (by kernel_rfl)) (fun _ _ _ h => h) (Or.inl ⟨by rfl, ?_⟩) hHeld ?_ ?_
     rotate_left
     ·rintro w' ⟨s0, s1⟩
      go_simp
      with_reducible rfl
     rotate_left
     ·simp only [Act.put, List.setIfInBounds_toArray, List.set_cons_zero, List.set_cons_succ, i64_w, i32_w]
      rfl
     refine take_ (i := 18) (N := some 55) (v := ?_) (a' := ?_) (rb6 [19, 4]) rfl rfl (qg1 HT_.out HW_.out (by kernel_rfl)) (fun _ _ _ h => h) (Or.inl ⟨by rfl, ?_⟩) hHeld ?_ ?_
     rotate_left
     ·rintro w' ⟨s0, s1⟩
      go_simp
      with_reducible rfl
     rotate_left
     ·simp only [Act.put, List.setIfInBounds_toArray, List.set_cons_zero, List.set_cons_succ, i64_w, i32_w]
      rfl
     refine one_ (i := 19) (N := some 56) (rb6 [20, 3]) rfl rfl (one_of HT_.out (by kernel_rfl)) (by decide) (fun K hK => ?_)
     refine goesD_ (HQ1.out _ (by repeat (first | (with_reducible first | exact HK.out | apply Kept.alloc | apply Kept.drewN | apply Kept.drew) | exact HK.out))).enters #[.int .i64 (rd t216 x8_1), .int .i64 (rd t215 x7_1)] (by rfl) rfl rfl rfl (by (try simp only [List.map_toArray, List.map_cons, List.map_nil]); first | done | rfl) ?_
     refine (FnOk.call (HQ1.out _ (by repeat (first | (with_reducible first | exact HK.out | apply Kept.alloc | apply Kept.drewN | apply Kept.drew) | exact HK.out))) (rd t216 x8_1) (rd t215 x7_1) false rfl A41.out).mono ?_
     rintro e w54 ⟨rfl, hb⟩
     have HS0_ := (hb.cell (World.block_lt_of_cell? _ _ (hHeld.1))).trans (hHeld.1)
     have HS1_ := (hb.cell (World.block_lt_of_cell? _ _ (hHeld.2))).trans (hHeld.2)
     refine ⟨_, rfl, ?_⟩
     have n0_ := Aside0.mk (Kd.qe1 (by (with_reducible repeat (first | apply Kd.qp0 | apply Kd.qo0 | apply Kd.qq0)); exact HO_0.out) hb)
     have n1_ := Aside0.mk (Kd.qe1 (by (with_reducible repeat (first | apply Kd.qp0 | apply Kd.qo0 | apply Kd.qq0)); exact HO_5.out) hb)
     have n2_ := Aside0.mk (Kd.qe1 (by (with_reducible repeat (first | apply Kd.qp0 | apply Kd.qo0 | apply Kd.qq0)); exact HO_6.out) hb)
     have n3_ := Aside0.mk (Kept.below (S := (fun k_ => P0_ k_)) (by repeat (first | (with_reducible first | exact HK.out | apply Kept.alloc | apply Kept.drewN | apply Kept.drew) | exact HK.out)) hb)
     have n4_ := Aside0.mk (qj0 (by repeat (first | (with_reducible first | exact HB.out | apply qc0 | apply qa0 | apply qb0) | exact HB.out)) hb)
     clear HO_0
     clear HO_5
     clear HO_6
     clear HK
     clear HB
     have HO_0 := n0_
     have HO_5 := n1_
     have HO_6 := n2_
     have HK := n3_
     have HB := n4_
     clear n0_ n1_ n2_ n3_ n4_
     (try clear hb)
     (try clear hb2)
     (try clear hk)
     (try clear hi)
     refine hK.out _ _ ⟨HS0_, HS1_⟩ (fun hHeld => ?_)
     clear hK K
     refine norm_ (a' := ?_) ?_ ?_
     rotate_left
     ·show Act.put _ (some 56) _ = _
      simp only [Act.put, List.setIfInBounds_toArray, List.set_cons_zero, List.set_cons_succ, i64_w, i32_w]
      rfl
     refine pure_ (i := 20) (N := some 57) (v := ?_) (a' := ?_) (rb6 [21, 2]) rfl rfl (ql0 HT_.out (by kernel_rfl)) (fun _ _ _ h => h) (Or.inl ⟨by rfl, ?_⟩) ?_ ?_
     rotate_left
     ·intro w'
      go_simp
      with_reducible rfl
     rotate_left
     ·simp only [Act.put, List.setIfInBounds_toArray, List.set_cons_zero, List.set_cons_succ, i64_w, i32_w]
      rfl
     refine pure_ (i := 21) (N := some 58) (v := ?_) (a' := ?_) (rb6 [22, 1]) rfl rfl (ql0 HT_.out (by kernel_rfl)) (fun _ _ _ h => h) (Or.inl ⟨by rfl, ?_⟩) ?_ ?_
     rotate_left
     ·intro w'
      go_simp
      with_reducible rfl
     rotate_left
     ·simp only [Act.put, List.setIfInBounds_toArray, List.set_cons_zero, List.set_cons_succ, i64_w, i32_w]
      rfl
     refine pure_ (i := 22) (N := some 59) (v := ?_) (a' := ?_) (rb6 [23]) rfl rfl (ql0 HT_.out (by kernel_rfl)) (fun _ _ _ h => h) (Or.inl ⟨by rfl, ?_⟩) ?_ ?_
     rotate_left
     ·intro w'
      go_simp
      with_reducible rfl
     rotate_left
     ·simp only [Act.put, List.setIfInBounds_toArray, List.set_cons_zero, List.set_cons_succ, i64_w, i32_w]
      rfl
     refine done_ (done_of HT_.out (by kernel_rfl)) ?_
     have p224 : 0 ≤ (x7_1 : Int) := of_decide_eq_true (by first | (with_reducible assumption) | assumption)
     have q224 : x7_1 < (t215.length : Int) := of_decide_eq_true (by first | (with_reducible assumption) | assumption)
     obtain ⟨ad224, e224, hx224_0⟩ := Kd.at_int (Kd.qn0 HO_5.out).2.2 x7_1 p224 q224
     obtain rfl : ad220 = ad224 := (by injection e224)
     replace p224 := eq_true p224
     replace q224 := eq_true q224
     have p52 : 0 ≤ (x34_1 : Int) := of_decide_eq_true (by first | (with_reducible assumption) | assumption)
     have q52 : (x34_1 : Int) < ((x0_1.length : Int) : Int) := of_decide_eq_true (by first | (with_reducible assumption) | assumption)
     obtain ⟨go52, co52, eo52, gb52, gl52, cl52, HG52⟩ := Kd.R_form HO_0.out (by omega)
     (first | cases eo52 | (injection eo52 with ea_ en_ ec_; (first | subst ea_ | (injection ea_ with ea_; subst ea_)); subst ec_; clear en_))
     have GB52 := Aside0.mk gb52
     have GG52 := Aside0.mk HG52
     clear gb52 gl52 HG52
     have HMgo52 := Aside0.mk (show (P0_ go52 ∨ w.heap.size ≤ go52) from (HO_0.out.1 _ rfl).1)
     obtain ⟨hx52_0, hf52_0⟩ := Kd.R_celln 0 HO_0.out (x34_1 : Int) p52 q52
     replace p52 := eq_true p52
     replace q52 := eq_true q52
     obtain ⟨hy55_, hz55_⟩ := Kd.R_celln 0 HO_0.out (x34_1 : Int) (of_decide_eq_true (by first | (with_reducible assumption) | assumption)) (of_decide_eq_true (by first | (with_reducible assumption) | assumption))
     have HP55 := Kd.R_putg HO_0.out (x34_1 : Int) (rd t215 x7_1)
     try go_wp2_with (first | ((with_reducible refine gate_store (t := 3) (p := 66) rfl ?_); refine store_event (t := 3) (p := 66) (v := ?vo_w56) (w1 := (w54.setCell ⟨go52, (x34_1 : Int).toNat, none⟩ (.int .i64 (rd t215 x7_1)))) ?hg ?ho ?hn ?hr ?_; (case ho => rfl); (case hg => rfl); (case hn => rfl); (case hr => first | (go_simp; done) | (go_simp; rfl)); intro w56 hw; have hg : w54.grownBy w56 (some go52) := (by rw [hw]; exact HP55.2); have hp_ : Kd.R (Kd.int .i64) 3 w56 w0.heap.size (fun k_ => (P0_ k_ ∨ w.heap.size ≤ k_) ∧ some k_ ≠ (.slice (some ad220) t215.length co23 : Value).ownBlock ∧ some k_ ≠ (.slice (some ad219) t216.length co25 : Value).ownBlock) (.slice (some ⟨go52, 0, none⟩) x0_1.length co14) y225 := (by rw [hw, Ny225.out]; exact HP55.1); clear HP55; have n0_ := Aside0.mk (hp_); have n1_ := Aside0.mk (Kd.R_after (v := (.slice (some ⟨go52, 0, none⟩) x0_1.length co14)) (v1 := (.slice (some ⟨go52, 0, none⟩) x0_1.length co14)) (ok := (fun k_ => (P0_ k_ ∨ w.heap.size ≤ k_) ∧ some k_ ≠ (.slice (some ad219) t216.length co25 : Value).ownBlock)) (by (with_reducible repeat (first | apply Kd.qp0 | apply Kd.qo0 | apply Kd.qq0)); exact Kd.qa1 HO_5.out (fun _ hk => ⟨⟨hk.1, hk.2.2⟩, hk.2.1⟩)) hg (.inl rfl)); have n2_ := Aside0.mk (Kd.R_after (v := (.slice (some ⟨go52, 0, none⟩) x0_1.length co14)) (v1 := (.slice (some ⟨go52, 0, none⟩) x0_1.length co14)) (ok := (fun k_ => (P0_ k_ ∨ w.heap.size ≤ k_) ∧ some k_ ≠ (.slice (some ad220) t215.length co23 : Value).ownBlock)) (by (with_reducible repeat (first | apply Kd.qp0 | apply Kd.qo0 | apply Kd.qq0)); exact Kd.qa1 HO_6.out (fun _ hk => ⟨⟨hk.1, hk.2.2⟩, hk.2.1⟩)) hg (.inl rfl)); have n3_ := Aside0.mk ((by rw [hw]; exact qf0 (HB.out) GB52.out : Below w0.heap.size w0 w56)); have n4_ := Aside0.mk (Kept.of_grown (S := (fun k_ => P0_ k_)) hg (by repeat (first | (with_reducible first | exact HK.out | apply Kept.alloc | apply Kept.drewN | apply Kept.drew) | exact HK.out)) (fun k_ e_ => (HO_0.out.1 k_ e_).1)); clear HO_0; clear HO_5; clear HO_6; clear HB; clear HK; have HO_0 := n0_; have HO_5 := n1_; have HO_6 := n2_; have HB := n3_; have HK := n4_; clear n0_ n1_ n2_ n3_ n4_; clear hg hw hp_))
     (try simp only [← hl0_1, ← hl5_1, ← hl6_1])
     go_roundg k1
     case measure => have := HK1.out; omega
     case rel => exact ⟨(y225), (wrap64 (x7_1 + 1)), (x8_1), (wrap64 (x34_1 + 1)), (by first | rfl | (simp; done) | (simp [*]; done)), (by first | rfl | (simp; done) | (simp [*]; done)), (by first | rfl | (simp; done) | (simp [*]; done)), H', ⟨by have := HK1.out; omega⟩, ⟨by (try simp only [hl0_1]); (try simp only [hl5_1]); (try simp only [hl6_1]); (with_reducible repeat (first | apply Kd.qp0 | apply Kd.qo0 | apply Kd.qq0)); exact HO_0.out⟩, ⟨by (try simp only [hl0_1]); (try simp only [hl5_1]); (try simp only [hl6_1]); (with_reducible repeat (first | apply Kd.qp0 | apply Kd.qo0 | apply Kd.qq0)); exact Kd.qa1 HO_5.out (fun _ hk => ⟨hk.1.1, ⟨hk.2, hk.1.2⟩⟩)⟩, ⟨by (try simp only [hl0_1]); (try simp only [hl5_1]); (try simp only [hl6_1]); (with_reducible repeat (first | apply Kd.qp0 | apply Kd.qo0 | apply Kd.qq0)); exact Kd.qa1 HO_6.out (fun _ hk => ⟨hk.1.1, ⟨hk.2, hk.1.2⟩⟩)⟩, ⟨by repeat (first | (with_reducible first | exact HK.out | apply Kept.alloc | apply Kept.drewN | apply Kept.drew) | exact HK.out)⟩, ⟨by repeat (first | (with_reducible first | exact HB.out | apply qc0 | apply qa0 | apply qb0) | exact HB.out)⟩⟩
    rw [if_neg c37] at H
    have c37b0 : decide (x7_1 < (t215.length : Int)) = false := decide_eq_false c37
    have hlx_ := c37b0
    (try rw [← hl0_1] at hlx_)
    have hly_ := c37b0
    (try rw [hl0_1] at hly_)
    clear c37
    by_cases c57 : 0 ≤ x8_1
    case neg => rw [if_neg c57] at H; exact absurd H (by simp)
    rw [if_pos c57] at H
    have c57b0 : decide (0 ≤ x8_1) = true := decide_eq_true c57
    clear c57
    by_cases c58 : x8_1 < (t216.length : Int)
    case neg => rw [if_neg c58] at H; exact absurd H (by simp)
    rw [if_pos c58] at H
    have c58b0 : decide (x8_1 < (t216.length : Int)) = true := decide_eq_true c58
    clear c58
    by_cases c59 : 0 ≤ x34_1
    case neg => rw [if_neg c59] at H; exact absurd H (by simp)
    rw [if_pos c59] at H
    have c59b0 : decide (0 ≤ x34_1) = true := decide_eq_true c59
    clear c59
    by_cases c60 : x34_1 < (x0_1.length : Int)
    case neg => rw [if_neg c60] at H; exact absurd H (by simp)
    rw [if_pos c60] at H
    have c60b0 : decide (x34_1 < (x0_1.length : Int)) = true := decide_eq_true c60
    clear c60
    obtain ⟨y227, hy227⟩ : ∃ y_ : List Int, y_ = (x0_1.set (x34_1 : Int).toNat (rd t216 x8_1)) := ⟨_, rfl⟩
    replace H : (impl_sortBy_int.l0 k1 y227 a1 t215 t216 x7_1 (wrap64 (x8_1 + 1)) (l0.length : Int) (wrap64 (x34_1 + 1))) = some r := by first | (rw [hy227]; with_reducible exact H) | (have H2_ := (Option.bind_some _ _).symm.trans H; rw [hy227]; with_reducible exact H2_) | (have H2_ := (Option.bind_some _ _).symm.trans H; with_reducible exact H2_) | with_reducible exact H | (rw [hy227]; exact H) | exact H
    have Ny227 := Aside0.mk hy227
    clear hy227
    have H' := Aside0.mk H
    clear H
    try go_wp2
    have n0_ := Aside0.mk (Kd.qq0 HO_0.out)
    have n1_ := Aside0.mk (Kd.qq0 HO_5.out)
    have n2_ := Aside0.mk (Kd.qq0 HO_6.out)
    have n3_ := Aside0.mk (Kept.drew HK.out)
    have n4_ := Aside0.mk (qb0 HB.out)
    clear HO_0
    clear HO_5
    clear HO_6
    clear HK
    clear HB
    have HO_0 := n0_
    have HO_5 := n1_
    have HO_6 := n2_
    have HK := n3_
    have HB := n4_
    clear n0_ n1_ n2_ n3_ n4_
    refine start_ (n := 23) (S := fun w' => True) (ds := []) (rb6 [0, 23]) (by kernel_rfl) rfl rfl trivial (fun hHeld => ?_); refine with_tabW impl_sortBy_int.tab10 impl_sortBy_int.bits10 (fun HT_ HW_ => ?_)
    generalize wr.drew = w62 at HO_0 HO_5 HO_6 HK HB hHeld ⊢
    refine pure_ (i := 0) (N := some 37) (v := ?_) (a' := ?_) (rb6 [1, 22]) rfl rfl (ql0 HT_.out (by kernel_rfl)) (fun _ _ _ h => h) (Or.inl ⟨by rfl, ?_⟩) ?_ ?_
    rotate_left
    ·intro w'
     go_simp
     with_reducible rfl
    rotate_left
    ·simp only [Act.put, List.setIfInBounds_toArray, List.set_cons_zero, List.set_cons_succ, i64_w, i32_w]
     rfl
    refine pure_ (i := 1) (N := some 38) (v := ?_) (a' := ?_) (rb6 [2, 21]) rfl rfl (ql0 HT_.out (by kernel_rfl)) (fun _ _ _ h => h) (Or.inl ⟨by rfl, ?_⟩) ?_ ?_
    rotate_left
    ·intro w'
     go_simp
     with_reducible rfl
    rotate_left
    ·simp only [Act.put, List.setIfInBounds_toArray, List.set_cons_zero, List.set_cons_succ, i64_w, i32_w]
     rfl
    refine pure_ (i := 2) (N := some 39) (v := ?_) (a' := ?_) (rb6 [3, 20]) rfl rfl (ql0 HT_.out (by kernel_rfl)) (fun _ _ _ h => h) (Or.inl ⟨by rfl, ?_⟩) ?_ ?_
    rotate_left
    ·intro w'
     go_simp
     with_reducible rfl
    rotate_left
    ·simp only [Act.put, List.setIfInBounds_toArray, List.set_cons_zero, List.set_cons_succ, i64_w, i32_w]
     rfl
    refine pure_ (i := 3) (N := some 40) (v := ?_) (a' := ?_) (rb6 [4, 19]) rfl rfl (ql0 HT_.out (by kernel_rfl)) (fun _ _ _ h => h) (Or.inl ⟨by rfl, ?_⟩) ?_ ?_
    rotate_left
    ·intro w'
     go_simp
     with_reducible rfl
    rotate_left
    ·simp only [Act.put, List.setIfInBounds_toArray, List.set_cons_zero, List.set_cons_succ, i64_w, i32_w]
     rfl
    refine pure_ (i := 4) (N := some 41) (v := ?_) (a' := ?_) (rb6 [5, 18]) rfl rfl (ql0 HT_.out (by kernel_rfl)) (fun _ _ _ h => h) (Or.inl ⟨by rfl, ?_⟩) ?_ ?_
    rotate_left
    ·intro w'
     go_simp
     with_reducible rfl
    rotate_left
    ·simp only [Act.put, List.setIfInBounds_toArray, List.set_cons_zero, List.set_cons_succ, i64_w, i32_w]
     rfl
    refine pure_ (i := 5) (N := some 42) (v := ?_) (a' := ?_) (rb6 [6, 17]) rfl rfl (ql0 HT_.out (by kernel_rfl)) (fun _ _ _ h => h) (Or.inl ⟨by rfl, ?_⟩) ?_ ?_
    rotate_left
    ·intro w'
     go_simp
     with_reducible rfl
    rotate_left
    ·simp only [Act.put, List.setIfInBounds_toArray, List.set_cons_zero, List.set_cons_succ, i64_w, i32_w]
     rfl
    refine pure_ (i := 6) (N := some 43) (v := ?_) (a' := ?_) (rb6 [7, 16]) rfl rfl (ql0 HT_.out (by kernel_rfl)) (fun _ _ _ h => h) (Or.inl ⟨by rfl, ?_⟩) ?_ ?_
    rotate_left
    ·intro w'
     go_simp
     with_reducible rfl
    rotate_left
    ·simp only [Act.put, List.setIfInBounds_toArray, List.set_cons_zero, List.set_cons_succ, i64_w, i32_w]
     rfl
    refine pure_ (i := 7) (N := some 44) (v := ?_) (a' := ?_) (rb6 [8, 15]) rfl rfl (ql0 HT_.out (by kernel_rfl)) (fun _ _ _ h => h) (Or.inl ⟨by rfl, ?_⟩) ?_ ?_
    rotate_left
    ·intro w'
     go_simp
     with_reducible rfl
    rotate_left
    ·simp only [Act.put, List.setIfInBounds_toArray, List.set_cons_zero, List.set_cons_succ, i64_w, i32_w]
     rfl
    refine pure_ (i := 8) (N := some 45) (v := ?_) (a' := ?_) (rb6 [9, 14]) rfl rfl (ql0 HT_.out (by kernel_rfl)) (fun _ _ _ h => h) (Or.inl ⟨by rfl, ?_⟩) ?_ ?_
    rotate_left
    ·intro w'
     go_simp
     with_reducible rfl
    rotate_left
    ·simp only [Act.put, List.setIfInBounds_toArray, List.set_cons_zero, List.set_cons_succ, i64_w, i32_w]
     rfl
    refine pure_ (i := 9) (N := some 46) (v := ?_) (a' := ?_) (rb6 [10, 13]) rfl rfl (ql0 HT_.out (by kernel_rfl)) (fun _ _ _ h => h) (Or.inl ⟨by rfl, ?_⟩) ?_ ?_
    rotate_left
    ·intro w'
     go_simp
     with_reducible rfl
    rotate_left
    ·simp only [Act.put, List.setIfInBounds_toArray, List.set_cons_zero, List.set_cons_succ, i64_w, i32_w]
     rfl
    refine pure_ (i := 10) (N := some 47) (v := undef) (a' := ?_) (rb6 [11, 12]) rfl rfl (ql0 HT_.out (by kernel_rfl)) (fun _ _ _ h => h) (Or.inr ⟨by rfl, rfl⟩) ?_ ?_
    rotate_left
    ·simp only [Act.put, List.setIfInBounds_toArray, List.set_cons_zero, List.set_cons_succ, i64_w, i32_w]
     rfl
    refine pure_ (i := 11) (N := some 48) (v := undef) (a' := ?_) (rb6 [12, 11]) rfl rfl (ql0 HT_.out (by kernel_rfl)) (fun _ _ _ h => h) (Or.inr ⟨by rfl, rfl⟩) ?_ ?_
    rotate_left
    ·simp only [Act.put, List.setIfInBounds_toArray, List.set_cons_zero, List.set_cons_succ, i64_w, i32_w]
     rfl
    refine pure_ (i := 12) (N := some 49) (v := undef) (a' := ?_) (rb6 [13, 10]) rfl rfl (ql0 HT_.out (by kernel_rfl)) (fun _ _ _ h => h) (Or.inr ⟨by rfl, rfl⟩) ?_ ?_
    rotate_left
    ·simp only [Act.put, List.setIfInBounds_toArray, List.set_cons_zero, List.set_cons_succ, i64_w, i32_w]
     rfl
    refine pure_ (i := 13) (N := some 50) (v := undef) (a' := ?_) (rb6 [14, 9]) rfl rfl (ql0 HT_.out (by kernel_rfl)) (fun _ _ _ h => h) (Or.inr ⟨by rfl, rfl⟩) ?_ ?_
    rotate_left
    ·simp only [Act.put, List.setIfInBounds_toArray, List.set_cons_zero, List.set_cons_succ, i64_w, i32_w]
     rfl
    refine pure_ (i := 14) (N := some 51) (v := undef) (a' := ?_) (rb6 [15, 8]) rfl rfl (ql0 HT_.out (by kernel_rfl)) (fun _ _ _ h => h) (Or.inr ⟨by rfl, rfl⟩) ?_ ?_
    rotate_left
    ·simp only [Act.put, List.setIfInBounds_toArray, List.set_cons_zero, List.set_cons_succ, i64_w, i32_w]
     rfl
    refine pure_ (i := 15) (N := some 52) (v := undef) (a' := ?_) (rb6 [16, 7]) rfl rfl (ql0 HT_.out (by kernel_rfl)) (fun _ _ _ h => h) (Or.inr ⟨by rfl, rfl⟩) ?_ ?_
    rotate_left
    ·simp only [Act.put, List.setIfInBounds_toArray, List.set_cons_zero, List.set_cons_succ, i64_w, i32_w]
     rfl
    refine pure_ (i := 16) (N := some 53) (v := undef) (a' := ?_) (rb6 [17, 6]) rfl rfl (ql0 HT_.out (by kernel_rfl)) (fun _ _ _ h => h) (Or.inr ⟨by rfl, rfl⟩) ?_ ?_
    rotate_left
    ·simp only [Act.put, List.setIfInBounds_toArray, List.set_cons_zero, List.set_cons_succ, i64_w, i32_w]
     rfl
    refine pure_ (i := 17) (N := some 54) (v := undef) (a' := ?_) (rb6 [18, 5]) rfl rfl (ql0 HT_.out (by kernel_rfl)) (fun _ _ _ h => h) (Or.inr ⟨by rfl, rfl⟩) ?_ ?_
    rotate_left
    ·simp only [Act.put, List.setIfInBounds_toArray, List.set_cons_zero, List.set_cons_succ, i64_w, i32_w]
     rfl
    refine pure_ (i := 18) (N := some 55) (v := undef) (a' := ?_) (rb6 [19, 4]) rfl rfl (ql0 HT_.out (by kernel_rfl)) (fun _ _ _ h => h) (Or.inr ⟨by rfl, rfl⟩) ?_ ?_
    rotate_left
    ·simp only [Act.put, List.setIfInBounds_toArray, List.set_cons_zero, List.set_cons_succ, i64_w, i32_w]
     rfl
    refine pure_ (i := 19) (N := some 56) (v := undef) (a' := ?_) (rb6 [20, 3]) rfl rfl (ql0 HT_.out (by kernel_rfl)) (fun _ _ _ h => h) (Or.inr ⟨by rfl, rfl⟩) ?_ ?_
    rotate_left
    ·simp only [Act.put, List.setIfInBounds_toArray, List.set_cons_zero, List.set_cons_succ, i64_w, i32_w]
     rfl
    refine pure_ (i := 20) (N := some 57) (v := undef) (a' := ?_) (rb6 [21, 2]) rfl rfl (ql0 HT_.out (by kernel_rfl)) (fun _ _ _ h => h) (Or.inr ⟨by rfl, rfl⟩) ?_ ?_
    rotate_left
    ·simp only [Act.put, List.setIfInBounds_toArray, List.set_cons_zero, List.set_cons_succ, i64_w, i32_w]
     rfl
    refine pure_ (i := 21) (N := some 58) (v := ?_) (a' := ?_) (rb6 [22, 1]) rfl rfl (ql0 HT_.out (by kernel_rfl)) (fun _ _ _ h => h) (Or.inl ⟨by rfl, ?_⟩) ?_ ?_
    rotate_left
    ·intro w'
     go_simp
     with_reducible rfl
    rotate_left
    ·simp only [Act.put, List.setIfInBounds_toArray, List.set_cons_zero, List.set_cons_succ, i64_w, i32_w]
     rfl
    refine pure_ (i := 22) (N := some 59) (v := ?_) (a' := ?_) (rb6 [23]) rfl rfl (ql0 HT_.out (by kernel_rfl)) (fun _ _ _ h => h) (Or.inl ⟨by rfl, ?_⟩) ?_ ?_
    rotate_left
    ·intro w'
     go_simp
     with_reducible rfl
    rotate_left
    ·simp only [Act.put, List.setIfInBounds_toArray, List.set_cons_zero, List.set_cons_succ, i64_w, i32_w]
     rfl
    refine done_ (done_of HT_.out (by kernel_rfl)) ?_
    have p226 : 0 ≤ (x8_1 : Int) := of_decide_eq_true (by first | (with_reducible assumption) | assumption)
    have q226 : x8_1 < (t216.length : Int) := of_decide_eq_true (by first | (with_reducible assumption) | assumption)
    obtain ⟨ad226, e226, hx226_0⟩ := Kd.at_int (Kd.qn0 HO_6.out).2.2 x8_1 p226 q226
    cases e226
    replace p226 := eq_true p226
    replace q226 := eq_true q226
    have p61 : 0 ≤ (x34_1 : Int) := of_decide_eq_true (by first | (with_reducible assumption) | assumption)
    have q61 : (x34_1 : Int) < ((x0_1.length : Int) : Int) := of_decide_eq_true (by first | (with_reducible assumption) | assumption)
    obtain ⟨go61, co61, eo61, gb61, gl61, cl61, HG61⟩ := Kd.R_form HO_0.out (by omega)
    (first | cases eo61 | (injection eo61 with ea_ en_ ec_; (first | subst ea_ | (injection ea_ with ea_; subst ea_)); subst ec_; clear en_))
    have GB61 := Aside0.mk gb61
    have GG61 := Aside0.mk HG61
    clear gb61 gl61 HG61
    have HMgo61 := Aside0.mk (show (P0_ go61 ∨ w.heap.size ≤ go61) from (HO_0.out.1 _ rfl).1)
    obtain ⟨hx61_0, hf61_0⟩ := Kd.R_celln 0 HO_0.out (x34_1 : Int) p61 q61
    replace p61 := eq_true p61
    replace q61 := eq_true q61
    obtain ⟨hy63_, hz63_⟩ := Kd.R_celln 0 HO_0.out (x34_1 : Int) (of_decide_eq_true (by first | (with_reducible assumption) | assumption)) (of_decide_eq_true (by first | (with_reducible assumption) | assumption))
    have HP63 := Kd.R_putg HO_0.out (x34_1 : Int) (rd t216 x8_1)
    try go_wp2_with (first | ((with_reducible refine gate_store (t := 3) (p := 75) rfl ?_); refine store_event (t := 3) (p := 75) (v := ?vo_w64) (w1 := (w62.setCell ⟨go61, (x34_1 : Int).toNat, none⟩ (.int .i64 (rd t216 x8_1)))) ?hg ?ho ?hn ?hr ?_; (case ho => rfl); (case hg => rfl); (case hn => rfl); (case hr => first | (go_simp; done) | (go_simp; rfl)); intro w64 hw; have hg : w62.grownBy w64 (some go61) := (by rw [hw]; exact HP63.2); have hp_ : Kd.R (Kd.int .i64) 3 w64 w0.heap.size (fun k_ => (P0_ k_ ∨ w.heap.size ≤ k_) ∧ some k_ ≠ (.slice Ao23 t215.length co23 : Value).ownBlock ∧ some k_ ≠ (.slice (some ad226) t216.length co25 : Value).ownBlock) (.slice (some ⟨go61, 0, none⟩) x0_1.length co14) y227 := (by rw [hw, Ny227.out]; exact HP63.1); clear HP63; have n0_ := Aside0.mk (hp_); have n1_ := Aside0.mk (Kd.R_after (v := (.slice (some ⟨go61, 0, none⟩) x0_1.length co14)) (v1 := (.slice (some ⟨go61, 0, none⟩) x0_1.length co14)) (ok := (fun k_ => (P0_ k_ ∨ w.heap.size ≤ k_) ∧ some k_ ≠ (.slice (some ad226) t216.length co25 : Value).ownBlock)) (by (with_reducible repeat (first | apply Kd.qp0 | apply Kd.qo0 | apply Kd.qq0)); exact Kd.qa1 HO_5.out (fun _ hk => ⟨⟨hk.1, hk.2.2⟩, hk.2.1⟩)) hg (.inl rfl)); have n2_ := Aside0.mk (Kd.R_after (v := (.slice (some ⟨go61, 0, none⟩) x0_1.length co14)) (v1 := (.slice (some ⟨go61, 0, none⟩) x0_1.length co14)) (ok := (fun k_ => (P0_ k_ ∨ w.heap.size ≤ k_) ∧ some k_ ≠ (.slice Ao23 t215.length co23 : Value).ownBlock)) (by (with_reducible repeat (first | apply Kd.qp0 | apply Kd.qo0 | apply Kd.qq0)); exact Kd.qa1 HO_6.out (fun _ hk => ⟨⟨hk.1, hk.2.2⟩, hk.2.1⟩)) hg (.inl rfl)); have n3_ := Aside0.mk ((by rw [hw]; exact qf0 (HB.out) GB61.out : Below w0.heap.size w0 w64)); have n4_ := Aside0.mk (Kept.of_grown (S := (fun k_ => P0_ k_)) hg (by repeat (first | (with_reducible first | exact HK.out | apply Kept.alloc | apply Kept.drewN | apply Kept.drew) | exact HK.out)) (fun k_ e_ => (HO_0.out.1 k_ e_).1)); clear HO_0; clear HO_5; clear HO_6; clear HB; clear HK; have HO_0 := n0_; have HO_5 := n1_; have HO_6 := n2_; have HB := n3_; have HK := n4_; clear n0_ n1_ n2_ n3_ n4_; clear hg hw hp_))
    (try simp only [← hl0_1, ← hl5_1, ← hl6_1])
    go_roundg k1
    case measure => have := HK1.out; omega
    case rel => exact ⟨(y227), (x7_1), (wrap64 (x8_1 + 1)), (wrap64 (x34_1 + 1)), (by first | rfl | (simp; done) | (simp [*]; done)), (by first | rfl | (simp; done) | (simp [*]; done)), (by first | rfl | (simp; done) | (simp [*]; done)), H', ⟨by have := HK1.out; omega⟩, ⟨by (try simp only [hl0_1]); (try simp only [hl5_1]); (try simp only [hl6_1]); (with_reducible repeat (first | apply Kd.qp0 | apply Kd.qo0 | apply Kd.qq0)); exact HO_0.out⟩, ⟨by (try simp only [hl0_1]); (try simp only [hl5_1]); (try simp only [hl6_1]); (with_reducible repeat (first | apply Kd.qp0 | apply Kd.qo0 | apply Kd.qq0)); exact Kd.qa1 HO_5.out (fun _ hk => ⟨hk.1.1, ⟨hk.2, hk.1.2⟩⟩)⟩, ⟨by (try simp only [hl0_1]); (try simp only [hl5_1]); (try simp only [hl6_1]); (with_reducible repeat (first | apply Kd.qp0 | apply Kd.qo0 | apply Kd.qq0)); exact Kd.qa1 HO_6.out (fun _ hk => ⟨hk.1.1, ⟨hk.2, hk.1.2⟩⟩)⟩, ⟨by repeat (first | (with_reducible first | exact HK.out | apply Kept.alloc | apply Kept.drewN | apply Kept.drew) | exact HK.out)⟩, ⟨by repeat (first | (with_reducible first | exact HB.out | apply qc0 | apply qa0 | apply qb0) | exact HB.out)⟩⟩
   rw [if_neg c27] at H
   have c27b0 : decide (x34_1 < (l0.length : Int)) = false := decide_eq_false c27
   have hlx_ := c27b0
   (try rw [← hl0_1] at hlx_)
   have hly_ := c27b0
   (try rw [hl0_1] at hly_)
   clear c27
   obtain rfl := Option.some.inj H
   go_wp2
   first | go_end0 | ((try simp only [Exit.inBlock, Exit.then]); refine bodyPost_ret (results_none rfl _ _ _) rfl ?_)
   exact ⟨by first | rfl | (simp [errW_none, errW_some] <;> rfl) | (simp only [← hji5]; first | rfl | (simp [errW_none, errW_some] <;> rfl)) | (simp [*, errW_none, errW_some] <;> rfl), (by first | exact (by (with_reducible repeat (first | apply Kd.qp0 | apply Kd.qo0 | apply Kd.qq0)); exact Kd.qa1 HO_0.out (fun _ hk => hk.1)) | (simp only [hl0_1, hl5_1, hl6_1]; exact (by (with_reducible repeat (first | apply Kd.qp0 | apply Kd.qo0 | apply Kd.qq0)); exact Kd.qa1 HO_0.out (fun _ hk => hk.1)))), by repeat (first | (with_reducible first | exact HB.out | apply qc0 | apply qa0 | apply qb0) | exact HB.out), by repeat (first | (with_reducible first | exact HK.out | apply Kept.alloc | apply Kept.drewN | apply Kept.drew) | exact HK.out)⟩

end Go.Proofs.Ytdnhpicgjkddbaa.PFnExactRank
