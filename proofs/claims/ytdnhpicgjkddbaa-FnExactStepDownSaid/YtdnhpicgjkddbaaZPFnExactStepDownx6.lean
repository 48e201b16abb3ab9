/- Lines by a program (a changed copy of the kit's print: this repo's wip/tools): Go functions as Lean functions, and proofs that the calls answer so. -/
import Derived.Test.YtdnhpicgjkddbaaZPFnExactStepDownx0
namespace Go.Proofs.Ytdnhpicgjkddbaa.PFnExactStepDown
open Go.RowKit Go.Proofs.YtdnhpicgjkddbaaW.PrintWords Go.Proofs.YtdnhpicgjkddbaaW.PrintLast Go.Proofs.YtdnhpicgjkddbaaW.PrintMore
/-- Runs of true and false, by turns. -/
def rb6l : Bool → List Nat → List Bool
 | _, [] => []
 | b, n :: r => List.replicate n b ++ rb6l (!b) r
def rb6 (l : List Nat) : Array Bool := (rb6l true l).toArray
attribute [local go_sem] max2_int min2_int max_two min_two max_three min_three max_four min_four   -- for this text's walks alone
set_option linter.unusedVariables false
set_option linter.unusedSimpArgs false

/-! ### impl_cutOff: function 167 -/
mutual
def impl_cutOff.l0 : Nat → List (S223) → (S223 → S223 → Option Bool) → List (S223) → List (S223) → Int → Int → Int → Int → Option ((List (S223)))
 | 0, _, _, _, _, _, _, _, _ => none
 | k + 1, x0, x1, x5, x6, x7, x8, x33, x34 => if x34 < x33 then (if x8 = (x6.length : Int) then (if 0 ≤ x7 then (if x7 < (x5.length : Int) then (if 0 ≤ x34 then (if x34 < (x0.length : Int) then (impl_cutOff.l0 k (x0.set (x34 : Int).toNat (⟨(rd_T223 x5 x7).f0, (rd_T223 x5 x7).f1⟩ : S223)) x1 x5 x6 (wrap64 (x7 + 1)) x8 x33 (wrap64 (x34 + 1))) else (none)) else (none)) else (none)) else (none)) else (if x7 < (x5.length : Int) then (if 0 ≤ x8 then (if x8 < (x6.length : Int) then (if 0 ≤ x7 then ((x1 (⟨(rd_T223 x6 x8).f0, (rd_T223 x6 x8).f1⟩ : S223) (⟨(rd_T223 x5 x7).f0, (rd_T223 x5 x7).f1⟩ : S223)).bind fun t234 => (if t234 = true then (if 0 ≤ x34 then (if x34 < (x0.length : Int) then (impl_cutOff.l0 k (x0.set (x34 : Int).toNat (⟨(rd_T223 x6 x8).f0, (rd_T223 x6 x8).f1⟩ : S223)) x1 x5 x6 x7 (wrap64 (x8 + 1)) x33 (wrap64 (x34 + 1))) else (none)) else (none)) else (if 0 ≤ x34 then (if x34 < (x0.length : Int) then (impl_cutOff.l0 k (x0.set (x34 : Int).toNat (⟨(rd_T223 x5 x7).f0, (rd_T223 x5 x7).f1⟩ : S223)) x1 x5 x6 (wrap64 (x7 + 1)) x8 x33 (wrap64 (x34 + 1))) else (none)) else (none)))) else (none)) else (none)) else (none)) else (if 0 ≤ x8 then (if x8 < (x6.length : Int) then (if 0 ≤ x34 then (if x34 < (x0.length : Int) then (impl_cutOff.l0 k (x0.set (x34 : Int).toNat (⟨(rd_T223 x6 x8).f0, (rd_T223 x6 x8).f1⟩ : S223)) x1 x5 x6 x7 (wrap64 (x8 + 1)) x33 (wrap64 (x34 + 1))) else (none)) else (none)) else (none)) else (none)))) else (some x0)
def impl_cutOff.f : Nat → List (S223) → (S223 → S223 → Option Bool) → Option ((List (S223)))
 | 0, _, _ => none
 | k + 1, l0, a1 => if (l0.length : Int) < 2 then (some l0) else ((some (([] : List (S223)) : List (S223))).bind fun y208 => (if 0 ≤ (wrap64 ((l0.length : Int) / 2)) then (if (wrap64 ((l0.length : Int) / 2)) ≤ (l0.length : Int) then ((some (l0.take ((wrap64 ((l0.length : Int) / 2)) : Int).toNat : List (S223))).bind fun y211 => (if y208.length + y211.length < 8796093022208 then ((some (([] : List (S223)) : List (S223))).bind fun y218 => ((some (l0.drop ((wrap64 ((l0.length : Int) / 2)) : Int).toNat : List (S223))).bind fun y221 => (if y218.length + y221.length < 8796093022208 then ((impl_cutOff.f k (y208 ++ y211) a1).bind fun t228 => ((impl_cutOff.f k (y218 ++ y221) a1).bind fun t229 => (impl_cutOff.l0 k l0 a1 t228 t229 0 0 (l0.length : Int) 0))) else (none)))) else (none))) else (none)) else (none)))
end
theorem impl_cutOff.mono_l : ∀ k, (∀ y0 y1, LeO (impl_cutOff.f k y0 y1) (impl_cutOff.f (k + 1) y0 y1)) ∧ (∀ y0 y1 y2 y3 y4 y5 y6 y7, LeO (impl_cutOff.l0 k y0 y1 y2 y3 y4 y5 y6 y7) (impl_cutOff.l0 (k + 1) y0 y1 y2 y3 y4 y5 y6 y7))
 | 0 => ⟨fun _ _ r h => by simp [impl_cutOff.f] at h, fun _ _ _ _ _ _ _ _ r h => by simp [impl_cutOff.l0] at h⟩
 | k + 1 => by
  obtain ⟨ih0, ih1⟩ := impl_cutOff.mono_l k
  refine ⟨?_, ?_⟩
  ·intro y0 y1
   unfold impl_cutOff.f
   repeat' first
   | (with_reducible exact ih0 _ _)
   | (with_reducible exact ih1 _ _ _ _ _ _ _ _)
   | (with_reducible exact LeO.refl _)
   | (with_reducible exact LeO.none _)
   | (with_reducible refine LeO.ite ?_ ?_)
   | (with_reducible refine LeO.bind ?_ (fun _ => ?_))
   | exact ih0 _ _
   | exact ih1 _ _ _ _ _ _ _ _
   | exact LeO.none _
   | refine LeO.ite ?_ ?_
   | refine LeO.bind ?_ (fun _ => ?_)
  ·intro y0 y1 y2 y3 y4 y5 y6 y7
   unfold impl_cutOff.l0
   repeat' first
   | (with_reducible exact ih0 _ _)
   | (with_reducible exact ih1 _ _ _ _ _ _ _ _)
   | (with_reducible exact LeO.refl _)
   | (with_reducible exact LeO.none _)
   | (with_reducible refine LeO.ite ?_ ?_)
   | (with_reducible refine LeO.bind ?_ (fun _ => ?_))
   | exact ih0 _ _
   | exact ih1 _ _ _ _ _ _ _ _
   | exact LeO.none _
   | refine LeO.ite ?_ ?_
   | refine LeO.bind ?_ (fun _ => ?_)
theorem impl_cutOff.mono : ∀ a0 a1 k, LeO (impl_cutOff.f k a0 a1) (impl_cutOff.f (k + 1) a0 a1) := by
 intro a0 a1 k
 obtain ⟨ih0, ih1⟩ := impl_cutOff.mono_l k
 exact ih0 a0 a1
def impl_cutOff.T10 : Bool × List (List Nat × List Nat) := (true, [([], []), ([], []), ([1], [1]), ([0, 2], [0, 2]), ([3], [3]), ([4], [4]), ([4], [4]), ([6, 4], [4, 6]), ([5, 7, 4], [4, 5, 7]), ([8, 4, 4], [4, 8]), ([9], [9]), ([9], [9]), ([9], [9]), ([11, 12, 9], [9, 11, 12]), ([13, 9], [9, 13]), ([9], [9]), ([9], [9]), ([15, 16, 9], [9, 15, 16]), ([17, 9], [9, 17]), ([10, 14, 18, 9, 9], [9, 10, 14, 18]), ([19, 9], [9, 19]), ([9, 20, 4], [4, 9, 20]), ([4, 21], [4, 21])])
def impl_cutOff.B10 : List Nat := [0, 0, 2, 7, 15, 31, 31, 95, 255, 511, 1023, 1023, 1023, 7167, 15359, 1023, 1023, 99327, 230399, 524287, 1048575, 2097151, 4194303]
theorem impl_cutOff.tab10 : rtab .any (opsOf Try.f167 10) = impl_cutOff.T10 := by kernel_rfl
theorem impl_cutOff.bits10 : waitsOk impl_cutOff.T10.2 impl_cutOff.B10 = true := by kernel_rfl
set_option maxHeartbeats 8000000 in
set_option maxRecDepth 100000 in
theorem impl_cutOff.calls (k : Nat) : ∀ (P0_ : Nat → Prop) (u9000_ : Value) (l0 : List (S223)) (f1 : Nat) (b1 : Array Value) (a1 : (S223 → S223 → Option Bool)) (r : List (S223)) (w0 w : World) (hB : Below w0.heap.size w0 w) (ho0 : Kd.R k223 223 w w0.heap.size P0_ u9000_ l0) (hq1 : ∀ W_, Kept w W_ (fun k_ => P0_ k_) → FnOk (α := S223) Try.prog W_ f1 b1 (fun x_ => .agg #[.int .i64 x_.f0, .int .i64 x_.f1]) a1) (h : impl_cutOff.f k l0 a1 = some r),
  Calls Try.prog 167 #[u9000_, .func (.func f1) #[] b1] w fun e w' => e = .returned (.tuple #[]) ∧ Kd.R k223 223 w' w0.heap.size (fun k_ => (P0_ k_ ∨ w.heap.size ≤ k_)) u9000_ r ∧ Below w0.heap.size w0 w' ∧ Kept w w' (fun k_ => P0_ k_) := by
 induction k using Nat.strongRecOn with
 | _ k ih =>
 intro P0_ u9000_ l0 f1 b1 a1 r w0 w hB ho0 hq1 h
 cases k with
 | zero => exact absurd h (by simp [impl_cutOff.f])
 | succ k =>
 simp only [impl_cutOff.f] at h
 have hu223 := Try.underlying223
 have HO0 := Aside0.mk (show Kd.R k223 223 w w0.heap.size (fun k_ => (P0_ k_ ∨ w.heap.size ≤ k_)) u9000_ l0 from Kd.qq0 ho0 (fun k_ hk => (.inl hk)))
 have HQ1 := Aside0.mk hq1
 clear hq1
 have HK := Aside0.mk (Kept.refl w (fun k_ => P0_ k_))
 have HW0 := Aside0.mk hB.size
 have HB := Aside0.mk hB
 clear hB
 have H : (if (l0.length : Int) < 2 then (some l0) else ((some (([] : List (S223)) : List (S223))).bind fun y208 => (if 0 ≤ (wrap64 ((l0.length : Int) / 2)) then (if (wrap64 ((l0.length : Int) / 2)) ≤ (l0.length : Int) then ((some (l0.take ((wrap64 ((l0.length : Int) / 2)) : Int).toNat : List (S223))).bind fun y211 => (if y208.length + y211.length < 8796093022208 then ((some (([] : List (S223)) : List (S223))).bind fun y218 => ((some (l0.drop ((wrap64 ((l0.length : Int) / 2)) : Int).toNat : List (S223))).bind fun y221 => (if y218.length + y221.length < 8796093022208 then ((impl_cutOff.f k (y208 ++ y211) a1).bind fun t228 => ((impl_cutOff.f k (y218 ++ y221) a1).bind fun t229 => (impl_cutOff.l0 k l0 a1 t228 t229 0 0 (l0.length : Int) 0))) else (none)))) else (none))) else (none)) else (none)))) = some r := h
 clear h
 by_cases c3 : (l0.length : Int) < 2
 ·rw [if_pos c3] at H
  have c3b0 : decide ((l0.length : Int) < 2) = true := decide_eq_true c3
  have c3b1 : decide (l0.length < 2) = true := decide_eq_true (by omega)
  clear c3
  obtain rfl := Option.some.inj H
  obtain ⟨Ao4, co4, eo4⟩ := Kd.qy0 HO0.out
  subst eo4
  go_enter Try.func167, Try.ntmps167
  go_wp2
  first | go_end0 | ((try simp only [Exit.inBlock, Exit.then]); refine bodyPost_ret (results_none rfl _ _ _) rfl ?_)
  exact ⟨by first | rfl | (simp [errW_none, errW_some] <;> rfl) | (simp [*, errW_none, errW_some] <;> rfl), by (with_reducible repeat (first | apply Kd.qe0 | apply Kd.qd0 | apply Kd.qf0)); exact HO0.out, by repeat (first | (with_reducible first | exact HB.out | apply qc0 | apply qa0 | apply qb0) | exact HB.out), by repeat (first | (with_reducible first | exact HK.out | apply Kept.alloc | apply Kept.drewN | apply Kept.drew) | exact HK.out)⟩
 rw [if_neg c3] at H
 have c3b0 : decide ((l0.length : Int) < 2) = false := decide_eq_false c3
 have c3b1 : decide (l0.length < 2) = false := decide_eq_false (by omega)
 clear c3
 obtain ⟨y208, hy208⟩ : ∃ y_ : List (S223), y_ = (([] : List (S223))) := ⟨_, rfl⟩
 replace H : (if 0 ≤ (wrap64 ((l0.length : Int) / 2)) then (if (wrap64 ((l0.length : Int) / 2)) ≤ (l0.length : Int) then ((some (l0.take ((wrap64 ((l0.length : Int) / 2)) : Int).toNat : List (S223))).bind fun y211 => (if y208.length + y211.length < 8796093022208 then ((some (([] : List (S223)) : List (S223))).bind fun y218 => ((some (l0.drop ((wrap64 ((l0.length : Int) / 2)) : Int).toNat : List (S223))).bind fun y221 => (if y218.length + y221.length < 8796093022208 then ((impl_cutOff.f k (y208 ++ y211) a1).bind fun t228 => ((impl_cutOff.f k (y218 ++ y221) a1).bind fun t229 => (impl_cutOff.l0 k l0 a1 t228 t229 0 0 (l0.length : Int) 0))) else (none)))) else (none))) else (none)) else (none)) = some r := by first | (rw [hy208]; with_reducible exact H) | (have H2_ := (Option.bind_some _ _).symm.trans H; rw [hy208]; with_reducible exact H2_) | (have H2_ := (Option.bind_some _ _).symm.trans H; with_reducible exact H2_) | with_reducible exact H | (rw [hy208]; exact H) | exact H
 have Ny208 := Aside0.mk hy208
 clear hy208
 obtain ⟨ji5, hji5⟩ : ∃ j_ : Int, (wrap64 ((l0.length : Int) / 2)) = j_ := ⟨_, rfl⟩
 replace H : (if 0 ≤ (ji5) then (if (ji5) ≤ (l0.length : Int) then ((some (l0.take ((ji5) : Int).toNat : List (S223))).bind fun y211 => (if y208.length + y211.length < 8796093022208 then ((some (([] : List (S223)) : List (S223))).bind fun y218 => ((some (l0.drop ((ji5) : Int).toNat : List (S223))).bind fun y221 => (if y218.length + y221.length < 8796093022208 then ((impl_cutOff.f k (y208 ++ y211) a1).bind fun t228 => ((impl_cutOff.f k (y218 ++ y221) a1).bind fun t229 => (impl_cutOff.l0 k l0 a1 t228 t229 0 0 (l0.length : Int) 0))) else (none)))) else (none))) else (none)) else (none)) = some r := by first | (rw [hji5] at H; exact H) | (simp only [hji5] at H ⊢; exact H)
 have hji5w : (IntKind.i64.wrap ((l0.length : Int) / 2)) = ji5 := (i64_w _).trans hji5
 by_cases c6 : 0 ≤ (ji5)
 case neg => rw [if_neg c6] at H; exact absurd H (by simp)
 rw [if_pos c6] at H
 have c6b0 := eq_true c6
 have c6b1 : decide (0 ≤ (ji5)) = true := decide_eq_true c6
 clear c6
 by_cases c7 : (ji5) ≤ (l0.length : Int)
 case neg => rw [if_neg c7] at H; exact absurd H (by simp)
 rw [if_pos c7] at H
 have c7b0 := eq_true c7
 have c7b1 : decide ((ji5) ≤ (l0.length : Int)) = true := decide_eq_true c7
 clear c7
 obtain ⟨y211, hy211⟩ : ∃ y_ : List (S223), y_ = (l0.take ((ji5) : Int).toNat) := ⟨_, rfl⟩
 replace H : (if y208.length + y211.length < 8796093022208 then ((some (([] : List (S223)) : List (S223))).bind fun y218 => ((some (l0.drop ((ji5) : Int).toNat : List (S223))).bind fun y221 => (if y218.length + y221.length < 8796093022208 then ((impl_cutOff.f k (y208 ++ y211) a1).bind fun t228 => ((impl_cutOff.f k (y218 ++ y221) a1).bind fun t229 => (impl_cutOff.l0 k l0 a1 t228 t229 0 0 (l0.length : Int) 0))) else (none)))) else (none)) = some r := by first | (rw [hy211]; with_reducible exact H) | (have H2_ := (Option.bind_some _ _).symm.trans H; rw [hy211]; with_reducible exact H2_) | (have H2_ := (Option.bind_some _ _).symm.trans H; with_reducible exact H2_) | with_reducible exact H | (rw [hy211]; exact H) | exact H
 have Ny211 := Aside0.mk hy211
 clear hy211
 by_cases c8 : y208.length + y211.length < 8796093022208
 case neg => rw [if_neg c8] at H; exact absurd H (by simp)
 rw [if_pos c8] at H
 have LMc8 := Aside0.mk c8
 clear c8
 obtain ⟨y215, hy215⟩ : ∃ y_ : List (S223), y_ = (y208 ++ y211) := ⟨_, rfl⟩
 replace H : ((some (([] : List (S223)) : List (S223))).bind fun y218 => ((some (l0.drop ((ji5) : Int).toNat : List (S223))).bind fun y221 => (if y218.length + y221.length < 8796093022208 then ((impl_cutOff.f k y215 a1).bind fun t228 => ((impl_cutOff.f k (y218 ++ y221) a1).bind fun t229 => (impl_cutOff.l0 k l0 a1 t228 t229 0 0 (l0.length : Int) 0))) else (none)))) = some r := by first | (rw [hy215]; with_reducible exact H) | (have H2_ := (Option.bind_some _ _).symm.trans H; rw [hy215]; with_reducible exact H2_) | (have H2_ := (Option.bind_some _ _).symm.trans H; with_reducible exact H2_) | with_reducible exact H | (rw [hy215]; exact H) | exact H
 have Ny215 := Aside0.mk hy215
 clear hy215
 obtain ⟨y218, hy218⟩ : ∃ y_ : List (S223), y_ = (([] : List (S223))) := ⟨_, rfl⟩
 replace H : ((some (l0.drop ((ji5) : Int).toNat : List (S223))).bind fun y221 => (if y218.length + y221.length < 8796093022208 then ((impl_cutOff.f k y215 a1).bind fun t228 => ((impl_cutOff.f k (y218 ++ y221) a1).bind fun t229 => (impl_cutOff.l0 k l0 a1 t228 t229 0 0 (l0.length : Int) 0))) else (none))) = some r := by first | (rw [hy218]; with_reducible exact H) | (have H2_ := (Option.bind_some _ _).symm.trans H; rw [hy218]; with_reducible exact H2_) | (have H2_ := (Option.bind_some _ _).symm.trans H; with_reducible exact H2_) | with_reducible exact H | (rw [hy218]; exact H) | exact H
 have Ny218 := Aside0.mk hy218
 clear hy218
 have c9b0 := eq_true (of_decide_eq_true (by first | (with_reducible assumption) | assumption) : 0 ≤ (ji5))
 have c10b0 := eq_true (of_decide_eq_true (by first | (with_reducible assumption) | assumption) : (ji5) ≤ (l0.length : Int))
 obtain ⟨y221, hy221⟩ : ∃ y_ : List (S223), y_ = (l0.drop ((ji5) : Int).toNat) := ⟨_, rfl⟩
 replace H : (if y218.length + y221.length < 8796093022208 then ((impl_cutOff.f k y215 a1).bind fun t228 => ((impl_cutOff.f k (y218 ++ y221) a1).bind fun t229 => (impl_cutOff.l0 k l0 a1 t228 t229 0 0 (l0.length : Int) 0))) else (none)) = some r := by first | (rw [hy221]; with_reducible exact H) | (have H2_ := (Option.bind_some _ _).symm.trans H; rw [hy221]; with_reducible exact H2_) | (have H2_ := (Option.bind_some _ _).symm.trans H; with_reducible exact H2_) | with_reducible exact H | (rw [hy221]; exact H) | exact H
 have Ny221 := Aside0.mk hy221
 clear hy221
 by_cases c11 : y218.length + y221.length < 8796093022208
 case neg => rw [if_neg c11] at H; exact absurd H (by simp)
 rw [if_pos c11] at H
 have LMc11 := Aside0.mk c11
 clear c11
 obtain ⟨y225, hy225⟩ : ∃ y_ : List (S223), y_ = (y218 ++ y221) := ⟨_, rfl⟩
 replace H : ((impl_cutOff.f k y215 a1).bind fun t228 => ((impl_cutOff.f k y225 a1).bind fun t229 => (impl_cutOff.l0 k l0 a1 t228 t229 0 0 (l0.length : Int) 0))) = some r := by first | (rw [hy225]; with_reducible exact H) | (have H2_ := (Option.bind_some _ _).symm.trans H; rw [hy225]; with_reducible exact H2_) | (have H2_ := (Option.bind_some _ _).symm.trans H; with_reducible exact H2_) | with_reducible exact H | (rw [hy225]; exact H) | exact H
 have Ny225 := Aside0.mk hy225
 clear hy225
 replace H := Option.bind_eq_some_iff.mp H
 obtain ⟨t228, A120, H⟩ := H
 replace H : ((impl_cutOff.f k y225 a1).bind fun t229 => (impl_cutOff.l0 k l0 a1 t228 t229 0 0 (l0.length : Int) 0)) = some r := H
 have A12 := Aside0.mk A120
 clear A120
 replace H := Option.bind_eq_some_iff.mp H
 obtain ⟨t229, A130, H⟩ := H
 replace H : (impl_cutOff.l0 k l0 a1 t228 t229 0 0 (l0.length : Int) 0) = some r := H
 have A13 := Aside0.mk A130
 clear A130
 have H' := Aside0.mk H
 clear H
 obtain ⟨Ao14, co14, eo14⟩ := Kd.qy0 HO0.out
 subst eo14
 go_enter Try.func167, Try.ntmps167
 go_wp2_with (first | ((with_reducible refine qa1 (N := 16) rfl ?_); (try (refine qw0 (by rfl) ?_; dsimp only)); refine Kd.R_lit k223 _ 223 ?hg (N := 16) ?hd (xs := ([] : List (S223))) (inner := []) (ok := fun _ => True) (okp := fun _ => True) ?hr ?hp (fun _ hk => hk) trivial (Below.refl _ _) (Nat.le_refl _) (by simp) ?_; (case hd => rfl); (case hg => rfl); (case hr => first | (go_simp; done) | (go_simp; rfl)); (case hp => exact (Reps.none _ _)); intro v209 w15 ho16 hb hg_ hnew_; clear hg_ hnew_; (first | rw [← Ny208.out] at ho16 | (simp only [Int.reduceToNat] at ho16; rw [← Ny208.out] at ho16)); have n0_ := Aside0.mk (Kd.qb1 (by (with_reducible repeat (first | apply Kd.qe0 | apply Kd.qd0 | apply Kd.qf0)); exact HO0.out) (Kd.qg1 ho16) hb); have n1_ := Aside0.mk (Kd.qj1 (Kd.ql1 (Kd.R_newM (M := fun k_ => (P0_ k_ ∨ w.heap.size ≤ k_)) ho16 (by first | exact HK.out.1 | exact (show Kept w _ (fun k_ => P0_ k_) from by repeat (first | (with_reducible first | exact HK.out | apply Kept.alloc | apply Kept.drewN | apply Kept.drew) | exact HK.out)).1) (fun k_ h_ => .inr h_)) (Kd.R_lt (by (with_reducible repeat (first | apply Kd.qe0 | apply Kd.qd0 | apply Kd.qf0)); exact HO0.out))) (qm0 (by repeat (first | (with_reducible first | exact HB.out | apply qc0 | apply qa0 | apply qb0) | exact HB.out)))); have n2_ := Aside0.mk (Kept.below (S := (fun k_ => P0_ k_)) (by repeat (first | (with_reducible first | exact HK.out | apply Kept.alloc | apply Kept.drewN | apply Kept.drew) | exact HK.out)) hb); have n3_ := Aside0.mk (qr0 (by repeat (first | (with_reducible first | exact HB.out | apply qc0 | apply qa0 | apply qb0) | exact HB.out)) hb); clear HO0; clear HK; clear HB; have HO0 := n0_; have HO210 := n1_; have HK := n2_; have HB := n3_; clear n0_ n1_ n2_ n3_; clear hb ho16; have q17 : ((ji5) : Int) ≤ ((l0.length : Int) : Int) := of_decide_eq_true (by first | (with_reducible assumption) | assumption); obtain ⟨i017, hi017, _, hsz17, _⟩ := info_parts info223; have hroom17 : l0.length ≤ co14 := (Kd.qk0 HO0.out).2.1; have hC17 : Kd.C k223 _ Ao14 l0.length l0 := (Kd.qk0 HO0.out).2.2; have hcut17 := cut_to (P := Try.prog) 221 223 .i64 Try.underlying221 hi017 Ao14 l0.length co14 (ji5) (of_decide_eq_true (by first | (with_reducible assumption) | assumption)) q17 hroom17; have hr17 := Kd.C_take (m := ((ji5) : Int).toNat) hC17 (by omega); have hy17 : y211.length = ((ji5) : Int).toNat := (by rw [Ny211.out, List.length_take]; omega); rw [← Ny211.out] at hr17; rw [← hy17] at hcut17; have HR214 := Aside0.mk hr17; have HC214 := Aside0.mk (show y211.length ≤ co14 from by omega); clear hr17 hC17 hroom17 hi017 hsz17; have KY17 := Aside0.mk hy17; clear hy17; have KL17 := Aside0.mk (show ((ji5) : Int).toNat ≤ l0.length from by omega); replace q17 := eq_true q17) | ((with_reducible refine gate_builtin (b := .append) (xs := #[.tmp 16, .tmp 19]) rfl ?_); (try (refine qw0 (by rfl) ?_; dsimp only)); at_builtin; refine Kd.R_append_rows k223 (w0 := w0) w0.heap.size rfl (.tmp 16) (.tmp 19) 221 223 (.agg #[(.int .i64 0), (.int .i64 0)]) 16 rfl Try.underlying221 info223 rfl (by decide) (by omega) v209 y208 y211 _ _ _ (fun k_ => (P0_ k_ ∨ w.heap.size ≤ k_) ∧ some k_ ≠ (.slice Ao14 l0.length co14 : Value).ownBlock) (fun _ => False) rfl rfl ?aO ?aR (fun _ _ h => h) (fun _ h => h.elim) ?aF ?aB ?aS ?aL ?_; (case aR => repeat (first | exact (by repeat (first | (with_reducible exact HR214.out) | (with_reducible refine Kd.qt0 ?_ _) | (with_reducible refine Kd.qs0 ?_ _) | (with_reducible refine Kd.qu0 ?_) | exact HR214.out)) | (with_reducible refine Kd.qt0 ?_ _) | (with_reducible refine Kd.qs0 ?_ _) | (with_reducible refine Kd.qu0 ?_))); (case aB => exact (by repeat (first | (with_reducible first | exact HB.out | apply qc0 | apply qa0 | apply qb0) | exact HB.out))); (case aF => exact (fun k_ hk => ⟨(.inr (Nat.le_trans (by first | exact HK.out.1 | exact (show Kept w _ (fun k_ => P0_ k_) from by repeat (first | (with_reducible first | exact HK.out | apply Kept.alloc | apply Kept.drewN | apply Kept.drew) | exact HK.out)).1) hk)), Kd.fresh' (Kd.R_lt (by (with_reducible repeat (first | apply Kd.qe0 | apply Kd.qd0 | apply Kd.qf0)); exact HO0.out)) k_ hk⟩)); (case aO => exact (by (with_reducible repeat (first | apply Kd.qe0 | apply Kd.qd0 | apply Kd.qf0)); exact Kd.qq0 HO210.out (fun _ hk => ⟨hk.1.1, hk.2⟩))); (case aS => exact (qm0 (by repeat (first | (with_reducible first | exact HB.out | apply qc0 | apply qa0 | apply qb0) | exact HB.out)))); (case aL => have := LMc8.out; omega); intro v216 w18 ho hb hg hat; rw [← Ny215.out] at ho; have n0_ := Aside0.mk (Kd.qk1 (ok := (fun k_ => (P0_ k_ ∨ w.heap.size ≤ k_))) (by (with_reducible repeat (first | apply Kd.qe0 | apply Kd.qd0 | apply Kd.qf0)); exact HO0.out) hg hat); have n1_ := Aside0.mk (hb); have n2_ := Aside0.mk (Kept.of_grown (S := (fun k_ => P0_ k_)) hg (by repeat (first | (with_reducible first | exact HK.out | apply Kept.alloc | apply Kept.drewN | apply Kept.drew) | exact HK.out)) (fun k_ e_ => (HO210.out.1 k_ e_).1.1)); have n3_ := Aside0.mk ((show Kd.C k223 w18 Ao14 y211.length y211 from by rw [Ny211.out]; exact Kd.C_take (m := ((ji5) : Int).toNat) ((Kd.qk0 (Kd.qk1 (ok := (fun k_ => (P0_ k_ ∨ w.heap.size ≤ k_))) (by (with_reducible repeat (first | apply Kd.qe0 | apply Kd.qd0 | apply Kd.qf0)); exact HO0.out) hg hat)).2.2) KL17.out)); have n4_ := Aside0.mk (ho); clear HO0; clear HB; clear HK; clear HR214; clear HO210; have HO0 := n0_; have HB := n1_; have HK := n2_; have HR214 := n3_; have HO217 := n4_; clear n0_ n1_ n2_ n3_ n4_; clear ho hb hg hat) | ((with_reducible refine qa1 (N := 21) rfl ?_); (try (refine qw0 (by rfl) ?_; dsimp only)); refine Kd.R_lit k223 _ 223 ?hg (N := 21) ?hd (xs := ([] : List (S223))) (inner := []) (ok := fun _ => True) (okp := fun _ => True) ?hr ?hp (fun _ hk => hk) trivial (Below.refl _ _) (Nat.le_refl _) (by simp) ?_; (case hd => rfl); (case hg => rfl); (case hr => first | (go_simp; done) | (go_simp; rfl)); (case hp => exact (Reps.none _ _)); intro v219 w19 ho20 hb hg_ hnew_; clear hg_ hnew_; (first | rw [← Ny218.out] at ho20 | (simp only [Int.reduceToNat] at ho20; rw [← Ny218.out] at ho20)); have n0_ := Aside0.mk (Kd.qb1 (by (with_reducible repeat (first | apply Kd.qe0 | apply Kd.qd0 | apply Kd.qf0)); exact HO0.out) (Kd.qg1 ho20) hb); have n1_ := Aside0.mk (Kd.qb1 (by (with_reducible repeat (first | apply Kd.qe0 | apply Kd.qd0 | apply Kd.qf0)); exact HO217.out) (Kd.qg1 ho20) hb); have n2_ := Aside0.mk (Kd.qj1 (Kd.ql1 (Kd.ql1 (Kd.R_newM (M := fun k_ => (P0_ k_ ∨ w.heap.size ≤ k_)) ho20 (by first | exact HK.out.1 | exact (show Kept w _ (fun k_ => P0_ k_) from by repeat (first | (with_reducible first | exact HK.out | apply Kept.alloc | apply Kept.drewN | apply Kept.drew) | exact HK.out)).1) (fun k_ h_ => .inr h_)) (Kd.R_lt (by (with_reducible repeat (first | apply Kd.qe0 | apply Kd.qd0 | apply Kd.qf0)); exact HO0.out))) (Kd.R_lt (by (with_reducible repeat (first | apply Kd.qe0 | apply Kd.qd0 | apply Kd.qf0)); exact HO217.out))) (qm0 (by repeat (first | (with_reducible first | exact HB.out | apply qc0 | apply qa0 | apply qb0) | exact HB.out)))); have n3_ := Aside0.mk (Kd.qz0 (by repeat (first | (with_reducible exact HR214.out) | (with_reducible refine Kd.qt0 ?_ _) | (with_reducible refine Kd.qs0 ?_ _) | (with_reducible refine Kd.qu0 ?_) | exact HR214.out)) hb); have n4_ := Aside0.mk (Kept.below (S := (fun k_ => P0_ k_)) (by repeat (first | (with_reducible first | exact HK.out | apply Kept.alloc | apply Kept.drewN | apply Kept.drew) | exact HK.out)) hb); have n5_ := Aside0.mk (qr0 (by repeat (first | (with_reducible first | exact HB.out | apply qc0 | apply qa0 | apply qb0) | exact HB.out)) hb); clear HO0; clear HO217; clear HR214; clear HK; clear HB; have HO0 := n0_; have HO217 := n1_; have HO220 := n2_; have HR214 := n3_; have HK := n4_; have HB := n5_; clear n0_ n1_ n2_ n3_ n4_ n5_; clear hb ho20; have q21 : ((ji5) : Int) ≤ ((l0.length : Int) : Int) := of_decide_eq_true (by first | (with_reducible assumption) | assumption); obtain ⟨i021, hi021, _, hsz21, _⟩ := info_parts info223; have hroom21 : l0.length ≤ co14 := (Kd.qk0 HO0.out).2.1; have hC21 : Kd.C k223 _ Ao14 l0.length l0 := (Kd.qk0 HO0.out).2.2; have q021 : (0 : Int) ≤ ((ji5) : Int) := of_decide_eq_true (by first | (with_reducible assumption) | assumption); have hcut21 := cut_from (P := Try.prog) 221 223 .i64 Try.underlying221 hi021 2 hsz21 Ao14 l0.length co14 (ji5) q021 q21; have hr21 := Kd.C_drop (m := ((ji5) : Int).toNat) (c := co14) hC21 (by omega) hroom21; obtain ⟨A21, hA21⟩ : ∃ A1, A1 = (if co14 = ((ji5) : Int).toNat then Ao14 else (Ao14 : Option Addr).map (·.add (((ji5) : Int).toNat * 2))) := ⟨_, rfl⟩; obtain ⟨c21, hc21⟩ : ∃ c1, c1 = co14 - ((ji5) : Int).toNat := ⟨_, rfl⟩; have hy21 : y221.length = l0.length - ((ji5) : Int).toNat := (by rw [Ny221.out, List.length_drop] <;> omega); rw [show (l0).drop ((ji5) : Int).toNat = y221 from Ny221.out.symm] at hr21; replace hr21 : Kd.C k223 _ A21 y221.length y221 := (by rw [hA21]; exact hr21); rw [← hy21, ← hA21, ← hc21] at hcut21; have HR224 := Aside0.mk hr21; have HC224 := Aside0.mk (show y221.length ≤ c21 from by rw [hy21, hc21]; exact Nat.sub_le_sub_right hroom21 _); clear hr21 hC21 hroom21 hi021 hsz21 hc21; have KY21 := Aside0.mk hy21; have KA21 := Aside0.mk hA21; clear hy21 hA21; have KL21 := Aside0.mk (show ((ji5) : Int).toNat ≤ l0.length from by omega); replace q21 := eq_true q21) | ((with_reducible refine gate_builtin (b := .append) (xs := #[.tmp 21, .tmp 24]) rfl ?_); (try (refine qw0 (by rfl) ?_; dsimp only)); at_builtin; refine Kd.R_append_rows k223 (w0 := w0) w0.heap.size rfl (.tmp 21) (.tmp 24) 221 223 (.agg #[(.int .i64 0), (.int .i64 0)]) 16 rfl Try.underlying221 info223 rfl (by decide) (by omega) v219 y218 y221 _ _ _ (fun k_ => (P0_ k_ ∨ w.heap.size ≤ k_) ∧ some k_ ≠ (.slice Ao14 l0.length co14 : Value).ownBlock ∧ some k_ ≠ (v216 : Value).ownBlock) (fun _ => False) rfl rfl ?aO ?aR (fun _ _ h => h) (fun _ h => h.elim) ?aF ?aB ?aS ?aL ?_; (case aR => repeat (first | exact (by repeat (first | (with_reducible exact HR224.out) | (with_reducible refine Kd.qt0 ?_ _) | (with_reducible refine Kd.qs0 ?_ _) | (with_reducible refine Kd.qu0 ?_) | exact HR224.out)) | (with_reducible refine Kd.qt0 ?_ _) | (with_reducible refine Kd.qs0 ?_ _) | (with_reducible refine Kd.qu0 ?_))); (case aB => exact (by repeat (first | (with_reducible first | exact HB.out | apply qc0 | apply qa0 | apply qb0) | exact HB.out))); (case aF => exact (fun k_ hk => ⟨(.inr (Nat.le_trans (by first | exact HK.out.1 | exact (show Kept w _ (fun k_ => P0_ k_) from by repeat (first | (with_reducible first | exact HK.out | apply Kept.alloc | apply Kept.drewN | apply Kept.drew) | exact HK.out)).1) hk)), Kd.fresh' (Kd.R_lt (by (with_reducible repeat (first | apply Kd.qe0 | apply Kd.qd0 | apply Kd.qf0)); exact HO0.out)) k_ hk, Kd.fresh' (Kd.R_lt (by (with_reducible repeat (first | apply Kd.qe0 | apply Kd.qd0 | apply Kd.qf0)); exact HO217.out)) k_ hk⟩)); (case aO => exact (by (with_reducible repeat (first | apply Kd.qe0 | apply Kd.qd0 | apply Kd.qf0)); exact Kd.qq0 HO220.out (fun _ hk => ⟨hk.1.1.1, ⟨hk.1.2, hk.2⟩⟩))); (case aS => exact (qm0 (by repeat (first | (with_reducible first | exact HB.out | apply qc0 | apply qa0 | apply qb0) | exact HB.out)))); (case aL => have := LMc11.out; omega); intro v226 w22 ho hb hg hat; rw [← Ny225.out] at ho; have n0_ := Aside0.mk (Kd.qk1 (ok := (fun k_ => (P0_ k_ ∨ w.heap.size ≤ k_) ∧ some k_ ≠ (v216 : Value).ownBlock)) (by (with_reducible repeat (first | apply Kd.qe0 | apply Kd.qd0 | apply Kd.qf0)); exact HO0.out) hg hat); have n1_ := Aside0.mk (Kd.qk1 (ok := (fun k_ => (P0_ k_ ∨ w.heap.size ≤ k_) ∧ some k_ ≠ (.slice Ao14 l0.length co14 : Value).ownBlock)) (by (with_reducible repeat (first | apply Kd.qe0 | apply Kd.qd0 | apply Kd.qf0)); exact HO217.out) hg hat); have n2_ := Aside0.mk (hb); have n3_ := Aside0.mk (Kept.of_grown (S := (fun k_ => P0_ k_)) hg (by repeat (first | (with_reducible first | exact HK.out | apply Kept.alloc | apply Kept.drewN | apply Kept.drew) | exact HK.out)) (fun k_ e_ => (HO220.out.1 k_ e_).1.1.1)); have n4_ := Aside0.mk ((show Kd.C k223 w22 Ao14 y211.length y211 from by rw [Ny211.out]; exact Kd.C_take (m := ((ji5) : Int).toNat) ((Kd.qk0 (Kd.qk1 (ok := (fun k_ => (P0_ k_ ∨ w.heap.size ≤ k_) ∧ some k_ ≠ (v216 : Value).ownBlock)) (by (with_reducible repeat (first | apply Kd.qe0 | apply Kd.qd0 | apply Kd.qf0)); exact HO0.out) hg hat)).2.2) KL17.out)); have n5_ := Aside0.mk ((show Kd.C k223 w22 A21 y221.length y221 from by rw [Ny221.out, KA21.out]; exact Kd.C_drop (m := ((ji5) : Int).toNat) (c := co14) ((Kd.qk0 (Kd.qk1 (ok := (fun k_ => (P0_ k_ ∨ w.heap.size ≤ k_) ∧ some k_ ≠ (v216 : Value).ownBlock)) (by (with_reducible repeat (first | apply Kd.qe0 | apply Kd.qd0 | apply Kd.qf0)); exact HO0.out) hg hat)).2.2) KL21.out ((Kd.qk0 (Kd.qk1 (ok := (fun k_ => (P0_ k_ ∨ w.heap.size ≤ k_) ∧ some k_ ≠ (v216 : Value).ownBlock)) (by (with_reducible repeat (first | apply Kd.qe0 | apply Kd.qd0 | apply Kd.qf0)); exact HO0.out) hg hat)).2.1))); have n6_ := Aside0.mk (ho); clear HO0; clear HO217; clear HB; clear HK; clear HR214; clear HR224; clear HO220; have HO0 := n0_; have HO217 := n1_; have HB := n2_; have HK := n3_; have HR214 := n4_; have HR224 := n5_; have HO227 := n6_; clear n0_ n1_ n2_ n3_ n4_ n5_ n6_; clear ho hb hg hat; obtain ⟨Ao23, co23, eo23⟩ := Kd.qy0 HO217.out; subst eo23) | ((with_reducible refine ql0 (f := 167) rfl ?_); refine qx0 (some 28) rfl rfl Try.func167 (by kernel_rfl) rfl #[.slice Ao23 y215.length co23, .func (.func f1) #[] b1] rfl (by (try simp only [List.map_toArray, List.map_cons, List.map_nil]); first | done | rfl | (simp only [List.length_drop, List.length_take]; rfl)) ?_; (with_reducible refine (ih k (by omega) (fun k_ => some k_ = (.slice Ao23 y215.length co23 : Value).ownBlock) (.slice Ao23 y215.length co23) y215 f1 b1 a1 t228 w0 _ ?side1 ?side2 ?side3 A12.out).mono ?_); (case side1 => repeat (first | (with_reducible first | exact HB.out | apply qc0 | apply qa0 | apply qb0) | exact HB.out)); (case side2 => exact Kd.R_tight rfl HO217.out); (case side3 => exact FnOk.kept HQ1.out (by repeat (first | (with_reducible first | exact HK.out | apply Kept.alloc | apply Kept.drewN | apply Kept.drew) | exact HK.out)) (fun k_ hs_ => (fun e_ => (HO217.out.1 k_ e_.symm).1.1) hs_)); rintro e w24 ⟨rfl, hy0, hb, hkp⟩; refine ⟨_, rfl, ?_⟩; have n0_ := Aside0.mk (Kd.qq0 (ok' := fun k_ => (P0_ k_ ∨ w.heap.size ≤ k_) ∧ some k_ ≠ (.slice Ao23 y215.length co23 : Value).ownBlock ∧ some k_ ≠ (v226 : Value).ownBlock) (Kd.R_keptB (HO0.out) hkp (fun k_ hk_ hs_ => (hk_.1.2) hs_)) (fun k_ hk_ => ⟨hk_.1.1.1, hk_.1.1.2, hk_.1.2⟩)); have n1_ := Aside0.mk (Kd.R_reok rfl hy0 (fun k_ e_ => HO217.out.1 k_ e_)); have n2_ := Aside0.mk (Kd.qq0 (ok' := fun k_ => (P0_ k_ ∨ w.heap.size ≤ k_) ∧ some k_ ≠ (.slice Ao14 l0.length co14 : Value).ownBlock ∧ some k_ ≠ (.slice Ao23 y215.length co23 : Value).ownBlock) (Kd.R_keptB (HO227.out) hkp (fun k_ hk_ hs_ => (hk_.2.2) hs_)) (fun k_ hk_ => ⟨hk_.1.1, hk_.1.2.1, hk_.1.2.2⟩)); have n3_ := Aside0.mk (Kept.then_ (S := (fun k_ => P0_ k_)) (by repeat (first | (with_reducible first | exact HK.out | apply Kept.alloc | apply Kept.drewN | apply Kept.drew) | exact HK.out)) hkp (fun k_ hs_ => (fun e_ => (HO217.out.1 k_ e_.symm).1.1) hs_)); have n4_ := Aside0.mk (hb); clear HO0; clear HO217; clear HO227; clear HK; clear HB; have HO0 := n0_; have HO217 := n1_; have HO227 := n2_; have HK := n3_; have HB := n4_; clear n0_ n1_ n2_ n3_ n4_; (try clear hb); (try clear hkp); (try clear hy0); obtain ⟨Ao25, co25, eo25⟩ := Kd.qy0 HO227.out; subst eo25) | ((with_reducible refine ql0 (f := 167) rfl ?_); refine qx0 (some 31) rfl rfl Try.func167 (by kernel_rfl) rfl #[.slice Ao25 y225.length co25, .func (.func f1) #[] b1] rfl (by (try simp only [List.map_toArray, List.map_cons, List.map_nil]); first | done | rfl | (simp only [List.length_drop, List.length_take]; rfl)) ?_; (with_reducible refine (ih k (by omega) (fun k_ => some k_ = (.slice Ao25 y225.length co25 : Value).ownBlock) (.slice Ao25 y225.length co25) y225 f1 b1 a1 t229 w0 _ ?side1 ?side2 ?side3 A13.out).mono ?_); (case side1 => repeat (first | (with_reducible first | exact HB.out | apply qc0 | apply qa0 | apply qb0) | exact HB.out)); (case side2 => exact Kd.R_tight rfl HO227.out); (case side3 => exact FnOk.kept HQ1.out (by repeat (first | (with_reducible first | exact HK.out | apply Kept.alloc | apply Kept.drewN | apply Kept.drew) | exact HK.out)) (fun k_ hs_ => (fun e_ => (HO227.out.1 k_ e_.symm).1) hs_)); rintro e w26 ⟨rfl, hy0, hb, hkp⟩; refine ⟨_, rfl, ?_⟩; have n0_ := Aside0.mk (Kd.qq0 (ok' := fun k_ => (P0_ k_ ∨ w.heap.size ≤ k_) ∧ some k_ ≠ (.slice Ao23 y215.length co23 : Value).ownBlock ∧ some k_ ≠ (.slice Ao25 y225.length co25 : Value).ownBlock) (Kd.R_keptB (HO0.out) hkp (fun k_ hk_ hs_ => (hk_.2.2) hs_)) (fun k_ hk_ => ⟨hk_.1.1, hk_.1.2.1, hk_.1.2.2⟩)); have n1_ := Aside0.mk (Kd.qq0 (ok' := fun k_ => (P0_ k_ ∨ w.heap.size ≤ k_) ∧ some k_ ≠ (.slice Ao14 l0.length co14 : Value).ownBlock ∧ some k_ ≠ (.slice Ao25 y225.length co25 : Value).ownBlock) (Kd.R_keptB (HO217.out) hkp (fun k_ hk_ hs_ => (hk_.2) hs_)) (fun k_ hk_ => ⟨hk_.1.1.1, hk_.1.1.2, hk_.1.2⟩)); have n2_ := Aside0.mk (Kd.R_reok rfl hy0 (fun k_ e_ => HO227.out.1 k_ e_)); have n3_ := Aside0.mk (Kept.then_ (S := (fun k_ => P0_ k_)) (by repeat (first | (with_reducible first | exact HK.out | apply Kept.alloc | apply Kept.drewN | apply Kept.drew) | exact HK.out)) hkp (fun k_ hs_ => (fun e_ => (HO227.out.1 k_ e_.symm).1) hs_)); have n4_ := Aside0.mk (hb); clear HO0; clear HO217; clear HO227; clear HK; clear HB; have HO0 := n0_; have HO217 := n1_; have HO227 := n2_; have HK := n3_; have HB := n4_; clear n0_ n1_ n2_ n3_ n4_; (try clear hb); (try clear hkp); (try clear hy0)))
 go_loopg [7, 8, 34] k (fun kq v7 v8 v34 w' => ∃ (x0_1 : List (S223)) (x7_1 : Int) (x8_1 : Int) (x34_1 : Int), v7 = .int .i64 x7_1 ∧ v8 = .int .i64 x8_1 ∧ v34 = .int .i64 x34_1 ∧ Aside0 (impl_cutOff.l0 kq x0_1 a1 t228 t229 x7_1 x8_1 (l0.length : Int) x34_1 = some r) ∧ Aside0 (kq ≤ k) ∧ Aside0 (Kd.R k223 223 w' w0.heap.size (fun k_ => (P0_ k_ ∨ w.heap.size ≤ k_) ∧ some k_ ≠ ((.slice Ao23 y215.length co23) : Value).ownBlock ∧ some k_ ≠ ((.slice Ao25 y225.length co25) : Value).ownBlock) (.slice Ao14 l0.length co14) x0_1) ∧ Aside0 (Kd.R k223 223 w' w0.heap.size (fun k_ => (P0_ k_ ∨ w.heap.size ≤ k_) ∧ some k_ ≠ ((.slice Ao14 l0.length co14) : Value).ownBlock ∧ some k_ ≠ ((.slice Ao25 y225.length co25) : Value).ownBlock) (.slice Ao23 y215.length co23) t228) ∧ Aside0 (Kd.R k223 223 w' w0.heap.size (fun k_ => (P0_ k_ ∨ w.heap.size ≤ k_) ∧ some k_ ≠ ((.slice Ao14 l0.length co14) : Value).ownBlock ∧ some k_ ≠ ((.slice Ao23 y215.length co23) : Value).ownBlock) (.slice Ao25 y225.length co25) t229) ∧ Aside0 (Kept w w' (fun k_ => P0_ k_)) ∧ Aside0 (Below w0.heap.size w0 w'))
 case atStart => exact ⟨(l0), (0), (0), (0), (by first | rfl | (simp; done) | (simp [*]; done)), (by first | rfl | (simp; done) | (simp [*]; done)), (by first | rfl | (simp; done) | (simp [*]; done)), H', ⟨Nat.le_refl _⟩, ⟨by (with_reducible repeat (first | apply Kd.qe0 | apply Kd.qd0 | apply Kd.qf0)); exact HO0.out⟩, ⟨by (with_reducible repeat (first | apply Kd.qe0 | apply Kd.qd0 | apply Kd.qf0)); exact HO217.out⟩, ⟨by (with_reducible repeat (first | apply Kd.qe0 | apply Kd.qd0 | apply Kd.qf0)); exact HO227.out⟩, ⟨by repeat (first | (with_reducible first | exact HK.out | apply Kept.alloc | apply Kept.drewN | apply Kept.drew) | exact HK.out)⟩, ⟨by repeat (first | (with_reducible first | exact HB.out | apply qc0 | apply qa0 | apply qb0) | exact HB.out)⟩⟩
 case round =>
  clear H'
  try clear c1
  try clear q1
  try clear c2
  try clear p2
  try clear q2
  try clear c3
  try clear c3b0
  try clear c3b1
  try clear c6
  try clear c6b0
  try clear c6b1
  try clear p6
  try clear c7
  try clear c7b0
  try clear c7b1
  try clear c8
  try clear c9
  try clear c9b0
  try clear c10
  try clear c10b0
  try clear c11
  try clear c16
  try clear q17
  try clear c21
  try clear q21
  try clear q021
  try clear q17
  try clear q21
  obtain ⟨x0_1, x7_1, x8_1, x34_1, rfl, rfl, rfl, HA, HK1, HO_0, HO_5, HO_6, HK, HB⟩ := hrel
  have hl0_1 := (Kd.qk0 HO_0.out).1
  rw [hl0_1] at HO_0
  (try simp only [hl0_1])
  (try simp only [hl0_1] at HO_5)
  (try simp only [hl0_1] at HO_6)
  have hl5_1 := (Kd.qk0 HO_5.out).1
  rw [hl5_1] at HO_5
  (try simp only [hl5_1])
  (try simp only [hl5_1] at HO_0)
  (try simp only [hl5_1] at HO_6)
  have hl6_1 := (Kd.qk0 HO_6.out).1
  rw [hl6_1] at HO_6
  (try simp only [hl6_1])
  (try simp only [hl6_1] at HO_0)
  (try simp only [hl6_1] at HO_5)
  cases gk with
  | zero => exact absurd HA.out (by simp [impl_cutOff.l0])
  | succ k1 =>
   have H := HA.out
   clear HA
   simp only [impl_cutOff.l0] at H
   by_cases c27 : x34_1 < (l0.length : Int)
   ·rw [if_pos c27] at H
    have c27b0 : decide (x34_1 < (l0.length : Int)) = true := decide_eq_true c27
    clear c27
    by_cases c28 : x8_1 = (t229.length : Int)
    ·rw [if_pos c28] at H
     have c28b0 : (x8_1 == (t229.length : Int)) = true := beq_iff_eq.mpr c28
     have c28b1 : (x8_1 != (t229.length : Int)) = false := bne_eq_false_iff_eq.mpr c28
     clear c28
     by_cases c29 : 0 ≤ x7_1
     case neg => rw [if_neg c29] at H; exact absurd H (by simp)
     rw [if_pos c29] at H
     have c29b0 : decide (0 ≤ x7_1) = true := decide_eq_true c29
     clear c29
     by_cases c30 : x7_1 < (t228.length : Int)
     case neg => rw [if_neg c30] at H; exact absurd H (by simp)
     rw [if_pos c30] at H
     have c30b0 : decide (x7_1 < (t228.length : Int)) = true := decide_eq_true c30
     clear c30
     by_cases c31 : 0 ≤ x34_1
     case neg => rw [if_neg c31] at H; exact absurd H (by simp)
     rw [if_pos c31] at H
     have c31b0 : decide (0 ≤ x34_1) = true := decide_eq_true c31
     clear c31
     by_cases c32 : x34_1 < (x0_1.length : Int)
     case neg => rw [if_neg c32] at H; exact absurd H (by simp)
     rw [if_pos c32] at H
     have c32b0 : decide (x34_1 < (x0_1.length : Int)) = true := decide_eq_true c32
     clear c32
     obtain ⟨y231, hy231⟩ : ∃ y_ : List (S223), y_ = (x0_1.set (x34_1 : Int).toNat (⟨(rd_T223 t228 x7_1).f0, (rd_T223 t228 x7_1).f1⟩ : S223)) := ⟨_, rfl⟩
     replace H : (impl_cutOff.l0 k1 y231 a1 t228 t229 (wrap64 (x7_1 + 1)) x8_1 (l0.length : Int) (wrap64 (x34_1 + 1))) = some r := by first | (rw [hy231]; with_reducible exact H) | (have H2_ := (Option.bind_some _ _).symm.trans H; rw [hy231]; with_reducible exact H2_) | (have H2_ := (Option.bind_some _ _).symm.trans H; with_reducible exact H2_) | with_reducible exact H | (rw [hy231]; exact H) | exact H
     have Ny231 := Aside0.mk hy231
     clear hy231
     have H' := Aside0.mk H
     clear H
     try go_wp2
     have n0_ := Aside0.mk (Kd.qf0 HO_0.out)
     have n1_ := Aside0.mk (Kd.qf0 HO_5.out)
     have n2_ := Aside0.mk (Kd.qf0 HO_6.out)
     have n3_ := Aside0.mk (Kept.drew HK.out)
     have n4_ := Aside0.mk (qb0 HB.out)
     clear HO_0
     clear HO_5
     clear HO_6
     clear HK
     clear HB
     have HO_0 := n0_
     have HO_5 := n1_
     have HO_6 := n2_
     have HK := n3_
     have HB := n4_
     clear n0_ n1_ n2_ n3_ n4_
     refine start_ (n := 23) (S := fun w' => True) (ds := []) (rb6 [0, 23]) (by kernel_rfl) rfl rfl trivial (fun hHeld => ?_); refine with_tabW impl_cutOff.tab10 impl_cutOff.bits10 (fun HT_ HW_ => ?_)
     generalize wr.drew = w34 at HO_0 HO_5 HO_6 HK HB hHeld ⊢
     refine pure_ (i := 0) (N := some 37) (v := ?_) (a' := ?_) (rb6 [1, 22]) rfl rfl (qj0 HT_.out (by kernel_rfl)) (fun _ _ _ h => h) (Or.inl ⟨by rfl, ?_⟩) ?_ ?_
     rotate_left
     ·intro w'
      go_simp
      with_reducible rfl
     rotate_left
     ·simp only [Act.put, List.setIfInBounds_toArray, List.set_cons_zero, List.set_cons_succ, i64_w, i32_w]
      rfl
     refine pure_ (i := 1) (N := some 38) (v := ?_) (a' := ?_) (rb6 [2, 21]) rfl rfl (qj0 HT_.out (by kernel_rfl)) (fun _ _ _ h => h) (Or.inl ⟨by rfl, ?_⟩) ?_ ?_
     rotate_left
     ·intro w'
      go_simp
      with_reducible rfl
     rotate_left
     ·simp only [Act.put, List.setIfInBounds_toArray, List.set_cons_zero, List.set_cons_succ, i64_w, i32_w]
      rfl
     refine pure_ (i := 2) (N := some 39) (v := ?_) (a' := ?_) (rb6 [3, 20]) rfl rfl (qj0 HT_.out (by kernel_rfl)) (fun _ _ _ h => h) (Or.inl ⟨by rfl, ?_⟩) ?_ ?_
     rotate_left
     ·intro w'
      go_simp
      with_reducible rfl
     rotate_left
     ·simp only [Act.put, List.setIfInBounds_toArray, List.set_cons_zero, List.set_cons_succ, i64_w, i32_w]
      rfl
     refine pure_ (i := 3) (N := some 40) (v := ?_) (a' := ?_) (rb6 [4, 19]) rfl rfl (qj0 HT_.out (by kernel_rfl)) (fun _ _ _ h => h) (Or.inl ⟨by rfl, ?_⟩) ?_ ?_
     rotate_left
     ·intro w'
      go_simp
      with_reducible rfl
     rotate_left
     ·simp only [Act.put, List.setIfInBounds_toArray, List.set_cons_zero, List.set_cons_succ, i64_w, i32_w]
      rfl
     refine pure_ (i := 4) (N := some 41) (v := ?_) (a' := ?_) (rb6 [5, 18]) rfl rfl (qj0 HT_.out (by kernel_rfl)) (fun _ _ _ h => h) (Or.inl ⟨by rfl, ?_⟩) ?_ ?_
     rotate_left
     ·intro w'
      go_simp
      with_reducible rfl
     rotate_left
     ·simp only [Act.put, List.setIfInBounds_toArray, List.set_cons_zero, List.set_cons_succ, i64_w, i32_w]
      rfl
     refine pure_ (i := 5) (N := some 42) (v := undef) (a' := ?_) (rb6 [6, 17]) rfl rfl (qj0 HT_.out (by kernel_rfl)) (fun _ _ _ h => h) (Or.inr ⟨by rfl, rfl⟩) ?_ ?_
     rotate_left
     ·simp only [Act.put, List.setIfInBounds_toArray, List.set_cons_zero, List.set_cons_succ, i64_w, i32_w]
      rfl
     refine pure_ (i := 6) (N := some 43) (v := undef) (a' := ?_) (rb6 [7, 16]) rfl rfl (qj0 HT_.out (by kernel_rfl)) (fun _ _ _ h => h) (Or.inr ⟨by rfl, rfl⟩) ?_ ?_
     rotate_left
     ·simp only [Act.put, List.setIfInBounds_toArray, List.set_cons_zero, List.set_cons_succ, i64_w, i32_w]
      rfl
     refine pure_ (i := 7) (N := some 44) (v := undef) (a' := ?_) (rb6 [8, 15]) rfl rfl (qj0 HT_.out (by kernel_rfl)) (fun _ _ _ h => h) (Or.inr ⟨by rfl, rfl⟩) ?_ ?_
     rotate_left
     ·simp only [Act.put, List.setIfInBounds_toArray, List.set_cons_zero, List.set_cons_succ, i64_w, i32_w]
      rfl
     refine pure_ (i := 8) (N := some 45) (v := undef) (a' := ?_) (rb6 [9, 14]) rfl rfl (qj0 HT_.out (by kernel_rfl)) (fun _ _ _ h => h) (Or.inr ⟨by rfl, rfl⟩) ?_ ?_
     rotate_left
     ·simp only [Act.put, List.setIfInBounds_toArray, List.set_cons_zero, List.set_cons_succ, i64_w, i32_w]
      rfl
     refine pure_ (i := 9) (N := some 46) (v := undef) (a' := ?_) (rb6 [10, 13]) rfl rfl (qj0 HT_.out (by kernel_rfl)) (fun _ _ _ h => h) (Or.inr ⟨by rfl, rfl⟩) ?_ ?_
     rotate_left
     ·simp only [Act.put, List.setIfInBounds_toArray, List.set_cons_zero, List.set_cons_succ, i64_w, i32_w]
      rfl
     refine pure_ (i := 10) (N := some 47) (v := undef) (a' := ?_) (rb6 [11, 12]) rfl rfl (qj0 HT_.out (by kernel_rfl)) (fun _ _ _ h => h) (Or.inr ⟨by rfl, rfl⟩) ?_ ?_
     rotate_left
     ·simp only [Act.put, List.setIfInBounds_toArray, List.set_cons_zero, List.set_cons_succ, i64_w, i32_w]
      rfl
     refine pure_ (i := 11) (N := some 48) (v := undef) (a' := ?_) (rb6 [12, 11]) rfl rfl (qj0 HT_.out (by kernel_rfl)) (fun _ _ _ h => h) (Or.inr ⟨by rfl, rfl⟩) ?_ ?_
     rotate_left
     ·simp only [Act.put, List.setIfInBounds_toArray, List.set_cons_zero, List.set_cons_succ, i64_w, i32_w]
      rfl
     refine pure_ (i := 12) (N := some 49) (v := undef) (a' := ?_) (rb6 [13, 10]) rfl rfl (qj0 HT_.out (by kernel_rfl)) (fun _ _ _ h => h) (Or.inr ⟨by rfl, rfl⟩) ?_ ?_
     rotate_left
     ·simp only [Act.put, List.setIfInBounds_toArray, List.set_cons_zero, List.set_cons_succ, i64_w, i32_w]
      rfl
     refine pure_ (i := 13) (N := some 50) (v := undef) (a' := ?_) (rb6 [14, 9]) rfl rfl (qj0 HT_.out (by kernel_rfl)) (fun _ _ _ h => h) (Or.inr ⟨by rfl, rfl⟩) ?_ ?_
     rotate_left
     ·simp only [Act.put, List.setIfInBounds_toArray, List.set_cons_zero, List.set_cons_succ, i64_w, i32_w]
      rfl
     refine pure_ (i := 14) (N := some 51) (v := undef) (a' := ?_) (rb6 [15, 8]) rfl rfl (qj0 HT_.out (by kernel_rfl)) (fun _ _ _ h => h) (Or.inr ⟨by rfl, rfl⟩) ?_ ?_
     rotate_left
     ·simp only [Act.put, List.setIfInBounds_toArray, List.set_cons_zero, List.set_cons_succ, i64_w, i32_w]
      rfl
     refine pure_ (i := 15) (N := some 52) (v := undef) (a' := ?_) (rb6 [16, 7]) rfl rfl (qj0 HT_.out (by kernel_rfl)) (fun _ _ _ h => h) (Or.inr ⟨by rfl, rfl⟩) ?_ ?_
     rotate_left
     ·simp only [Act.put, List.setIfInBounds_toArray, List.set_cons_zero, List.set_cons_succ, i64_w, i32_w]
      rfl
     refine pure_ (i := 16) (N := some 53) (v := undef) (a' := ?_) (rb6 [17, 6]) rfl rfl (qj0 HT_.out (by kernel_rfl)) (fun _ _ _ h => h) (Or.inr ⟨by rfl, rfl⟩) ?_ ?_
     rotate_left
     ·simp only [Act.put, List.setIfInBounds_toArray, List.set_cons_zero, List.set_cons_succ, i64_w, i32_w]
      rfl
     refine pure_ (i := 17) (N := some 54) (v := undef) (a' := ?_) (rb6 [18, 5]) rfl rfl (qj0 HT_.out (by kernel_rfl)) (fun _ _ _ h => h) (Or.inr ⟨by rfl, rfl⟩) ?_ ?_
     rotate_left
     ·simp only [Act.put, List.setIfInBounds_toArray, List.set_cons_zero, List.set_cons_succ, i64_w, i32_w]
      rfl
     refine pure_ (i := 18) (N := some 55) (v := undef) (a' := ?_) (rb6 [19, 4]) rfl rfl (qj0 HT_.out (by kernel_rfl)) (fun _ _ _ h => h) (Or.inr ⟨by rfl, rfl⟩) ?_ ?_
     rotate_left
     ·simp only [Act.put, List.setIfInBounds_toArray, List.set_cons_zero, List.set_cons_succ, i64_w, i32_w]
      rfl
     refine pure_ (i := 19) (N := some 56) (v := undef) (a' := ?_) (rb6 [20, 3]) rfl rfl (qj0 HT_.out (by kernel_rfl)) (fun _ _ _ h => h) (Or.inr ⟨by rfl, rfl⟩) ?_ ?_
     rotate_left
     ·simp only [Act.put, List.setIfInBounds_toArray, List.set_cons_zero, List.set_cons_succ, i64_w, i32_w]
      rfl
     refine pure_ (i := 20) (N := some 57) (v := undef) (a' := ?_) (rb6 [21, 2]) rfl rfl (qj0 HT_.out (by kernel_rfl)) (fun _ _ _ h => h) (Or.inr ⟨by rfl, rfl⟩) ?_ ?_
     rotate_left
     ·simp only [Act.put, List.setIfInBounds_toArray, List.set_cons_zero, List.set_cons_succ, i64_w, i32_w]
      rfl
     refine pure_ (i := 21) (N := some 58) (v := undef) (a' := ?_) (rb6 [22, 1]) rfl rfl (qj0 HT_.out (by kernel_rfl)) (fun _ _ _ h => h) (Or.inr ⟨by rfl, rfl⟩) ?_ ?_
     rotate_left
     ·simp only [Act.put, List.setIfInBounds_toArray, List.set_cons_zero, List.set_cons_succ, i64_w, i32_w]
      rfl
     refine pure_ (i := 22) (N := some 59) (v := ?_) (a' := ?_) (rb6 [23]) rfl rfl (qj0 HT_.out (by kernel_rfl)) (fun _ _ _ h => h) (Or.inl ⟨by rfl, ?_⟩) ?_ ?_
     rotate_left
     ·intro w'
      go_simp
      with_reducible rfl
     rotate_left
     ·simp only [Act.put, List.setIfInBounds_toArray, List.set_cons_zero, List.set_cons_succ, i64_w, i32_w]
      rfl
     refine done_ (done_of HT_.out (by kernel_rfl)) ?_
     have p230 : 0 ≤ (x7_1 : Int) := of_decide_eq_true (by first | (with_reducible assumption) | assumption)
     have q230 : x7_1 < (t228.length : Int) := of_decide_eq_true (by first | (with_reducible assumption) | assumption)
     obtain ⟨ad230, e230, hx230_0, hx230_1⟩ := at_T223 (Kd.qk0 HO_5.out).2.2 x7_1 p230 q230
     cases e230
     replace p230 := eq_true p230
     replace q230 := eq_true q230
     have p33 : 0 ≤ (x34_1 : Int) := of_decide_eq_true (by first | (with_reducible assumption) | assumption)
     have q33 : (x34_1 : Int) < ((x0_1.length : Int) : Int) := of_decide_eq_true (by first | (with_reducible assumption) | assumption)
     obtain ⟨go33, co33, eo33, gb33, gl33, cl33, HG33⟩ := Kd.R_form HO_0.out (by omega)
     (first | cases eo33 | (injection eo33 with ea_ en_ ec_; (first | subst ea_ | (injection ea_ with ea_; subst ea_)); subst ec_; clear en_))
     have GB33 := Aside0.mk gb33
     have GG33 := Aside0.mk HG33
     clear gb33 gl33 HG33
     have HMgo33 := Aside0.mk (show (P0_ go33 ∨ w.heap.size ≤ go33) from (HO_0.out.1 _ rfl).1)
     obtain ⟨ce33, hcl33, hM33, hcc33, hfr33⟩ := Kd.R_elem HO_0.out z223 (x34_1 : Int) p33 q33
     obtain rfl := k223_openM hM33
     have hx33_0 : w34.cell? ⟨go33, (x34_1 : Int).toNat * 2, none⟩ = some (.int .i64 ((rd_T223 x0_1 x34_1).f0)) := hcc33 0 _ rfl
     have hx33_1 : w34.cell? ⟨go33, (x34_1 : Int).toNat * 2 + 1, none⟩ = some (.int .i64 ((rd_T223 x0_1 x34_1).f1)) := hcc33 1 _ rfl
     have hf33_0 : w34.frozen? ⟨go33, (x34_1 : Int).toNat * 2, none⟩ = false := hfr33 0
     have hf33_1 : w34.frozen? ⟨go33, (x34_1 : Int).toNat * 2 + 1, none⟩ = false := hfr33 1
     clear hcl33 hcc33 hfr33 hM33
     replace p33 := eq_true p33
     replace q33 := eq_true q33
     have HX35 := Aside0.mk (show Kd.R k223 223 w34 w0.heap.size (fun k_ => (P0_ k_ ∨ w.heap.size ≤ k_) ∧ some k_ ≠ (.slice (some ad230) t228.length co23 : Value).ownBlock ∧ some k_ ≠ (.slice Ao25 t229.length co25 : Value).ownBlock) (.slice (some ⟨go33, 0, none⟩) x0_1.length co14) x0_1 from (by (with_reducible repeat (first | apply Kd.qe0 | apply Kd.qd0 | apply Kd.qf0)); exact HO_0.out))
     obtain ⟨ce35, hcl35, hM35, hcc35, hfr35⟩ := Kd.R_elem HX35.out z223 (x34_1 : Int) (of_decide_eq_true (by first | (with_reducible assumption) | assumption)) (by have h_ : (x34_1 : Int) < ((x0_1.length : Int) : Int) := of_decide_eq_true (by first | (with_reducible assumption) | assumption); first | exact h_ | (have e_ := (Kd.qk0 HO_0.out).1; omega) | simpa using h_)
     obtain rfl := k223_openM hM35
     have HP35 := Kd.R_seg HX35.out (x34_1 : Int) (of_decide_eq_true (by first | (with_reducible assumption) | assumption)) (by have h_ : (x34_1 : Int) < ((x0_1.length : Int) : Int) := of_decide_eq_true (by first | (with_reducible assumption) | assumption); first | exact h_ | (have e_ := (Kd.qk0 HO_0.out).1; omega) | simpa using h_) (seg := [.int .i64 ((rd_T223 t228 x7_1).f0), .int .i64 ((rd_T223 t228 x7_1).f1)]) (j := 0) hcl35 hcc35 (show 2 ≤ 2 from by decide) (x' := (⟨(rd_T223 t228 x7_1).f0, (rd_T223 t228 x7_1).f1⟩ : S223)) (k223_mkM _ _ _ (⟨(rd_T223 t228 x7_1).f0, (rd_T223 t228 x7_1).f1⟩ : S223) ) (fun _ hk => hk)
     have hx35_0 := hcc35 0 _ rfl
     (try simp only [show (k223).sz = 2 from rfl, Nat.mul_one, Nat.add_zero] at hx35_0)
     have hf35_0 := hfr35 0
     (try simp only [show (k223).sz = 2 from rfl, Nat.mul_one, Nat.add_zero] at hf35_0)
     have hx35_1 := hcc35 1 _ rfl
     (try simp only [show (k223).sz = 2 from rfl, Nat.mul_one, Nat.add_zero] at hx35_1)
     have hf35_1 := hfr35 1
     (try simp only [show (k223).sz = 2 from rfl, Nat.mul_one, Nat.add_zero] at hf35_1)
     clear hcl35 hcc35 hfr35 hM35
     try go_wp2_with (first | ((with_reducible refine qh1 (t := 223) (p := 66) rfl ?_); refine qe1 (t := 223) (p := 66) (v := ?vo_w36) (w1 := ((w34.setCell ⟨go33, (x34_1 : Int).toNat * 2, none⟩ (.int .i64 ((rd_T223 t228 x7_1).f0))).setCell ⟨go33, (x34_1 : Int).toNat * 2 + 1, none⟩ (.int .i64 ((rd_T223 t228 x7_1).f1)))) ?hg ?ho ?hn ?hr ?_; (case ho => rfl); (case hg => rfl); (case hn => rfl); (case hr => first | (go_simp; done) | (go_simp; rfl)); intro w36 hw; have hg : w34.grownBy w36 (some go33) := (by rw [hw]; exact HP35.2); have hp_ : Kd.R k223 223 w36 w0.heap.size (fun k_ => (P0_ k_ ∨ w.heap.size ≤ k_) ∧ some k_ ≠ (.slice (some ad230) t228.length co23 : Value).ownBlock ∧ some k_ ≠ (.slice Ao25 t229.length co25 : Value).ownBlock) (.slice (some ⟨go33, 0, none⟩) x0_1.length co14) y231 := (by rw [hw, Ny231.out]; exact HP35.1); clear HP35; have n0_ := Aside0.mk (hp_); have n1_ := Aside0.mk (Kd.qk1 (v := (.slice (some ⟨go33, 0, none⟩) x0_1.length co14)) (v1 := (.slice (some ⟨go33, 0, none⟩) x0_1.length co14)) (ok := (fun k_ => (P0_ k_ ∨ w.heap.size ≤ k_) ∧ some k_ ≠ (.slice Ao25 t229.length co25 : Value).ownBlock)) (by (with_reducible repeat (first | apply Kd.qe0 | apply Kd.qd0 | apply Kd.qf0)); exact Kd.qq0 HO_5.out (fun _ hk => ⟨⟨hk.1, hk.2.2⟩, hk.2.1⟩)) hg (.inl rfl)); have n2_ := Aside0.mk (Kd.qk1 (v := (.slice (some ⟨go33, 0, none⟩) x0_1.length co14)) (v1 := (.slice (some ⟨go33, 0, none⟩) x0_1.length co14)) (ok := (fun k_ => (P0_ k_ ∨ w.heap.size ≤ k_) ∧ some k_ ≠ (.slice (some ad230) t228.length co23 : Value).ownBlock)) (by (with_reducible repeat (first | apply Kd.qe0 | apply Kd.qd0 | apply Kd.qf0)); exact Kd.qq0 HO_6.out (fun _ hk => ⟨⟨hk.1, hk.2.2⟩, hk.2.1⟩)) hg (.inl rfl)); have n3_ := Aside0.mk ((by rw [hw]; exact qi0 (qi0 (HB.out) GB33.out) GB33.out : Below w0.heap.size w0 w36)); have n4_ := Aside0.mk (Kept.of_grown (S := (fun k_ => P0_ k_)) hg (by repeat (first | (with_reducible first | exact HK.out | apply Kept.alloc | apply Kept.drewN | apply Kept.drew) | exact HK.out)) (fun k_ e_ => (HO_0.out.1 k_ e_).1)); clear HO_0; clear HO_5; clear HO_6; clear HB; clear HK; have HO_0 := n0_; have HO_5 := n1_; have HO_6 := n2_; have HB := n3_; have HK := n4_; clear n0_ n1_ n2_ n3_ n4_; clear hg hw hp_))
     (try simp only [← hl0_1, ← hl5_1, ← hl6_1])
     go_roundg k1
     case measure => have := HK1.out; omega
     case rel => exact ⟨(y231), (wrap64 (x7_1 + 1)), (x8_1), (wrap64 (x34_1 + 1)), (by first | rfl | (simp; done) | (simp [*]; done)), (by first | rfl | (simp; done) | (simp [*]; done)), (by first | rfl | (simp; done) | (simp [*]; done)), H', ⟨by have := HK1.out; omega⟩, ⟨by (try simp only [hl0_1]); (try simp only [hl5_1]); (try simp only [hl6_1]); (with_reducible repeat (first | apply Kd.qe0 | apply Kd.qd0 | apply Kd.qf0)); exact HO_0.out⟩, ⟨by (try simp only [hl0_1]); (try simp only [hl5_1]); (try simp only [hl6_1]); (with_reducible repeat (first | apply Kd.qe0 | apply Kd.qd0 | apply Kd.qf0)); exact Kd.qq0 HO_5.out (fun _ hk => ⟨hk.1.1, ⟨hk.2, hk.1.2⟩⟩)⟩, ⟨by (try simp only [hl0_1]); (try simp only [hl5_1]); (try simp only [hl6_1]); (with_reducible repeat (first | apply Kd.qe0 | apply Kd.qd0 | apply Kd.qf0)); exact Kd.qq0 HO_6.out (fun _ hk => ⟨hk.1.1, ⟨hk.2, hk.1.2⟩⟩)⟩, ⟨by repeat (first | (with_reducible first | exact HK.out | apply Kept.alloc | apply Kept.drewN | apply Kept.drew) | exact HK.out)⟩, ⟨by repeat (first | (with_reducible first | exact HB.out | apply qc0 | apply qa0 | apply qb0) | exact HB.out)⟩⟩
    rw [if_neg c28] at H
    have c28b0 : (x8_1 == (t229.length : Int)) = false := beq_eq_false_iff_ne.mpr c28
    have c28b1 : (x8_1 != (t229.length : Int)) = true := bne_iff_ne.mpr c28
    by_cases c37 : x7_1 < (t228.length : Int)
    ·rw [if_pos c37] at H
     have c37b0 : decide (x7_1 < (t228.length : Int)) = true := decide_eq_true c37
     clear c37
     by_cases c38 : 0 ≤ x8_1
     case neg => rw [if_neg c38] at H; exact absurd H (by simp)
     rw [if_pos c38] at H
     have c38b0 : decide (0 ≤ x8_1) = true := decide_eq_true c38
     clear c38
     by_cases c39 : x8_1 < (t229.length : Int)
     case neg => rw [if_neg c39] at H; exact absurd H (by simp)
     rw [if_pos c39] at H
     have c39b0 : decide (x8_1 < (t229.length : Int)) = true := decide_eq_true c39
     clear c39
     by_cases c40 : 0 ≤ x7_1
     case neg => rw [if_neg c40] at H; exact absurd H (by simp)
     rw [if_pos c40] at H
     have c40b0 : decide (0 ≤ x7_1) = true := decide_eq_true c40
     clear c40
     replace H := Option.bind_eq_some_iff.mp H
     obtain ⟨t234, A410, H⟩ := H
     replace H : (if t234 = true then (if 0 ≤ x34_1 then (if x34_1 < (x0_1.length : Int) then (impl_cutOff.l0 k1 (x0_1.set (x34_1 : Int).toNat (⟨(rd_T223 t229 x8_1).f0, (rd_T223 t229 x8_1).f1⟩ : S223)) a1 t228 t229 x7_1 (wrap64 (x8_1 + 1)) (l0.length : Int) (wrap64 (x34_1 + 1))) else (none)) else (none)) else (if 0 ≤ x34_1 then (if x34_1 < (x0_1.length : Int) then (impl_cutOff.l0 k1 (x0_1.set (x34_1 : Int).toNat (⟨(rd_T223 t228 x7_1).f0, (rd_T223 t228 x7_1).f1⟩ : S223)) a1 t228 t229 (wrap64 (x7_1 + 1)) x8_1 (l0.length : Int) (wrap64 (x34_1 + 1))) else (none)) else (none))) = some r := H
     have A41 := Aside0.mk A410
     clear A410
     by_cases c42 : t234 = true
     ·subst c42
      have H1 : (if 0 ≤ x34_1 then (if x34_1 < (x0_1.length : Int) then (impl_cutOff.l0 k1 (x0_1.set (x34_1 : Int).toNat (⟨(rd_T223 t229 x8_1).f0, (rd_T223 t229 x8_1).f1⟩ : S223)) a1 t228 t229 x7_1 (wrap64 (x8_1 + 1)) (l0.length : Int) (wrap64 (x34_1 + 1))) else (none)) else (none)) = some r := by rw [if_pos rfl] at H; exact H
      clear H
      have H := H1
      clear H1
      by_cases c43 : 0 ≤ x34_1
      case neg => rw [if_neg c43] at H; exact absurd H (by simp)
      rw [if_pos c43] at H
      have c43b0 : decide (0 ≤ x34_1) = true := decide_eq_true c43
      clear c43
      by_cases c44 : x34_1 < (x0_1.length : Int)
      case neg => rw [if_neg c44] at H; exact absurd H (by simp)
      rw [if_pos c44] at H
      have c44b0 : decide (x34_1 < (x0_1.length : Int)) = true := decide_eq_true c44
      clear c44
      obtain ⟨y236, hy236⟩ : ∃ y_ : List (S223), y_ = (x0_1.set (x34_1 : Int).toNat (⟨(rd_T223 t229 x8_1).f0, (rd_T223 t229 x8_1).f1⟩ : S223)) := ⟨_, rfl⟩
      replace H : (impl_cutOff.l0 k1 y236 a1 t228 t229 x7_1 (wrap64 (x8_1 + 1)) (l0.length : Int) (wrap64 (x34_1 + 1))) = some r := by first | (rw [hy236]; with_reducible exact H) | (have H2_ := (Option.bind_some _ _).symm.trans H; rw [hy236]; with_reducible exact H2_) | (have H2_ := (Option.bind_some _ _).symm.trans H; with_reducible exact H2_) | with_reducible exact H | (rw [hy236]; exact H) | exact H
      have Ny236 := Aside0.mk hy236
      clear hy236
      have H' := Aside0.mk H
      clear H
      try go_wp2
      have n0_ := Aside0.mk (Kd.qf0 HO_0.out)
      have n1_ := Aside0.mk (Kd.qf0 HO_5.out)
      have n2_ := Aside0.mk (Kd.qf0 HO_6.out)
      have n3_ := Aside0.mk (Kept.drew HK.out)
      have n4_ := Aside0.mk (qb0 HB.out)
      clear HO_0
      clear HO_5
      clear HO_6
      clear HK
      clear HB
      have HO_0 := n0_
      have HO_5 := n1_
      have HO_6 := n2_
      have HK := n3_
      have HB := n4_
      clear n0_ n1_ n2_ n3_ n4_
      have p232 : 0 ≤ (x8_1 : Int) := of_decide_eq_true (by first | (with_reducible assumption) | assumption)
      have q232 : x8_1 < (t229.length : Int) := of_decide_eq_true (by first | (with_reducible assumption) | assumption)
      obtain ⟨ad232, e232, hx232_0, hx232_1⟩ := at_T223 (Kd.qk0 HO_6.out).2.2 x8_1 p232 q232
      cases e232
      replace p232 := eq_true p232
      replace q232 := eq_true q232
      have p233 : 0 ≤ (x7_1 : Int) := of_decide_eq_true (by first | (with_reducible assumption) | assumption)
      have q233 : x7_1 < (t228.length : Int) := of_decide_eq_true (by first | (with_reducible assumption) | assumption)
      obtain ⟨ad233, e233, hx233_0, hx233_1⟩ := at_T223 (Kd.qk0 HO_5.out).2.2 x7_1 p233 q233
      cases e233
      replace p233 := eq_true p233
      replace q233 := eq_true q233
      refine start_ (n := 23) (S := fun w' => w'.cell? (ad232.add ((x8_1).toNat * 2)) = some (.int .i64 ((rd_T223 t229 x8_1).f0)) ∧ w'.cell? ⟨(ad232.add ((x8_1).toNat * 2)).block, (ad232.add ((x8_1).toNat * 2)).off + 1, none⟩ = some (.int .i64 ((rd_T223 t229 x8_1).f1)) ∧ w'.cell? (ad233.add ((x7_1).toNat * 2)) = some (.int .i64 ((rd_T223 t228 x7_1).f0)) ∧ w'.cell? ⟨(ad233.add ((x7_1).toNat * 2)).block, (ad233.add ((x7_1).toNat * 2)).off + 1, none⟩ = some (.int .i64 ((rd_T223 t228 x7_1).f1))) (ds := []) (rb6 [0, 23]) (by kernel_rfl) rfl rfl ⟨hx232_0, hx232_1, hx233_0, hx233_1⟩ (fun hHeld => ?_); refine with_tabW impl_cutOff.tab10 impl_cutOff.bits10 (fun HT_ HW_ => ?_)
      generalize wr.drew = w46 at HO_0 HO_5 HO_6 HK HB hx232_0 hx232_1 hx233_0 hx233_1 hHeld ⊢
      refine pure_ (i := 0) (N := some 37) (v := ?_) (a' := ?_) (rb6 [1, 22]) rfl rfl (qj0 HT_.out (by kernel_rfl)) (fun _ _ _ h => h) (Or.inl ⟨by rfl, ?_⟩) ?_ ?_
      rotate_left
      ·intro w'
       go_simp
       with_reducible rfl
      rotate_left
      ·simp only [Act.put, List.setIfInBounds_toArray, List.set_cons_zero, List.set_cons_succ, i64_w, i32_w]
       rfl
      refine pure_ (i := 1) (N := some 38) (v := ?_) (a' := ?_) (rb6 [2, 21]) rfl rfl (qj0 HT_.out (by kernel_rfl)) (fun _ _ _ h => h) (Or.inl ⟨by rfl, ?_⟩) ?_ ?_
      rotate_left
      ·intro w'
       go_simp
       with_reducible rfl
      rotate_left
      ·simp only [Act.put, List.setIfInBounds_toArray, List.set_cons_zero, List.set_cons_succ, i64_w, i32_w]
       rfl
      refine pure_ (i := 2) (N := some 39) (v := ?_) (a' := ?_) (rb6 [3, 20]) rfl rfl (qj0 HT_.out (by kernel_rfl)) (fun _ _ _ h => h) (Or.inl ⟨by rfl, ?_⟩) ?_ ?_
      rotate_left
      ·intro w'
       go_simp
       with_reducible rfl
      rotate_left
      ·simp only [Act.put, List.setIfInBounds_toArray, List.set_cons_zero, List.set_cons_succ, i64_w, i32_w]
       rfl
      refine pure_ (i := 3) (N := some 40) (v := ?_) (a' := ?_) (rb6 [4, 19]) rfl rfl (qj0 HT_.out (by kernel_rfl)) (fun _ _ _ h => h) (Or.inl ⟨by rfl, ?_⟩) ?_ ?_
      rotate_left
      ·intro w'
       go_simp
       with_reducible rfl
      rotate_left
      ·simp only [Act.put, List.setIfInBounds_toArray, List.set_cons_zero, List.set_cons_succ, i64_w, i32_w]
       rfl
      refine pure_ (i := 4) (N := some 41) (v := ?_) (a' := ?_) (rb6 [5, 18]) rfl rfl (qj0 HT_.out (by kernel_rfl)) (fun _ _ _ h => h) (Or.inl ⟨by rfl, ?_⟩) ?_ ?_
      rotate_left
      ·intro w'
       go_simp
       with_reducible rfl
      rotate_left
      ·simp only [Act.put, List.setIfInBounds_toArray, List.set_cons_zero, List.set_cons_succ, i64_w, i32_w]
       rfl
      refine pure_ (i := 5) (N := some 42) (v := ?_) (a' := ?_) (rb6 [6, 17]) rfl rfl (qj0 HT_.out (by kernel_rfl)) (fun _ _ _ h => h) (Or.inl ⟨by rfl, ?_⟩) ?_ ?_
      rotate_left
      ·intro w'
       go_simp
       with_reducible rfl
      rotate_left
      ·simp only [Act.put, List.setIfInBounds_toArray, List.set_cons_zero, List.set_cons_succ, i64_w, i32_w]
       rfl
      refine pure_ (i := 6) (N := some 43) (v := ?_) (a' := ?_) (rb6 [7, 16]) rfl rfl (qj0 HT_.out (by kernel_rfl)) (fun _ _ _ h => h) (Or.inl ⟨by rfl, ?_⟩) ?_ ?_
      rotate_left
      ·intro w'
       go_simp
       with_reducible rfl
      rotate_left
      ·simp only [Act.put, List.setIfInBounds_toArray, List.set_cons_zero, List.set_cons_succ, i64_w, i32_w]
       rfl
      refine pure_ (i := 7) (N := some 44) (v := ?_) (a' := ?_) (rb6 [8, 15]) rfl rfl (qj0 HT_.out (by kernel_rfl)) (fun _ _ _ h => h) (Or.inl ⟨by rfl, ?_⟩) ?_ ?_
      rotate_left
      ·intro w'
       go_simp
       with_reducible rfl
      rotate_left
      ·simp only [Act.put, List.setIfInBounds_toArray, List.set_cons_zero, List.set_cons_succ, i64_w, i32_w]
       rfl
      refine pure_ (i := 8) (N := some 45) (v := ?_) (a' := ?_) (rb6 [9, 14]) rfl rfl (qj0 HT_.out (by kernel_rfl)) (fun _ _ _ h => h) (Or.inl ⟨by rfl, ?_⟩) ?_ ?_
      rotate_left
      ·intro w'
       go_simp
       with_reducible rfl
      rotate_left
      ·simp only [Act.put, List.setIfInBounds_toArray, List.set_cons_zero, List.set_cons_succ, i64_w, i32_w]
       rfl
      refine pure_ (i := 9) (N := some 46) (v := ?_) (a' := ?_) (rb6 [10, 13]) rfl rfl (qj0 HT_.out (by kernel_rfl)) (fun _ _ _ h => h) (Or.inl ⟨by rfl, ?_⟩) ?_ ?_
      rotate_left
      ·intro w'
       go_simp
       with_reducible rfl
      rotate_left
      ·simp only [Act.put, List.setIfInBounds_toArray, List.set_cons_zero, List.set_cons_succ, i64_w, i32_w]
       rfl
      refine pure_ (i := 10) (N := some 47) (v := ?_) (a' := ?_) (rb6 [11, 12]) rfl rfl (qj0 HT_.out (by kernel_rfl)) (fun _ _ _ h => h) (Or.inl ⟨by rfl, ?_⟩) ?_ ?_
      rotate_left
      ·intro w'
       go_simp
       with_reducible rfl
      rotate_left
      ·simp only [Act.put, List.setIfInBounds_toArray, List.set_cons_zero, List.set_cons_succ, i64_w, i32_w]
       rfl
      refine pure_ (i := 11) (N := some 48) (v := ?_) (a' := ?_) (rb6 [12, 11]) rfl rfl (qj0 HT_.out (by kernel_rfl)) (fun _ _ _ h => h) (Or.inl ⟨by rfl, ?_⟩) ?_ ?_
      rotate_left
      ·intro w'
       go_simp
       with_reducible rfl
      rotate_left
      ·simp only [Act.put, List.setIfInBounds_toArray, List.set_cons_zero, List.set_cons_succ, i64_w, i32_w]
       rfl
      refine pure_ (i := 12) (N := some 49) (v := ?_) (a' := ?_) (rb6 [13, 10]) rfl rfl (qj0 HT_.out (by kernel_rfl)) (fun _ _ _ h => h) (Or.inl ⟨by rfl, ?_⟩) ?_ ?_
      rotate_left
      ·intro w'
       go_simp
       with_reducible rfl
      rotate_left
      ·simp only [Act.put, List.setIfInBounds_toArray, List.set_cons_zero, List.set_cons_succ, i64_w, i32_w]
       rfl
      refine pure_ (i := 13) (N := some 50) (v := ?_) (a' := ?_) (rb6 [14, 9]) rfl rfl (qj0 HT_.out (by kernel_rfl)) (fun _ _ _ h => h) (Or.inl ⟨by rfl, ?_⟩) ?_ ?_
      rotate_left
      ·intro w'
       go_simp
       with_reducible rfl
      rotate_left
      ·simp only [Act.put, List.setIfInBounds_toArray, List.set_cons_zero, List.set_cons_succ, i64_w, i32_w]
       rfl
      refine pure_ (i := 15) (N := some 52) (v := ?_) (a' := ?_) (rb6 [14, 1, 1, 7]) rfl rfl (qj0 HT_.out (by kernel_rfl)) (fun _ _ _ h => h) (Or.inl ⟨by rfl, ?_⟩) ?_ ?_
      rotate_left
      ·intro w'
       go_simp
       with_reducible rfl
      rotate_left
      ·simp only [Act.put, List.setIfInBounds_toArray, List.set_cons_zero, List.set_cons_succ, i64_w, i32_w]
       rfl
      refine pure_ (i := 16) (N := some 53) (v := ?_) (a' := ?_) (rb6 [14, 1, 2, 6]) rfl rfl (qj0 HT_.out (by kernel_rfl)) (fun _ _ _ h => h) (Or.inl ⟨by rfl, ?_⟩) ?_ ?_
      rotate_left
      ·intro w'
       go_simp
       with_reducible rfl
      rotate_left
      ·simp only [Act.put, List.setIfInBounds_toArray, List.set_cons_zero, List.set_cons_succ, i64_w, i32_w]
       rfl
      refine pure_ (i := 17) (N := some 54) (v := ?_) (a' := ?_) (rb6 [14, 1, 3, 5]) rfl rfl (qj0 HT_.out (by kernel_rfl)) (fun _ _ _ h => h) (Or.inl ⟨by rfl, ?_⟩) ?_ ?_
      rotate_left
      ·intro w'
       go_simp
       with_reducible rfl
      rotate_left
      ·simp only [Act.put, List.setIfInBounds_toArray, List.set_cons_zero, List.set_cons_succ, i64_w, i32_w]
       rfl
      refine take_ (i := 14) (N := some 51) (v := ?_) (a' := ?_) (rb6 [18, 5]) rfl rfl (qv0 HT_.out HW_.out (by kernel_rfl)) (fun _ _ _ h => h) (Or.inl ⟨by rfl, ?_⟩) hHeld ?_ ?_
      rotate_left
      ·rintro w' ⟨s0, s1, s2, s3⟩
       go_simp
       with_reducible rfl
      rotate_left
      ·simp only [Act.put, List.setIfInBounds_toArray, List.set_cons_zero, List.set_cons_succ, i64_w, i32_w]
       rfl
      refine take_ (i := 18) (N := some 55) (v := ?_) (a' := ?_) (rb6 [19, 4]) rfl rfl (qv0 HT_.out HW_.out (by kernel_rfl)) (fun _ _ _ h => h) (Or.inl ⟨by rfl, ?_⟩) hHeld ?_ ?_
      rotate_left
      ·rintro w' ⟨s0, s1, s2, s3⟩
       go_simp
       with_reducible rfl
      rotate_left
      ·simp only [Act.put, List.setIfInBounds_toArray, List.set_cons_zero, List.set_cons_succ, i64_w, i32_w]
       rfl
      refine one_ (i := 19) (N := some 56) (rb6 [20, 3]) rfl rfl (qw1 HT_.out (by kernel_rfl)) (by decide) (fun K hK => ?_)
      refine goesD_ (HQ1.out _ (by repeat (first | (with_reducible first | exact HK.out | apply Kept.alloc | apply Kept.drewN | apply Kept.drew) | exact HK.out))).enters #[.agg #[.int .i64 ((rd_T223 t229 x8_1).f0), .int .i64 ((rd_T223 t229 x8_1).f1)], .agg #[.int .i64 ((rd_T223 t228 x7_1).f0), .int .i64 ((rd_T223 t228 x7_1).f1)]] (by rfl) rfl rfl rfl (by (try simp only [List.map_toArray, List.map_cons, List.map_nil]); first | done | rfl) ?_
      refine (FnOk.call (HQ1.out _ (by repeat (first | (with_reducible first | exact HK.out | apply Kept.alloc | apply Kept.drewN | apply Kept.drew) | exact HK.out))) (⟨(rd_T223 t229 x8_1).f0, (rd_T223 t229 x8_1).f1⟩ : S223) (⟨(rd_T223 t228 x7_1).f0, (rd_T223 t228 x7_1).f1⟩ : S223) true rfl A41.out).mono ?_
      rintro e w47 ⟨rfl, hb⟩
      have HS0_ := (hb.cell (World.block_lt_of_cell? _ _ (hHeld.1))).trans (hHeld.1)
      have HS1_ := (hb.cell (World.block_lt_of_cell? _ _ (hHeld.2.1))).trans (hHeld.2.1)
      have HS2_ := (hb.cell (World.block_lt_of_cell? _ _ (hHeld.2.2.1))).trans (hHeld.2.2.1)
      have HS3_ := (hb.cell (World.block_lt_of_cell? _ _ (hHeld.2.2.2))).trans (hHeld.2.2.2)
      refine ⟨_, rfl, ?_⟩
      have n0_ := Aside0.mk (Kd.qf1 (by (with_reducible repeat (first | apply Kd.qe0 | apply Kd.qd0 | apply Kd.qf0)); exact HO_0.out) hb)
      have n1_ := Aside0.mk (Kd.qf1 (by (with_reducible repeat (first | apply Kd.qe0 | apply Kd.qd0 | apply Kd.qf0)); exact HO_5.out) hb)
      have n2_ := Aside0.mk (Kd.qf1 (by (with_reducible repeat (first | apply Kd.qe0 | apply Kd.qd0 | apply Kd.qf0)); exact HO_6.out) hb)
      have n3_ := Aside0.mk (Kept.below (S := (fun k_ => P0_ k_)) (by repeat (first | (with_reducible first | exact HK.out | apply Kept.alloc | apply Kept.drewN | apply Kept.drew) | exact HK.out)) hb)
      have n4_ := Aside0.mk (qr0 (by repeat (first | (with_reducible first | exact HB.out | apply qc0 | apply qa0 | apply qb0) | exact HB.out)) hb)
      clear HO_0
      clear HO_5
      clear HO_6
      clear HK
      clear HB
      have HO_0 := n0_
      have HO_5 := n1_
      have HO_6 := n2_
      have HK := n3_
      have HB := n4_
      clear n0_ n1_ n2_ n3_ n4_
      (try clear hb)
      (try clear hb2)
      (try clear hk)
      (try clear hi)
      refine hK.out _ _ ⟨HS0_, HS1_, HS2_, HS3_⟩ (fun hHeld => ?_)
      clear hK K
      refine norm_ (a' := ?_) ?_ ?_
      rotate_left
      ·show Act.put _ (some 56) _ = _
       simp only [Act.put, List.setIfInBounds_toArray, List.set_cons_zero, List.set_cons_succ, i64_w, i32_w]
       rfl
      refine pure_ (i := 20) (N := some 57) (v := ?_) (a' := ?_) (rb6 [21, 2]) rfl rfl (qj0 HT_.out (by kernel_rfl)) (fun _ _ _ h => h) (Or.inl ⟨by rfl, ?_⟩) ?_ ?_
      rotate_left
      ·intro w'
       go_simp
       with_reducible rfl
      rotate_left
      ·simp only [Act.put, List.setIfInBounds_toArray, List.set_cons_zero, List.set_cons_succ, i64_w, i32_w]
       rfl
      refine pure_ (i := 21) (N := some 58) (v := ?_) (a' := ?_) (rb6 [22, 1]) rfl rfl (qj0 HT_.out (by kernel_rfl)) (fun _ _ _ h => h) (Or.inl ⟨by rfl, ?_⟩) ?_ ?_
      rotate_left
      ·intro w'
       go_simp
       with_reducible rfl
      rotate_left
      ·simp only [Act.put, List.setIfInBounds_toArray, List.set_cons_zero, List.set_cons_succ, i64_w, i32_w]
       rfl
      refine pure_ (i := 22) (N := some 59) (v := ?_) (a' := ?_) (rb6 [23]) rfl rfl (qj0 HT_.out (by kernel_rfl)) (fun _ _ _ h => h) (Or.inl ⟨by rfl, ?_⟩) ?_ ?_
      rotate_left
      ·intro w'
       go_simp
       with_reducible rfl
      rotate_left
      ·simp only [Act.put, List.setIfInBounds_toArray, List.set_cons_zero, List.set_cons_succ, i64_w, i32_w]
       rfl
      refine done_ (done_of HT_.out (by kernel_rfl)) ?_
      have p235 : 0 ≤ (x8_1 : Int) := of_decide_eq_true (by first | (with_reducible assumption) | assumption)
      have q235 : x8_1 < (t229.length : Int) := of_decide_eq_true (by first | (with_reducible assumption) | assumption)
      obtain ⟨ad235, e235, hx235_0, hx235_1⟩ := at_T223 (Kd.qk0 HO_6.out).2.2 x8_1 p235 q235
      obtain rfl : ad232 = ad235 := (by injection e235)
      replace p235 := eq_true p235
      replace q235 := eq_true q235
      have p45 : 0 ≤ (x34_1 : Int) := of_decide_eq_true (by first | (with_reducible assumption) | assumption)
      have q45 : (x34_1 : Int) < ((x0_1.length : Int) : Int) := of_decide_eq_true (by first | (with_reducible assumption) | assumption)
      obtain ⟨go45, co45, eo45, gb45, gl45, cl45, HG45⟩ := Kd.R_form HO_0.out (by omega)
      (first | cases eo45 | (injection eo45 with ea_ en_ ec_; (first | subst ea_ | (injection ea_ with ea_; subst ea_)); subst ec_; clear en_))
      have GB45 := Aside0.mk gb45
      have GG45 := Aside0.mk HG45
      clear gb45 gl45 HG45
      have HMgo45 := Aside0.mk (show (P0_ go45 ∨ w.heap.size ≤ go45) from (HO_0.out.1 _ rfl).1)
      obtain ⟨ce45, hcl45, hM45, hcc45, hfr45⟩ := Kd.R_elem HO_0.out z223 (x34_1 : Int) p45 q45
      obtain rfl := k223_openM hM45
      have hx45_0 : w47.cell? ⟨go45, (x34_1 : Int).toNat * 2, none⟩ = some (.int .i64 ((rd_T223 x0_1 x34_1).f0)) := hcc45 0 _ rfl
      have hx45_1 : w47.cell? ⟨go45, (x34_1 : Int).toNat * 2 + 1, none⟩ = some (.int .i64 ((rd_T223 x0_1 x34_1).f1)) := hcc45 1 _ rfl
      have hf45_0 : w47.frozen? ⟨go45, (x34_1 : Int).toNat * 2, none⟩ = false := hfr45 0
      have hf45_1 : w47.frozen? ⟨go45, (x34_1 : Int).toNat * 2 + 1, none⟩ = false := hfr45 1
      clear hcl45 hcc45 hfr45 hM45
      replace p45 := eq_true p45
      replace q45 := eq_true q45
      have HX48 := Aside0.mk (show Kd.R k223 223 w47 w0.heap.size (fun k_ => (P0_ k_ ∨ w.heap.size ≤ k_) ∧ some k_ ≠ (.slice (some ad233) t228.length co23 : Value).ownBlock ∧ some k_ ≠ (.slice (some ad232) t229.length co25 : Value).ownBlock) (.slice (some ⟨go45, 0, none⟩) x0_1.length co14) x0_1 from (by (with_reducible repeat (first | apply Kd.qe0 | apply Kd.qd0 | apply Kd.qf0)); exact HO_0.out))
      obtain ⟨ce48, hcl48, hM48, hcc48, hfr48⟩ := Kd.R_elem HX48.out z223 (x34_1 : Int) (of_decide_eq_true (by first | (with_reducible assumption) | assumption)) (by have h_ : (x34_1 : Int) < ((x0_1.length : Int) : Int) := of_decide_eq_true (by first | (with_reducible assumption) | assumption); first | exact h_ | (have e_ := (Kd.qk0 HO_0.out).1; omega) | simpa using h_)
      obtain rfl := k223_openM hM48
      have HP48 := Kd.R_seg HX48.out (x34_1 : Int) (of_decide_eq_true (by first | (with_reducible assumption) | assumption)) (by have h_ : (x34_1 : Int) < ((x0_1.length : Int) : Int) := of_decide_eq_true (by first | (with_reducible assumption) | assumption); first | exact h_ | (have e_ := (Kd.qk0 HO_0.out).1; omega) | simpa using h_) (seg := [.int .i64 ((rd_T223 t229 x8_1).f0), .int .i64 ((rd_T223 t229 x8_1).f1)]) (j := 0) hcl48 hcc48 (show 2 ≤ 2 from by decide) (x' := (⟨(rd_T223 t229 x8_1).f0, (rd_T223 t229 x8_1).f1⟩ : S223)) (k223_mkM _ _ _ (⟨(rd_T223 t229 x8_1).f0, (rd_T223 t229 x8_1).f1⟩ : S223) ) (fun _ hk => hk)
      have hx48_0 := hcc48 0 _ rfl
      (try simp only [show (k223).sz = 2 from rfl, Nat.mul_one, Nat.add_zero] at hx48_0)
      have hf48_0 := hfr48 0
      (try simp only [show (k223).sz = 2 from rfl, Nat.mul_one, Nat.add_zero] at hf48_0)
      have hx48_1 := hcc48 1 _ rfl
      (try simp only [show (k223).sz = 2 from rfl, Nat.mul_one, Nat.add_zero] at hx48_1)
      have hf48_1 := hfr48 1
      (try simp only [show (k223).sz = 2 from rfl, Nat.mul_one, Nat.add_zero] at hf48_1)
      clear hcl48 hcc48 hfr48 hM48
      try go_wp2_with (first | ((with_reducible refine qh1 (t := 223) (p := 75) rfl ?_); refine qe1 (t := 223) (p := 75) (v := ?vo_w49) (w1 := ((w47.setCell ⟨go45, (x34_1 : Int).toNat * 2, none⟩ (.int .i64 ((rd_T223 t229 x8_1).f0))).setCell ⟨go45, (x34_1 : Int).toNat * 2 + 1, none⟩ (.int .i64 ((rd_T223 t229 x8_1).f1)))) ?hg ?ho ?hn ?hr ?_; (case ho => rfl); (case hg => rfl); (case hn => rfl); (case hr => first | (go_simp; done) | (go_simp; rfl)); intro w49 hw; have hg : w47.grownBy w49 (some go45) := (by rw [hw]; exact HP48.2); have hp_ : Kd.R k223 223 w49 w0.heap.size (fun k_ => (P0_ k_ ∨ w.heap.size ≤ k_) ∧ some k_ ≠ (.slice (some ad233) t228.length co23 : Value).ownBlock ∧ some k_ ≠ (.slice (some ad232) t229.length co25 : Value).ownBlock) (.slice (some ⟨go45, 0, none⟩) x0_1.length co14) y236 := (by rw [hw, Ny236.out]; exact HP48.1); clear HP48; have n0_ := Aside0.mk (hp_); have n1_ := Aside0.mk (Kd.qk1 (v := (.slice (some ⟨go45, 0, none⟩) x0_1.length co14)) (v1 := (.slice (some ⟨go45, 0, none⟩) x0_1.length co14)) (ok := (fun k_ => (P0_ k_ ∨ w.heap.size ≤ k_) ∧ some k_ ≠ (.slice (some ad232) t229.length co25 : Value).ownBlock)) (by (with_reducible repeat (first | apply Kd.qe0 | apply Kd.qd0 | apply Kd.qf0)); exact Kd.qq0 HO_5.out (fun _ hk => ⟨⟨hk.1, hk.2.2⟩, hk.2.1⟩)) hg (.inl rfl)); have n2_ := Aside0.mk (Kd.qk1 (v := (.slice (some ⟨go45, 0, none⟩) x0_1.length co14)) (v1 := (.slice (some ⟨go45, 0, none⟩) x0_1.length co14)) (ok := (fun k_ => (P0_ k_ ∨ w.heap.size ≤ k_) ∧ some k_ ≠ (.slice (some ad233) t228.length co23 : Value).ownBlock)) (by (with_reducible repeat (first | apply Kd.qe0 | apply Kd.qd0 | apply Kd.qf0)); exact Kd.qq0 HO_6.out (fun _ hk => ⟨⟨hk.1, hk.2.2⟩, hk.2.1⟩)) hg (.inl rfl)); have n3_ := Aside0.mk ((by rw [hw]; exact qi0 (qi0 (HB.out) GB45.out) GB45.out : Below w0.heap.size w0 w49)); have n4_ := Aside0.mk (Kept.of_grown (S := (fun k_ => P0_ k_)) hg (by repeat (first | (with_reducible first | exact HK.out | apply Kept.alloc | apply Kept.drewN | apply Kept.drew) | exact HK.out)) (fun k_ e_ => (HO_0.out.1 k_ e_).1)); clear HO_0; clear HO_5; clear HO_6; clear HB; clear HK; have HO_0 := n0_; have HO_5 := n1_; have HO_6 := n2_; have HB := n3_; have HK := n4_; clear n0_ n1_ n2_ n3_ n4_; clear hg hw hp_))
      (try simp only [← hl0_1, ← hl5_1, ← hl6_1])
      go_roundg k1
      case measure => have := HK1.out; omega
      case rel => exact ⟨(y236), (x7_1), (wrap64 (x8_1 + 1)), (wrap64 (x34_1 + 1)), (by first | rfl | (simp; done) | (simp [*]; done)), (by first | rfl | (simp; done) | (simp [*]; done)), (by first | rfl | (simp; done) | (simp [*]; done)), H', ⟨by have := HK1.out; omega⟩, ⟨by (try simp only [hl0_1]); (try simp only [hl5_1]); (try simp only [hl6_1]); (with_reducible repeat (first | apply Kd.qe0 | apply Kd.qd0 | apply Kd.qf0)); exact HO_0.out⟩, ⟨by (try simp only [hl0_1]); (try simp only [hl5_1]); (try simp only [hl6_1]); (with_reducible repeat (first | apply Kd.qe0 | apply Kd.qd0 | apply Kd.qf0)); exact Kd.qq0 HO_5.out (fun _ hk => ⟨hk.1.1, ⟨hk.2, hk.1.2⟩⟩)⟩, ⟨by (try simp only [hl0_1]); (try simp only [hl5_1]); (try simp only [hl6_1]); (with_reducible repeat (first | apply Kd.qe0 | apply Kd.qd0 | apply Kd.qf0)); exact Kd.qq0 HO_6.out (fun _ hk => ⟨hk.1.1, ⟨hk.2, hk.1.2⟩⟩)⟩, ⟨by repeat (first | (with_reducible first | exact HK.out | apply Kept.alloc | apply Kept.drewN | apply Kept.drew) | exact HK.out)⟩, ⟨by repeat (first | (with_reducible first | exact HB.out | apply qc0 | apply qa0 | apply qb0) | exact HB.out)⟩⟩
     replace c42 := Bool.eq_false_iff.mpr c42
     subst c42
     have H1 : (if 0 ≤ x34_1 then (if x34_1 < (x0_1.length : Int) then (impl_cutOff.l0 k1 (x0_1.set (x34_1 : Int).toNat (⟨(rd_T223 t228 x7_1).f0, (rd_T223 t228 x7_1).f1⟩ : S223)) a1 t228 t229 (wrap64 (x7_1 + 1)) x8_1 (l0.length : Int) (wrap64 (x34_1 + 1))) else (none)) else (none)) = some r := by rw [if_neg (show ¬ (false = true) by decide)] at H; exact H
     clear H
     have H := H1
     clear H1
     by_cases c50 : 0 ≤ x34_1
     case neg => rw [if_neg c50] at H; exact absurd H (by simp)
     rw [if_pos c50] at H
     have c50b0 : decide (0 ≤ x34_1) = true := decide_eq_true c50
     clear c50
     by_cases c51 : x34_1 < (x0_1.length : Int)
     case neg => rw [if_neg c51] at H; exact absurd H (by simp)
     rw [if_pos c51] at H
     have c51b0 : decide (x34_1 < (x0_1.length : Int)) = true := decide_eq_true c51
     clear c51
     obtain ⟨y238, hy238⟩ : ∃ y_ : List (S223), y_ = (x0_1.set (x34_1 : Int).toNat (⟨(rd_T223 t228 x7_1).f0, (rd_T223 t228 x7_1).f1⟩ : S223)) := ⟨_, rfl⟩
     replace H : (impl_cutOff.l0 k1 y238 a1 t228 t229 (wrap64 (x7_1 + 1)) x8_1 (l0.length : Int) (wrap64 (x34_1 + 1))) = some r := by first | (rw [hy238]; with_reducible exact H) | (have H2_ := (Option.bind_some _ _).symm.trans H; rw [hy238]; with_reducible exact H2_) | (have H2_ := (Option.bind_some _ _).symm.trans H; with_reducible exact H2_) | with_reducible exact H | (rw [hy238]; exact H) | exact H
     have Ny238 := Aside0.mk hy238
     clear hy238
     have H' := Aside0.mk H
     clear H
     try go_wp2
     have n0_ := Aside0.mk (Kd.qf0 HO_0.out)
     have n1_ := Aside0.mk (Kd.qf0 HO_5.out)
     have n2_ := Aside0.mk (Kd.qf0 HO_6.out)
     have n3_ := Aside0.mk (Kept.drew HK.out)
     have n4_ := Aside0.mk (qb0 HB.out)
     clear HO_0
     clear HO_5
     clear HO_6
     clear HK
     clear HB
     have HO_0 := n0_
     have HO_5 := n1_
     have HO_6 := n2_
     have HK := n3_
     have HB := n4_
     clear n0_ n1_ n2_ n3_ n4_
     have p232 : 0 ≤ (x8_1 : Int) := of_decide_eq_true (by first | (with_reducible assumption) | assumption)
     have q232 : x8_1 < (t229.length : Int) := of_decide_eq_true (by first | (with_reducible assumption) | assumption)
     obtain ⟨ad232, e232, hx232_0, hx232_1⟩ := at_T223 (Kd.qk0 HO_6.out).2.2 x8_1 p232 q232
     cases e232
     replace p232 := eq_true p232
     replace q232 := eq_true q232
     have p233 : 0 ≤ (x7_1 : Int) := of_decide_eq_true (by first | (with_reducible assumption) | assumption)
     have q233 : x7_1 < (t228.length : Int) := of_decide_eq_true (by first | (with_reducible assumption) | assumption)
     obtain ⟨ad233, e233, hx233_0, hx233_1⟩ := at_T223 (Kd.qk0 HO_5.out).2.2 x7_1 p233 q233
     cases e233
     replace p233 := eq_true p233
     replace q233 := eq_true q233
     refine start_ (n := 23) (S := fun w' => w'.cell? (ad232.add ((x8_1).toNat * 2)) = some (.int .i64 ((rd_T223 t229 x8_1).f0)) ∧ w'.cell? ⟨(ad232.add ((x8_1).toNat * 2)).block, (ad232.add ((x8_1).toNat * 2)).off + 1, none⟩ = some (.int .i64 ((rd_T223 t229 x8_1).f1)) ∧ w'.cell? (ad233.add ((x7_1).toNat * 2)) = some (.int .i64 ((rd_T223 t228 x7_1).f0)) ∧ w'.cell? ⟨(ad233.add ((x7_1).toNat * 2)).block, (ad233.add ((x7_1).toNat * 2)).off + 1, none⟩ = some (.int .i64 ((rd_T223 t228 x7_1).f1))) (ds := []) (rb6 [0, 23]) (by kernel_rfl) rfl rfl ⟨hx232_0, hx232_1, hx233_0, hx233_1⟩ (fun hHeld => ?_); refine with_tabW impl_cutOff.tab10 impl_cutOff.bits10 (fun HT_ HW_ => ?_)
     generalize wr.drew = w53 at HO_0 HO_5 HO_6 HK HB hx232_0 hx232_1 hx233_0 hx233_1 hHeld ⊢
     refine pure_ (i := 0) (N := some 37) (v := ?_) (a' := ?_) (rb6 [1, 22]) rfl rfl (qj0 HT_.out (by kernel_rfl)) (fun _ _ _ h => h) (Or.inl ⟨by rfl, ?_⟩) ?_ ?_
     rotate_left
     ·intro w'
      go_simp
      with_reducible rfl
     rotate_left
     ·simp only [Act.put, List.setIfInBounds_toArray, List.set_cons_zero, List.set_cons_succ, i64_w, i32_w]
      rfl
     refine pure_ (i := 1) (N := some 38) (v := ?_) (a' := ?_) (rb6 [2, 21]) rfl rfl (qj0 HT_.out (by kernel_rfl)) (fun _ _ _ h => h) (Or.inl ⟨by rfl, ?_⟩) ?_ ?_
     rotate_left
     ·intro w'
      go_simp
      with_reducible rfl
     rotate_left
     ·simp only [Act.put, List.setIfInBounds_toArray, List.set_cons_zero, List.set_cons_succ, i64_w, i32_w]
      rfl
     refine pure_ (i := 2) (N := some 39) (v := ?_) (a' := ?_) (rb6 [3, 20]) rfl rfl (qj0 HT_.out (by kernel_rfl)) (fun _ _ _ h => h) (Or.inl ⟨by rfl, ?_⟩) ?_ ?_
     rotate_left
     ·intro w'
      go_simp
      with_reducible rfl
     rotate_left
     ·simp only [Act.put, List.setIfInBounds_toArray, List.set_cons_zero, List.set_cons_succ, i64_w, i32_w]
      rfl
     refine pure_ (i := 3) (N := some 40) (v := ?_) (a' := ?_) (rb6 [4, 19]) rfl rfl (qj0 HT_.out (by kernel_rfl)) (fun _ _ _ h => h) (Or.inl ⟨by rfl, ?_⟩) ?_ ?_
     rotate_left
     ·intro w'
      go_simp
      with_reducible rfl
     rotate_left
     ·simp only [Act.put, List.setIfInBounds_toArray, List.set_cons_zero, List.set_cons_succ, i64_w, i32_w]
      rfl
     refine pure_ (i := 4) (N := some 41) (v := ?_) (a' := ?_) (rb6 [5, 18]) rfl rfl (qj0 HT_.out (by kernel_rfl)) (fun _ _ _ h => h) (Or.inl ⟨by rfl, ?_⟩) ?_ ?_
     rotate_left
     ·intro w'
      go_simp
      with_reducible rfl
     rotate_left
     ·simp only [Act.put, List.setIfInBounds_toArray, List.set_cons_zero, List.set_cons_succ, i64_w, i32_w]
      rfl
     refine pure_ (i := 5) (N := some 42) (v := ?_) (a' := ?_) (rb6 [6, 17]) rfl rfl (qj0 HT_.out (by kernel_rfl)) (fun _ _ _ h => h) (Or.inl ⟨by rfl, ?_⟩) ?_ ?_
     rotate_left
     ·intro w'
      go_simp
      with_reducible rfl
     rotate_left
     ·simp only [Act.put, List.setIfInBounds_toArray, List.set_cons_zero, List.set_cons_succ, i64_w, i32_w]
      rfl
     refine pure_ (i := 6) (N := some 43) (v := ?_) (a' := ?_) (rb6 [7, 16]) rfl rfl (qj0 HT_.out (by kernel_rfl)) (fun _ _ _ h => h) (Or.inl ⟨by rfl, ?_⟩) ?_ ?_
     rotate_left
     ·intro w'
      go_simp
      with_reducible rfl
     rotate_left
     ·simp only [Act.put, List.setIfInBounds_toArray, List.set_cons_zero, List.set_cons_succ, i64_w, i32_w]
      rfl
     refine pure_ (i := 7) (N := some 44) (v := ?_) (a' := ?_) (rb6 [8, 15]) rfl rfl (qj0 HT_.out (by kernel_rfl)) (fun _ _ _ h => h) (Or.inl ⟨by rfl, ?_⟩) ?_ ?_
     rotate_left
     ·intro w'
      go_simp
      with_reducible rfl
     rotate_left
     ·simp only [Act.put, List.setIfInBounds_toArray, List.set_cons_zero, List.set_cons_succ, i64_w, i32_w]
      rfl
     refine pure_ (i := 8) (N := some 45) (v := ?_) (a' := ?_) (rb6 [9, 14]) rfl rfl (qj0 HT_.out (by kernel_rfl)) (fun _ _ _ h => h) (Or.inl ⟨by rfl, ?_⟩) ?_ ?_
     rotate_left
     ·intro w'
      go_simp
      with_reducible rfl
     rotate_left
     ·simp only [Act.put, List.setIfInBounds_toArray, List.set_cons_zero, List.set_cons_succ, i64_w, i32_w]
      rfl
     refine pure_ (i := 9) (N := some 46) (v := ?_) (a' := ?_) (rb6 [10, 13]) rfl rfl (qj0 HT_.out (by kernel_rfl)) (fun _ _ _ h => h) (Or.inl ⟨by rfl, ?_⟩) ?_ ?_
     rotate_left
     ·intro w'
      go_simp
      with_reducible rfl
     rotate_left
     ·simp only [Act.put, List.setIfInBounds_toArray, List.set_cons_zero, List.set_cons_succ, i64_w, i32_w]
      rfl
     refine pure_ (i := 10) (N := some 47) (v := ?_) (a' := ?_) (rb6 [11, 12]) rfl rfl (qj0 HT_.out (by kernel_rfl)) (fun _ _ _ h => h) (Or.inl ⟨by rfl, ?_⟩) ?_ ?_
     rotate_left
     ·intro w'
      go_simp
      with_reducible rfl
     rotate_left
     ·simp only [Act.put, List.setIfInBounds_toArray, List.set_cons_zero, List.set_cons_succ, i64_w, i32_w]
      rfl
     refine pure_ (i := 11) (N := some 48) (v := ?_) (a' := ?_) (rb6 [12, 11]) rfl rfl (qj0 HT_.out (by kernel_rfl)) (fun _ _ _ h => h) (Or.inl ⟨by rfl, ?_⟩) ?_ ?_
     rotate_left
     ·intro w'
      go_simp
      with_reducible rfl
     rotate_left
     ·simp only [Act.put, List.setIfInBounds_toArray, List.set_cons_zero, List.set_cons_succ, i64_w, i32_w]
      rfl
     refine pure_ (i := 12) (N := some 49) (v := ?_) (a' := ?_) (rb6 [13, 10]) rfl rfl (qj0 HT_.out (by kernel_rfl)) (fun _ _ _ h => h) (Or.inl ⟨by rfl, ?_⟩) ?_ ?_
     rotate_left
     ·intro w'
      go_simp
      with_reducible rfl
     rotate_left
     ·simp only [Act.put, List.setIfInBounds_toArray, List.set_cons_zero, List.set_cons_succ, i64_w, i32_w]
      rfl
     refine pure_ (i := 13) (N := some 50) (v := ?_) (a' := ?_) (rb6 [14, 9]) rfl rfl (qj0 HT_.out (by kernel_rfl)) (fun _ _ _ h => h) (Or.inl ⟨by rfl, ?_⟩) ?_ ?_
     rotate_left
     ·intro w'
      go_simp
      with_reducible rfl
     rotate_left
     ·simp only [Act.put, List.setIfInBounds_toArray, List.set_cons_zero, List.set_cons_succ, i64_w, i32_w]
      rfl
     refine pure_ (i := 15) (N := some 52) (v := ?_) (a' := ?_) (rb6 [14, 1, 1, 7]) rfl rfl (qj0 HT_.out (by kernel_rfl)) (fun _ _ _ h => h) (Or.inl ⟨by rfl, ?_⟩) ?_ ?_
     rotate_left
     ·intro w'
      go_simp
      with_reducible rfl
     rotate_left
     ·simp only [Act.put, List.setIfInBounds_toArray, List.set_cons_zero, List.set_cons_succ, i64_w, i32_w]
      rfl
     refine pure_ (i := 16) (N := some 53) (v := ?_) (a' := ?_) (rb6 [14, 1, 2, 6]) rfl rfl (qj0 HT_.out (by kernel_rfl)) (fun _ _ _ h => h) (Or.inl ⟨by rfl, ?_⟩) ?_ ?_
     rotate_left
     ·intro w'
      go_simp
      with_reducible rfl
     rotate_left
     ·simp only [Act.put, List.setIfInBounds_toArray, List.set_cons_zero, List.set_cons_succ, i64_w, i32_w]
      rfl
     refine pure_ (i := 17) (N := some 54) (v := ?_) (a' := ?_) (rb6 [14, 1, 3, 5]) rfl rfl (qj0 HT_.out (by kernel_rfl)) (fun _ _ _ h => h) (Or.inl ⟨by rfl, ?_⟩) ?_ ?_
     rotate_left
     ·intro w'
      go_simp
      with_reducible rfl
     rotate_left
     ·simp only [Act.put, List.setIfInBounds_toArray, List.set_cons_zero, List.set_cons_succ, i64_w, i32_w]
      rfl
     refine take_ (i := 14) (N := some 51) (v := ?_) (a' := ?_) (rb6 [18, 5]) rfl rfl (qv0 HT_.out HW_.out (by kernel_rfl)) (fun _ _ _ h => h) (Or.inl ⟨by rfl, ?_⟩) hHeld ?_ ?_
     rotate_left
     ·rintro w' ⟨s0, s1, s2, s3⟩
      go_simp
      with_reducible rfl
     rotate_left
     ·simp only [Act.put, List.setIfInBounds_toArray, List.set_cons_zero, List.set_cons_succ, i64_w, i32_w]
      rfl
     refine take_ (i := 18) (N := some 55) (v := ?_) (a' := ?_) (rb6 [19, 4]) rfl rfl (qv0 HT_.out HW_.out (by kernel_rfl)) (fun _ _ _ h => h) (Or.inl ⟨by rfl, ?_⟩) hHeld ?_ ?_
     rotate_left
     ·rintro w' ⟨s0, s1, s2, s3⟩
      go_simp
      with_reducible rfl
     rotate_left
     ·simp only [Act.put, List.setIfInBounds_toArray, List.set_cons_zero, List.set_cons_succ, i64_w, i32_w]
      rfl
     refine one_ (i := 19) (N := some 56) (rb6 [20, 3]) rfl rfl (qw1 HT_.out (by kernel_rfl)) (by decide) (fun K hK => ?_)
     refine goesD_ (HQ1.out _ (by repeat (first | (with_reducible first | exact HK.out | apply Kept.alloc | apply Kept.drewN | apply Kept.drew) | exact HK.out))).enters #[.agg #[.int .i64 ((rd_T223 t229 x8_1).f0), .int .i64 ((rd_T223 t229 x8_1).f1)], .agg #[.int .i64 ((rd_T223 t228 x7_1).f0), .int .i64 ((rd_T223 t228 x7_1).f1)]] (by rfl) rfl rfl rfl (by (try simp only [List.map_toArray, List.map_cons, List.map_nil]); first | done | rfl) ?_
     refine (FnOk.call (HQ1.out _ (by repeat (first | (with_reducible first | exact HK.out | apply Kept.alloc | apply Kept.drewN | apply Kept.drew) | exact HK.out))) (⟨(rd_T223 t229 x8_1).f0, (rd_T223 t229 x8_1).f1⟩ : S223) (⟨(rd_T223 t228 x7_1).f0, (rd_T223 t228 x7_1).f1⟩ : S223) false rfl A41.out).mono ?_
     rintro e w54 ⟨rfl, hb⟩
     have HS0_ := (hb.cell (World.block_lt_of_cell? _ _ (hHeld.1))).trans (hHeld.1)
     have HS1_ := (hb.cell (World.block_lt_of_cell? _ _ (hHeld.2.1))).trans (hHeld.2.1)
     have HS2_ := (hb.cell (World.block_lt_of_cell? _ _ (hHeld.2.2.1))).trans (hHeld.2.2.1)
     have HS3_ := (hb.cell (World.block_lt_of_cell? _ _ (hHeld.2.2.2))).trans (hHeld.2.2.2)
     refine ⟨_, rfl, ?_⟩
     have n0_ := Aside0.mk (Kd.qf1 (by (with_reducible repeat (first | apply Kd.qe0 | apply Kd.qd0 | apply Kd.qf0)); exact HO_0.out) hb)
     have n1_ := Aside0.mk (Kd.qf1 (by (with_reducible repeat (first | apply Kd.qe0 | apply Kd.qd0 | apply Kd.qf0)); exact HO_5.out) hb)
     have n2_ := Aside0.mk (Kd.qf1 (by (with_reducible repeat (first | apply Kd.qe0 | apply Kd.qd0 | apply Kd.qf0)); exact HO_6.out) hb)
     have n3_ := Aside0.mk (Kept.below (S := (fun k_ => P0_ k_)) (by repeat (first | (with_reducible first | exact HK.out | apply Kept.alloc | apply Kept.drewN | apply Kept.drew) | exact HK.out)) hb)
     have n4_ := Aside0.mk (qr0 (by repeat (first | (with_reducible first | exact HB.out | apply qc0 | apply qa0 | apply qb0) | exact HB.out)) hb)
     clear HO_0
     clear HO_5
     clear HO_6
     clear HK
     clear HB
     have HO_0 := n0_
     have HO_5 := n1_
     have HO_6 := n2_
     have HK := n3_
     have HB := n4_
     clear n0_ n1_ n2_ n3_ n4_
     (try clear hb)
     (try clear hb2)
     (try clear hk)
     (try clear hi)
     refine hK.out _ _ ⟨HS0_, HS1_, HS2_, HS3_⟩ (fun hHeld => ?_)
     clear hK K
     refine norm_ (a' := ?_) ?_ ?_
     rotate_left
     ·show Act.put _ (some 56) _ = _
      simp only [Act.put, List.setIfInBounds_toArray, List.set_cons_zero, List.set_cons_succ, i64_w, i32_w]
      rfl
     refine pure_ (i := 20) (N := some 57) (v := ?_) (a' := ?_) (rb6 [21, 2]) rfl rfl (qj0 HT_.out (by kernel_rfl)) (fun _ _ _ h => h) (Or.inl ⟨by rfl, ?_⟩) ?_ ?_
     rotate_left
     ·intro w'
      go_simp
      with_reducible rfl
     rotate_left
     ·simp only [Act.put, List.setIfInBounds_toArray, List.set_cons_zero, List.set_cons_succ, i64_w, i32_w]
      rfl
     refine pure_ (i := 21) (N := some 58) (v := ?_) (a' := ?_) (rb6 [22, 1]) rfl rfl (qj0 HT_.out (by kernel_rfl)) (fun _ _ _ h => h) (Or.inl ⟨by rfl, ?_⟩) ?_ ?_
     rotate_left
     ·intro w'
      go_simp
      with_reducible rfl
     rotate_left
     ·simp only [Act.put, List.setIfInBounds_toArray, List.set_cons_zero, List.set_cons_succ, i64_w, i32_w]
      rfl
     refine pure_ (i := 22) (N := some 59) (v := ?_) (a' := ?_) (rb6 [23]) rfl rfl (qj0 HT_.out (by kernel_rfl)) (fun _ _ _ h => h) (Or.inl ⟨by rfl, ?_⟩) ?_ ?_
     rotate_left
     ·intro w'
      go_simp
      with_reducible rfl
     rotate_left
     ·simp only [Act.put, List.setIfInBounds_toArray, List.set_cons_zero, List.set_cons_succ, i64_w, i32_w]
      rfl
     refine done_ (done_of HT_.out (by kernel_rfl)) ?_
     have p237 : 0 ≤ (x7_1 : Int) := of_decide_eq_true (by first | (with_reducible assumption) | assumption)
     have q237 : x7_1 < (t228.length : Int) := of_decide_eq_true (by first | (with_reducible assumption) | assumption)
     obtain ⟨ad237, e237, hx237_0, hx237_1⟩ := at_T223 (Kd.qk0 HO_5.out).2.2 x7_1 p237 q237
     obtain rfl : ad233 = ad237 := (by injection e237)
     replace p237 := eq_true p237
     replace q237 := eq_true q237
     have p52 : 0 ≤ (x34_1 : Int) := of_decide_eq_true (by first | (with_reducible assumption) | assumption)
     have q52 : (x34_1 : Int) < ((x0_1.length : Int) : Int) := of_decide_eq_true (by first | (with_reducible assumption) | assumption)
     obtain ⟨go52, co52, eo52, gb52, gl52, cl52, HG52⟩ := Kd.R_form HO_0.out (by omega)
     (first | cases eo52 | (injection eo52 with ea_ en_ ec_; (first | subst ea_ | (injection ea_ with ea_; subst ea_)); subst ec_; clear en_))
     have GB52 := Aside0.mk gb52
     have GG52 := Aside0.mk HG52
     clear gb52 gl52 HG52
     have HMgo52 := Aside0.mk (show (P0_ go52 ∨ w.heap.size ≤ go52) from (HO_0.out.1 _ rfl).1)
     obtain ⟨ce52, hcl52, hM52, hcc52, hfr52⟩ := Kd.R_elem HO_0.out z223 (x34_1 : Int) p52 q52
     obtain rfl := k223_openM hM52
     have hx52_0 : w54.cell? ⟨go52, (x34_1 : Int).toNat * 2, none⟩ = some (.int .i64 ((rd_T223 x0_1 x34_1).f0)) := hcc52 0 _ rfl
     have hx52_1 : w54.cell? ⟨go52, (x34_1 : Int).toNat * 2 + 1, none⟩ = some (.int .i64 ((rd_T223 x0_1 x34_1).f1)) := hcc52 1 _ rfl
     have hf52_0 : w54.frozen? ⟨go52, (x34_1 : Int).toNat * 2, none⟩ = false := hfr52 0
     have hf52_1 : w54.frozen? ⟨go52, (x34_1 : Int).toNat * 2 + 1, none⟩ = false := hfr52 1
     clear hcl52 hcc52 hfr52 hM52
     replace p52 := eq_true p52
     replace q52 := eq_true q52
     have HX55 := Aside0.mk (show Kd.R k223 223 w54 w0.heap.size (fun k_ => (P0_ k_ ∨ w.heap.size ≤ k_) ∧ some k_ ≠ (.slice (some ad233) t228.length co23 : Value).ownBlock ∧ some k_ ≠ (.slice (some ad232) t229.length co25 : Value).ownBlock) (.slice (some ⟨go52, 0, none⟩) x0_1.length co14) x0_1 from (by (with_reducible repeat (first | apply Kd.qe0 | apply Kd.qd0 | apply Kd.qf0)); exact HO_0.out))
     obtain ⟨ce55, hcl55, hM55, hcc55, hfr55⟩ := Kd.R_elem HX55.out z223 (x34_1 : Int) (of_decide_eq_true (by first | (with_reducible assumption) | assumption)) (by have h_ : (x34_1 : Int) < ((x0_1.length : Int) : Int) := of_decide_eq_true (by first | (with_reducible assumption) | assumption); first | exact h_ | (have e_ := (Kd.qk0 HO_0.out).1; omega) | simpa using h_)
     obtain rfl := k223_openM hM55
     have HP55 := Kd.R_seg HX55.out (x34_1 : Int) (of_decide_eq_true (by first | (with_reducible assumption) | assumption)) (by have h_ : (x34_1 : Int) < ((x0_1.length : Int) : Int) := of_decide_eq_true (by first | (with_reducible assumption) | assumption); first | exact h_ | (have e_ := (Kd.qk0 HO_0.out).1; omega) | simpa using h_) (seg := [.int .i64 ((rd_T223 t228 x7_1).f0), .int .i64 ((rd_T223 t228 x7_1).f1)]) (j := 0) hcl55 hcc55 (show 2 ≤ 2 from by decide) (x' := (⟨(rd_T223 t228 x7_1).f0, (rd_T223 t228 x7_1).f1⟩ : S223)) (k223_mkM _ _ _ (⟨(rd_T223 t228 x7_1).f0, (rd_T223 t228 x7_1).f1⟩ : S223) ) (fun _ hk => hk)
     have hx55_0 := hcc55 0 _ rfl
     (try simp only [show (k223).sz = 2 from rfl, Nat.mul_one, Nat.add_zero] at hx55_0)
     have hf55_0 := hfr55 0
     (try simp only [show (k223).sz = 2 from rfl, Nat.mul_one, Nat.add_zero] at hf55_0)
     have hx55_1 := hcc55 1 _ rfl
     (try simp only [show (k223).sz = 2 from rfl, Nat.mul_one, Nat.add_zero] at hx55_1)
     have hf55_1 := hfr55 1
     (try simp only [show (k223).sz = 2 from rfl, Nat.mul_one, Nat.add_zero] at hf55_1)
     clear hcl55 hcc55 hfr55 hM55
     try go_wp2_with (first | ((with_reducible refine qh1 (t := 223) (p := 66) rfl ?_); refine qe1 (t := 223) (p := 66) (v := ?vo_w56) (w1 := ((w54.setCell ⟨go52, (x34_1 : Int).toNat * 2, none⟩ (.int .i64 ((rd_T223 t228 x7_1).f0))).setCell ⟨go52, (x34_1 : Int).toNat * 2 + 1, none⟩ (.int .i64 ((rd_T223 t228 x7_1).f1)))) ?hg ?ho ?hn ?hr ?_; (case ho => rfl); (case hg => rfl); (case hn => rfl); (case hr => first | (go_simp; done) | (go_simp; rfl)); intro w56 hw; have hg : w54.grownBy w56 (some go52) := (by rw [hw]; exact HP55.2); have hp_ : Kd.R k223 223 w56 w0.heap.size (fun k_ => (P0_ k_ ∨ w.heap.size ≤ k_) ∧ some k_ ≠ (.slice (some ad233) t228.length co23 : Value).ownBlock ∧ some k_ ≠ (.slice (some ad232) t229.length co25 : Value).ownBlock) (.slice (some ⟨go52, 0, none⟩) x0_1.length co14) y238 := (by rw [hw, Ny238.out]; exact HP55.1); clear HP55; have n0_ := Aside0.mk (hp_); have n1_ := Aside0.mk (Kd.qk1 (v := (.slice (some ⟨go52, 0, none⟩) x0_1.length co14)) (v1 := (.slice (some ⟨go52, 0, none⟩) x0_1.length co14)) (ok := (fun k_ => (P0_ k_ ∨ w.heap.size ≤ k_) ∧ some k_ ≠ (.slice (some ad232) t229.length co25 : Value).ownBlock)) (by (with_reducible repeat (first | apply Kd.qe0 | apply Kd.qd0 | apply Kd.qf0)); exact Kd.qq0 HO_5.out (fun _ hk => ⟨⟨hk.1, hk.2.2⟩, hk.2.1⟩)) hg (.inl rfl)); have n2_ := Aside0.mk (Kd.qk1 (v := (.slice (some ⟨go52, 0, none⟩) x0_1.length co14)) (v1 := (.slice (some ⟨go52, 0, none⟩) x0_1.length co14)) (ok := (fun k_ => (P0_ k_ ∨ w.heap.size ≤ k_) ∧ some k_ ≠ (.slice (some ad233) t228.length co23 : Value).ownBlock)) (by (with_reducible repeat (first | apply Kd.qe0 | apply Kd.qd0 | apply Kd.qf0)); exact Kd.qq0 HO_6.out (fun _ hk => ⟨⟨hk.1, hk.2.2⟩, hk.2.1⟩)) hg (.inl rfl)); have n3_ := Aside0.mk ((by rw [hw]; exact qi0 (qi0 (HB.out) GB52.out) GB52.out : Below w0.heap.size w0 w56)); have n4_ := Aside0.mk (Kept.of_grown (S := (fun k_ => P0_ k_)) hg (by repeat (first | (with_reducible first | exact HK.out | apply Kept.alloc | apply Kept.drewN | apply Kept.drew) | exact HK.out)) (fun k_ e_ => (HO_0.out.1 k_ e_).1)); clear HO_0; clear HO_5; clear HO_6; clear HB; clear HK; have HO_0 := n0_; have HO_5 := n1_; have HO_6 := n2_; have HB := n3_; have HK := n4_; clear n0_ n1_ n2_ n3_ n4_; clear hg hw hp_))
     (try simp only [← hl0_1, ← hl5_1, ← hl6_1])
     go_roundg k1
     case measure => have := HK1.out; omega
     case rel => exact ⟨(y238), (wrap64 (x7_1 + 1)), (x8_1), (wrap64 (x34_1 + 1)), (by first | rfl | (simp; done) | (simp [*]; done)), (by first | rfl | (simp; done) | (simp [*]; done)), (by first | rfl | (simp; done) | (simp [*]; done)), H', ⟨by have := HK1.out; omega⟩, ⟨by (try simp only [hl0_1]); (try simp only [hl5_1]); (try simp only [hl6_1]); (with_reducible repeat (first | apply Kd.qe0 | apply Kd.qd0 | apply Kd.qf0)); exact HO_0.out⟩, ⟨by (try simp only [hl0_1]); (try simp only [hl5_1]); (try simp only [hl6_1]); (with_reducible repeat (first | apply Kd.qe0 | apply Kd.qd0 | apply Kd.qf0)); exact Kd.qq0 HO_5.out (fun _ hk => ⟨hk.1.1, ⟨hk.2, hk.1.2⟩⟩)⟩, ⟨by (try simp only [hl0_1]); (try simp only [hl5_1]); (try simp only [hl6_1]); (with_reducible repeat (first | apply Kd.qe0 | apply Kd.qd0 | apply Kd.qf0)); exact Kd.qq0 HO_6.out (fun _ hk => ⟨hk.1.1, ⟨hk.2, hk.1.2⟩⟩)⟩, ⟨by repeat (first | (with_reducible first | exact HK.out | apply Kept.alloc | apply Kept.drewN | apply Kept.drew) | exact HK.out)⟩, ⟨by repeat (first | (with_reducible first | exact HB.out | apply qc0 | apply qa0 | apply qb0) | exact HB.out)⟩⟩
    rw [if_neg c37] at H
    have c37b0 : decide (x7_1 < (t228.length : Int)) = false := decide_eq_false c37
    have hlx_ := c37b0
    (try rw [← hl0_1] at hlx_)
    have hly_ := c37b0
    (try rw [hl0_1] at hly_)
    clear c37
    by_cases c57 : 0 ≤ x8_1
    case neg => rw [if_neg c57] at H; exact absurd H (by simp)
    rw [if_pos c57] at H
    have c57b0 : decide (0 ≤ x8_1) = true := decide_eq_true c57
    clear c57
    by_cases c58 : x8_1 < (t229.length : Int)
    case neg => rw [if_neg c58] at H; exact absurd H (by simp)
    rw [if_pos c58] at H
    have c58b0 : decide (x8_1 < (t229.length : Int)) = true := decide_eq_true c58
    clear c58
    by_cases c59 : 0 ≤ x34_1
    case neg => rw [if_neg c59] at H; exact absurd H (by simp)
    rw [if_pos c59] at H
    have c59b0 : decide (0 ≤ x34_1) = true := decide_eq_true c59
    clear c59
    by_cases c60 : x34_1 < (x0_1.length : Int)
    case neg => rw [if_neg c60] at H; exact absurd H (by simp)
    rw [if_pos c60] at H
    have c60b0 : decide (x34_1 < (x0_1.length : Int)) = true := decide_eq_true c60
    clear c60
    obtain ⟨y240, hy240⟩ : ∃ y_ : List (S223), y_ = (x0_1.set (x34_1 : Int).toNat (⟨(rd_T223 t229 x8_1).f0, (rd_T223 t229 x8_1).f1⟩ : S223)) := ⟨_, rfl⟩
    replace H : (impl_cutOff.l0 k1 y240 a1 t228 t229 x7_1 (wrap64 (x8_1 + 1)) (l0.length : Int) (wrap64 (x34_1 + 1))) = some r := by first | (rw [hy240]; with_reducible exact H) | (have H2_ := (Option.bind_some _ _).symm.trans H; rw [hy240]; with_reducible exact H2_) | (have H2_ := (Option.bind_some _ _).symm.trans H; with_reducible exact H2_) | with_reducible exact H | (rw [hy240]; exact H) | exact H
    have Ny240 := Aside0.mk hy240
    clear hy240
    have H' := Aside0.mk H
    clear H
    try go_wp2
    have n0_ := Aside0.mk (Kd.qf0 HO_0.out)
    have n1_ := Aside0.mk (Kd.qf0 HO_5.out)
    have n2_ := Aside0.mk (Kd.qf0 HO_6.out)
    have n3_ := Aside0.mk (Kept.drew HK.out)
    have n4_ := Aside0.mk (qb0 HB.out)
    clear HO_0
    clear HO_5
    clear HO_6
    clear HK
    clear HB
    have HO_0 := n0_
    have HO_5 := n1_
    have HO_6 := n2_
    have HK := n3_
    have HB := n4_
    clear n0_ n1_ n2_ n3_ n4_
    refine start_ (n := 23) (S := fun w' => True) (ds := []) (rb6 [0, 23]) (by kernel_rfl) rfl rfl trivial (fun hHeld => ?_); refine with_tabW impl_cutOff.tab10 impl_cutOff.bits10 (fun HT_ HW_ => ?_)
    generalize wr.drew = w62 at HO_0 HO_5 HO_6 HK HB hHeld ⊢
    refine pure_ (i := 0) (N := some 37) (v := ?_) (a' := ?_) (rb6 [1, 22]) rfl rfl (qj0 HT_.out (by kernel_rfl)) (fun _ _ _ h => h) (Or.inl ⟨by rfl, ?_⟩) ?_ ?_
    rotate_left
    ·intro w'
     go_simp
     with_reducible rfl
    rotate_left
    ·simp only [Act.put, List.setIfInBounds_toArray, List.set_cons_zero, List.set_cons_succ, i64_w, i32_w]
     rfl
    refine pure_ (i := 1) (N := some 38) (v := ?_) (a' := ?_) (rb6 [2, 21]) rfl rfl (qj0 HT_.out (by kernel_rfl)) (fun _ _ _ h => h) (Or.inl ⟨by rfl, ?_⟩) ?_ ?_
    rotate_left
    ·intro w'
     go_simp
     with_reducible rfl
    rotate_left
    ·simp only [Act.put, List.setIfInBounds_toArray, List.set_cons_zero, List.set_cons_succ, i64_w, i32_w]
     rfl
    refine pure_ (i := 2) (N := some 39) (v := ?_) (a' := ?_) (rb6 [3, 20]) rfl rfl (qj0 HT_.out (by kernel_rfl)) (fun _ _ _ h => h) (Or.inl ⟨by rfl, ?_⟩) ?_ ?_
    rotate_left
    ·intro w'
     go_simp
     with_reducible rfl
    rotate_left
    ·simp only [Act.put, List.setIfInBounds_toArray, List.set_cons_zero, List.set_cons_succ, i64_w, i32_w]
     rfl
    refine pure_ (i := 3) (N := some 40) (v := ?_) (a' := ?_) (rb6 [4, 19]) rfl rfl (qj0 HT_.out (by kernel_rfl)) (fun _ _ _ h => h) (Or.inl ⟨by rfl, ?_⟩) ?_ ?_
    rotate_left
    ·intro w'
     go_simp
     with_reducible rfl
    rotate_left
    ·simp only [Act.put, List.setIfInBounds_toArray, List.set_cons_zero, List.set_cons_succ, i64_w, i32_w]
     rfl
    refine pure_ (i := 4) (N := some 41) (v := ?_) (a' := ?_) (rb6 [5, 18]) rfl rfl (qj0 HT_.out (by kernel_rfl)) (fun _ _ _ h => h) (Or.inl ⟨by rfl, ?_⟩) ?_ ?_
    rotate_left
    ·intro w'
     go_simp
     with_reducible rfl
    rotate_left
    ·simp only [Act.put, List.setIfInBounds_toArray, List.set_cons_zero, List.set_cons_succ, i64_w, i32_w]
     rfl
    refine pure_ (i := 5) (N := some 42) (v := ?_) (a' := ?_) (rb6 [6, 17]) rfl rfl (qj0 HT_.out (by kernel_rfl)) (fun _ _ _ h => h) (Or.inl ⟨by rfl, ?_⟩) ?_ ?_
    rotate_left
    ·intro w'
     go_simp
     with_reducible rfl
    rotate_left
    ·simp only [Act.put, List.setIfInBounds_toArray, List.set_cons_zero, List.set_cons_succ, i64_w, i32_w]
     rfl
    refine pure_ (i := 6) (N := some 43) (v := ?_) (a' := ?_) (rb6 [7, 16]) rfl rfl (qj0 HT_.out (by kernel_rfl)) (fun _ _ _ h => h) (Or.inl ⟨by rfl, ?_⟩) ?_ ?_
    rotate_left
    ·intro w'
     go_simp
     with_reducible rfl
    rotate_left
    ·simp only [Act.put, List.setIfInBounds_toArray, List.set_cons_zero, List.set_cons_succ, i64_w, i32_w]
     rfl
    refine pure_ (i := 7) (N := some 44) (v := ?_) (a' := ?_) (rb6 [8, 15]) rfl rfl (qj0 HT_.out (by kernel_rfl)) (fun _ _ _ h => h) (Or.inl ⟨by rfl, ?_⟩) ?_ ?_
    rotate_left
    ·intro w'
     go_simp
     with_reducible rfl
    rotate_left
    ·simp only [Act.put, List.setIfInBounds_toArray, List.set_cons_zero, List.set_cons_succ, i64_w, i32_w]
     rfl
    refine pure_ (i := 8) (N := some 45) (v := ?_) (a' := ?_) (rb6 [9, 14]) rfl rfl (qj0 HT_.out (by kernel_rfl)) (fun _ _ _ h => h) (Or.inl ⟨by rfl, ?_⟩) ?_ ?_
    rotate_left
    ·intro w'
     go_simp
     with_reducible rfl
    rotate_left
    ·simp only [Act.put, List.setIfInBounds_toArray, List.set_cons_zero, List.set_cons_succ, i64_w, i32_w]
     rfl
    refine pure_ (i := 9) (N := some 46) (v := ?_) (a' := ?_) (rb6 [10, 13]) rfl rfl (qj0 HT_.out (by kernel_rfl)) (fun _ _ _ h => h) (Or.inl ⟨by rfl, ?_⟩) ?_ ?_
    rotate_left
    ·intro w'
     go_simp
     with_reducible rfl
    rotate_left
    ·simp only [Act.put, List.setIfInBounds_toArray, List.set_cons_zero, List.set_cons_succ, i64_w, i32_w]
     rfl
    refine pure_ (i := 10) (N := some 47) (v := undef) (a' := ?_) (rb6 [11, 12]) rfl rfl (qj0 HT_.out (by kernel_rfl)) (fun _ _ _ h => h) (Or.inr ⟨by rfl, rfl⟩) ?_ ?_
    rotate_left
    ·simp only [Act.put, List.setIfInBounds_toArray, List.set_cons_zero, List.set_cons_succ, i64_w, i32_w]
     rfl
    refine pure_ (i := 11) (N := some 48) (v := undef) (a' := ?_) (rb6 [12, 11]) rfl rfl (qj0 HT_.out (by kernel_rfl)) (fun _ _ _ h => h) (Or.inr ⟨by rfl, rfl⟩) ?_ ?_
    rotate_left
    ·simp only [Act.put, List.setIfInBounds_toArray, List.set_cons_zero, List.set_cons_succ, i64_w, i32_w]
     rfl
    refine pure_ (i := 12) (N := some 49) (v := undef) (a' := ?_) (rb6 [13, 10]) rfl rfl (qj0 HT_.out (by kernel_rfl)) (fun _ _ _ h => h) (Or.inr ⟨by rfl, rfl⟩) ?_ ?_
    rotate_left
    ·simp only [Act.put, List.setIfInBounds_toArray, List.set_cons_zero, List.set_cons_succ, i64_w, i32_w]
     rfl
    refine pure_ (i := 13) (N := some 50) (v := undef) (a' := ?_) (rb6 [14, 9]) rfl rfl (qj0 HT_.out (by kernel_rfl)) (fun _ _ _ h => h) (Or.inr ⟨by rfl, rfl⟩) ?_ ?_
    rotate_left
    ·simp only [Act.put, List.setIfInBounds_toArray, List.set_cons_zero, List.set_cons_succ, i64_w, i32_w]
     rfl
    refine pure_ (i := 14) (N := some 51) (v := undef) (a' := ?_) (rb6 [15, 8]) rfl rfl (qj0 HT_.out (by kernel_rfl)) (fun _ _ _ h => h) (Or.inr ⟨by rfl, rfl⟩) ?_ ?_
    rotate_left
    ·simp only [Act.put, List.setIfInBounds_toArray, List.set_cons_zero, List.set_cons_succ, i64_w, i32_w]
     rfl
    refine pure_ (i := 15) (N := some 52) (v := undef) (a' := ?_) (rb6 [16, 7]) rfl rfl (qj0 HT_.out (by kernel_rfl)) (fun _ _ _ h => h) (Or.inr ⟨by rfl, rfl⟩) ?_ ?_
    rotate_left
    ·simp only [Act.put, List.setIfInBounds_toArray, List.set_cons_zero, List.set_cons_succ, i64_w, i32_w]
     rfl
    refine pure_ (i := 16) (N := some 53) (v := undef) (a' := ?_) (rb6 [17, 6]) rfl rfl (qj0 HT_.out (by kernel_rfl)) (fun _ _ _ h => h) (Or.inr ⟨by rfl, rfl⟩) ?_ ?_
    rotate_left
    ·simp only [Act.put, List.setIfInBounds_toArray, List.set_cons_zero, List.set_cons_succ, i64_w, i32_w]
     rfl
    refine pure_ (i := 17) (N := some 54) (v := undef) (a' := ?_) (rb6 [18, 5]) rfl rfl (qj0 HT_.out (by kernel_rfl)) (fun _ _ _ h => h) (Or.inr ⟨by rfl, rfl⟩) ?_ ?_
    rotate_left
    ·simp only [Act.put, List.setIfInBounds_toArray, List.set_cons_zero, List.set_cons_succ, i64_w, i32_w]
     rfl
    refine pure_ (i := 18) (N := some 55) (v := undef) (a' := ?_) (rb6 [19, 4]) rfl rfl (qj0 HT_.out (by kernel_rfl)) (fun _ _ _ h => h) (Or.inr ⟨by rfl, rfl⟩) ?_ ?_
    rotate_left
    ·simp only [Act.put, List.setIfInBounds_toArray, List.set_cons_zero, List.set_cons_succ, i64_w, i32_w]
     rfl
    refine pure_ (i := 19) (N := some 56) (v := undef) (a' := ?_) (rb6 [20, 3]) rfl rfl (qj0 HT_.out (by kernel_rfl)) (fun _ _ _ h => h) (Or.inr ⟨by rfl, rfl⟩) ?_ ?_
    rotate_left
    ·simp only [Act.put, List.setIfInBounds_toArray, List.set_cons_zero, List.set_cons_succ, i64_w, i32_w]
     rfl
    refine pure_ (i := 20) (N := some 57) (v := undef) (a' := ?_) (rb6 [21, 2]) rfl rfl (qj0 HT_.out (by kernel_rfl)) (fun _ _ _ h => h) (Or.inr ⟨by rfl, rfl⟩) ?_ ?_
    rotate_left
    ·simp only [Act.put, List.setIfInBounds_toArray, List.set_cons_zero, List.set_cons_succ, i64_w, i32_w]
     rfl
    refine pure_ (i := 21) (N := some 58) (v := ?_) (a' := ?_) (rb6 [22, 1]) rfl rfl (qj0 HT_.out (by kernel_rfl)) (fun _ _ _ h => h) (Or.inl ⟨by rfl, ?_⟩) ?_ ?_
    rotate_left
    ·intro w'
     go_simp
     with_reducible rfl
    rotate_left
    ·simp only [Act.put, List.setIfInBounds_toArray, List.set_cons_zero, List.set_cons_succ, i64_w, i32_w]
     rfl
    refine pure_ (i := 22) (N := some 59) (v := ?_) (a' := ?_) (rb6 [23]) rfl rfl (qj0 HT_.out (by kernel_rfl)) (fun _ _ _ h => h) (Or.inl ⟨by rfl, ?_⟩) ?_ ?_
    rotate_left
    ·intro w'
     go_simp
     with_reducible rfl
    rotate_left
    ·simp only [Act.put, List.setIfInBounds_toArray, List.set_cons_zero, List.set_cons_succ, i64_w, i32_w]
     rfl
    refine done_ (done_of HT_.out (by kernel_rfl)) ?_
    have p239 : 0 ≤ (x8_1 : Int) := of_decide_eq_true (by first | (with_reducible assumption) | assumption)
    have q239 : x8_1 < (t229.length : Int) := of_decide_eq_true (by first | (with_reducible assumption) | assumption)
    obtain ⟨ad239, e239, hx239_0, hx239_1⟩ := at_T223 (Kd.qk0 HO_6.out).2.2 x8_1 p239 q239
    cases e239
    replace p239 := eq_true p239
    replace q239 := eq_true q239
    have p61 : 0 ≤ (x34_1 : Int) := of_decide_eq_true (by first | (with_reducible assumption) | assumption)
    have q61 : (x34_1 : Int) < ((x0_1.length : Int) : Int) := of_decide_eq_true (by first | (with_reducible assumption) | assumption)
    obtain ⟨go61, co61, eo61, gb61, gl61, cl61, HG61⟩ := Kd.R_form HO_0.out (by omega)
    (first | cases eo61 | (injection eo61 with ea_ en_ ec_; (first | subst ea_ | (injection ea_ with ea_; subst ea_)); subst ec_; clear en_))
    have GB61 := Aside0.mk gb61
    have GG61 := Aside0.mk HG61
    clear gb61 gl61 HG61
    have HMgo61 := Aside0.mk (show (P0_ go61 ∨ w.heap.size ≤ go61) from (HO_0.out.1 _ rfl).1)
    obtain ⟨ce61, hcl61, hM61, hcc61, hfr61⟩ := Kd.R_elem HO_0.out z223 (x34_1 : Int) p61 q61
    obtain rfl := k223_openM hM61
    have hx61_0 : w62.cell? ⟨go61, (x34_1 : Int).toNat * 2, none⟩ = some (.int .i64 ((rd_T223 x0_1 x34_1).f0)) := hcc61 0 _ rfl
    have hx61_1 : w62.cell? ⟨go61, (x34_1 : Int).toNat * 2 + 1, none⟩ = some (.int .i64 ((rd_T223 x0_1 x34_1).f1)) := hcc61 1 _ rfl
    have hf61_0 : w62.frozen? ⟨go61, (x34_1 : Int).toNat * 2, none⟩ = false := hfr61 0
    have hf61_1 : w62.frozen? ⟨go61, (x34_1 : Int).toNat * 2 + 1, none⟩ = false := hfr61 1
    clear hcl61 hcc61 hfr61 hM61
    replace p61 := eq_true p61
    replace q61 := eq_true q61
    have HX63 := Aside0.mk (show Kd.R k223 223 w62 w0.heap.size (fun k_ => (P0_ k_ ∨ w.heap.size ≤ k_) ∧ some k_ ≠ (.slice Ao23 t228.length co23 : Value).ownBlock ∧ some k_ ≠ (.slice (some ad239) t229.length co25 : Value).ownBlock) (.slice (some ⟨go61, 0, none⟩) x0_1.length co14) x0_1 from (by (with_reducible repeat (first | apply Kd.qe0 | apply Kd.qd0 | apply Kd.qf0)); exact HO_0.out))
    obtain ⟨ce63, hcl63, hM63, hcc63, hfr63⟩ := Kd.R_elem HX63.out z223 (x34_1 : Int) (of_decide_eq_true (by first | (with_reducible assumption) | assumption)) (by have h_ : (x34_1 : Int) < ((x0_1.length : Int) : Int) := of_decide_eq_true (by first | (with_reducible assumption) | assumption); first | exact h_ | (have e_ := (Kd.qk0 HO_0.out).1; omega) | simpa using h_)
    obtain rfl := k223_openM hM63
    have HP63 := Kd.R_seg HX63.out (x34_1 : Int) (of_decide_eq_true (by first | (with_reducible assumption) | assumption)) (by have h_ : (x34_1 : Int) < ((x0_1.length : Int) : Int) := of_decide_eq_true (by first | (with_reducible assumption) | assumption); first | exact h_ | (have e_ := (Kd.qk0 HO_0.out).1; omega) | simpa using h_) (seg := [.int .i64 ((rd_T223 t229 x8_1).f0), .int .i64 ((rd_T223 t229 x8_1).f1)]) (j := 0) hcl63 hcc63 (show 2 ≤ 2 from by decide) (x' := (⟨(rd_T223 t229 x8_1).f0, (rd_T223 t229 x8_1).f1⟩ : S223)) (k223_mkM _ _ _ (⟨(rd_T223 t229 x8_1).f0, (rd_T223 t229 x8_1).f1⟩ : S223) ) (fun _ hk => hk)
    have hx63_0 := hcc63 0 _ rfl
    (try simp only [show (k223).sz = 2 from rfl, Nat.mul_one, Nat.add_zero] at hx63_0)
    have hf63_0 := hfr63 0
    (try simp only [show (k223).sz = 2 from rfl, Nat.mul_one, Nat.add_zero] at hf63_0)
    have hx63_1 := hcc63 1 _ rfl
    (try simp only [show (k223).sz = 2 from rfl, Nat.mul_one, Nat.add_zero] at hx63_1)
    have hf63_1 := hfr63 1
    (try simp only [show (k223).sz = 2 from rfl, Nat.mul_one, Nat.add_zero] at hf63_1)
    clear hcl63 hcc63 hfr63 hM63
    try go_wp2_with (first | ((with_reducible refine qh1 (t := 223) (p := 75) rfl ?_); refine qe1 (t := 223) (p := 75) (v := ?vo_w64) (w1 := ((w62.setCell ⟨go61, (x34_1 : Int).toNat * 2, none⟩ (.int .i64 ((rd_T223 t229 x8_1).f0))).setCell ⟨go61, (x34_1 : Int).toNat * 2 + 1, none⟩ (.int .i64 ((rd_T223 t229 x8_1).f1)))) ?hg ?ho ?hn ?hr ?_; (case ho => rfl); (case hg => rfl); (case hn => rfl); (case hr => first | (go_simp; done) | (go_simp; rfl)); intro w64 hw; have hg : w62.grownBy w64 (some go61) := (by rw [hw]; exact HP63.2); have hp_ : Kd.R k223 223 w64 w0.heap.size (fun k_ => (P0_ k_ ∨ w.heap.size ≤ k_) ∧ some k_ ≠ (.slice Ao23 t228.length co23 : Value).ownBlock ∧ some k_ ≠ (.slice (some ad239) t229.length co25 : Value).ownBlock) (.slice (some ⟨go61, 0, none⟩) x0_1.length co14) y240 := (by rw [hw, Ny240.out]; exact HP63.1); clear HP63; have n0_ := Aside0.mk (hp_); have n1_ := Aside0.mk (Kd.qk1 (v := (.slice (some ⟨go61, 0, none⟩) x0_1.length co14)) (v1 := (.slice (some ⟨go61, 0, none⟩) x0_1.length co14)) (ok := (fun k_ => (P0_ k_ ∨ w.heap.size ≤ k_) ∧ some k_ ≠ (.slice (some ad239) t229.length co25 : Value).ownBlock)) (by (with_reducible repeat (first | apply Kd.qe0 | apply Kd.qd0 | apply Kd.qf0)); exact Kd.qq0 HO_5.out (fun _ hk => ⟨⟨hk.1, hk.2.2⟩, hk.2.1⟩)) hg (.inl rfl)); have n2_ := Aside0.mk (Kd.qk1 (v := (.slice (some ⟨go61, 0, none⟩) x0_1.length co14)) (v1 := (.slice (some ⟨go61, 0, none⟩) x0_1.length co14)) (ok := (fun k_ => (P0_ k_ ∨ w.heap.size ≤ k_) ∧ some k_ ≠ (.slice Ao23 t228.length co23 : Value).ownBlock)) (by (with_reducible repeat (first | apply Kd.qe0 | apply Kd.qd0 | apply Kd.qf0)); exact Kd.qq0 HO_6.out (fun _ hk => ⟨⟨hk.1, hk.2.2⟩, hk.2.1⟩)) hg (.inl rfl)); have n3_ := Aside0.mk ((by rw [hw]; exact qi0 (qi0 (HB.out) GB61.out) GB61.out : Below w0.heap.size w0 w64)); have n4_ := Aside0.mk (Kept.of_grown (S := (fun k_ => P0_ k_)) hg (by repeat (first | (with_reducible first | exact HK.out | apply Kept.alloc | apply Kept.drewN | apply Kept.drew) | exact HK.out)) (fun k_ e_ => (HO_0.out.1 k_ e_).1)); clear HO_0; clear HO_5; clear HO_6; clear HB; clear HK; have HO_0 := n0_; have HO_5 := n1_; have HO_6 := n2_; have HB := n3_; have HK := n4_; clear n0_ n1_ n2_ n3_ n4_; clear hg hw hp_))
    (try simp only [← hl0_1, ← hl5_1, ← hl6_1])
    go_roundg k1
    case measure => have := HK1.out; omega
    case rel => exact ⟨(y240), (x7_1), (wrap64 (x8_1 + 1)), (wrap64 (x34_1 + 1)), (by first | rfl | (simp; done) | (simp [*]; done)), (by first | rfl | (simp; done) | (simp [*]; done)), (by first | rfl | (simp; done) | (simp [*]; done)), H', ⟨by have := HK1.out; omega⟩, ⟨by (try simp only [hl0_1]); (try simp only [hl5_1]); (try simp only [hl6_1]); (with_reducible repeat (first | apply Kd.qe0 | apply Kd.qd0 | apply Kd.qf0)); exact HO_0.out⟩, ⟨by (try simp only [hl0_1]); (try simp only [hl5_1]); (try simp only [hl6_1]); (with_reducible repeat (first | apply Kd.qe0 | apply Kd.qd0 | apply Kd.qf0)); exact Kd.qq0 HO_5.out (fun _ hk => ⟨hk.1.1, ⟨hk.2, hk.1.2⟩⟩)⟩, ⟨by (try simp only [hl0_1]); (try simp only [hl5_1]); (try simp only [hl6_1]); (with_reducible repeat (first | apply Kd.qe0 | apply Kd.qd0 | apply Kd.qf0)); exact Kd.qq0 HO_6.out (fun _ hk => ⟨hk.1.1, ⟨hk.2, hk.1.2⟩⟩)⟩, ⟨by repeat (first | (with_reducible first | exact HK.out | apply Kept.alloc | apply Kept.drewN | apply Kept.drew) | exact HK.out)⟩, ⟨by repeat (first | (with_reducible first | exact HB.out | apply qc0 | apply qa0 | apply qb0) | exact HB.out)⟩⟩
   rw [if_neg c27] at H
   have c27b0 : decide (x34_1 < (l0.length : Int)) = false := decide_eq_false c27
   have hlx_ := c27b0
   (try rw [← hl0_1] at hlx_)
   have hly_ := c27b0
   (try rw [hl0_1] at hly_)
   clear c27
   obtain rfl := Option.some.inj H
   go_wp2
   first | go_end0 | ((try simp only [Exit.inBlock, Exit.then]); refine bodyPost_ret (results_none rfl _ _ _) rfl ?_)
   exact ⟨by first | rfl | (simp [errW_none, errW_some] <;> rfl) | (simp only [← hji5]; first | rfl | (simp [errW_none, errW_some] <;> rfl)) | (simp [*, errW_none, errW_some] <;> rfl), (by first | exact (by (with_reducible repeat (first | apply Kd.qe0 | apply Kd.qd0 | apply Kd.qf0)); exact Kd.qq0 HO_0.out (fun _ hk => hk.1)) | (simp only [hl0_1, hl5_1, hl6_1]; exact (by (with_reducible repeat (first | apply Kd.qe0 | apply Kd.qd0 | apply Kd.qf0)); exact Kd.qq0 HO_0.out (fun _ hk => hk.1)))), by repeat (first | (with_reducible first | exact HB.out | apply qc0 | apply qa0 | apply qb0) | exact HB.out), by repeat (first | (with_reducible first | exact HK.out | apply Kept.alloc | apply Kept.drewN | apply Kept.drew) | exact HK.out)⟩

end Go.Proofs.Ytdnhpicgjkddbaa.PFnExactStepDown
