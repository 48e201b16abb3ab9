/- Lines by a program (a changed copy of the kit's print: this repo's wip/tools): Go functions as Lean functions, and proofs that the calls answer so. -/
import Derived.Test.YtdnhpicgjkddbaaZPFnRolledx0
import Derived.Test.YtdnhpicgjkddbaaZPFnRolledx1
import Derived.Test.YtdnhpicgjkddbaaZPFnRolledx4
import Derived.Test.YtdnhpicgjkddbaaZPFnRolledx5
import Derived.Test.YtdnhpicgjkddbaaZPFnRolledx6
import Derived.Test.YtdnhpicgjkddbaaZPFnRolledx9
namespace Go.Proofs.Ytdnhpicgjkddbaa.PFnRolled
open Go.RowKit Go.Proofs.YtdnhpicgjkddbaaW.PrintWords Go.Proofs.YtdnhpicgjkddbaaW.PrintLast Go.Proofs.YtdnhpicgjkddbaaW.PrintMore
attribute [local go_sem] max2_int min2_int max_two min_two max_three min_three max_four min_four   -- for this text's walks alone
set_option linter.unusedVariables false
set_option linter.unusedSimpArgs false

/-! ### impl_Under: function 19 -/
mutual
def impl_Under.j0 : Nat → List (S30) → Int → List Int → Bool → Option (List Int)
 | 0, _, _, _, _ => none
 | k + 1, x0, x1, x5, x25 => if x25 = true then (some ([] : List Int)) else (impl_Under.l0 k x0 x1 x5 (([x1] : List Int)) (wrap64 (x1 + 1)))
def impl_Under.l0 : Nat → List (S30) → Int → List Int → List Int → Int → Option (List Int)
 | 0, _, _, _, _, _ => none
 | k + 1, x0, x1, x5, x7, x8 => if x8 < (x0.length : Int) then (if 0 ≤ x8 then (if x8 < (x5.length : Int) then (if 0 ≤ x1 then (if x1 < (x5.length : Int) then (if (rd x5 x8) > (rd x5 x1) then (if x7.length < 17592186044416 then (impl_Under.l0 k x0 x1 x5 (x7 ++ [x8]) (wrap64 (x8 + 1))) else (none)) else (some x7)) else (none)) else (none)) else (none)) else (none)) else (some x7)
end
def impl_Under.f (k : Nat) (l0 : List (S30)) (a1 : Int) : Option (List Int) := (impl_depths.f k l0).bind fun bt365 => (if bt365.2 = true then (if a1 < 0 then (impl_Under.j0 k l0 a1 bt365.1 true) else (impl_Under.j0 k l0 a1 bt365.1 (decide (a1 ≥ (l0.length : Int))))) else (impl_Under.j0 k l0 a1 bt365.1 true))
theorem impl_Under.mono_l : ∀ k, (∀ y0 y1 y2 y3, LeO (impl_Under.j0 k y0 y1 y2 y3) (impl_Under.j0 (k + 1) y0 y1 y2 y3)) ∧ (∀ y0 y1 y2 y3 y4, LeO (impl_Under.l0 k y0 y1 y2 y3 y4) (impl_Under.l0 (k + 1) y0 y1 y2 y3 y4))
 | 0 => ⟨fun _ _ _ _ r h => by simp [impl_Under.j0] at h, fun _ _ _ _ _ r h => by simp [impl_Under.l0] at h⟩
 | k + 1 => by
  obtain ⟨ih0, ih1⟩ := impl_Under.mono_l k
  refine ⟨?_, ?_⟩
  ·intro y0 y1 y2 y3
   unfold impl_Under.j0
   repeat' first
   | (with_reducible exact ih0 _ _ _ _)
   | (with_reducible exact ih1 _ _ _ _ _)
   | (with_reducible exact impl_depths.mono _ _)
   | (with_reducible exact LeO.refl _)
   | (with_reducible exact LeO.none _)
   | (with_reducible refine LeO.ite ?_ ?_)
   | (with_reducible refine LeO.bind ?_ (fun _ => ?_))
   | exact ih0 _ _ _ _
   | exact ih1 _ _ _ _ _
   | exact impl_depths.mono _ _
   | exact LeO.none _
   | refine LeO.ite ?_ ?_
   | refine LeO.bind ?_ (fun _ => ?_)
  ·intro y0 y1 y2 y3 y4
   unfold impl_Under.l0
   repeat' first
   | (with_reducible exact ih0 _ _ _ _)
   | (with_reducible exact ih1 _ _ _ _ _)
   | (with_reducible exact impl_depths.mono _ _)
   | (with_reducible exact LeO.refl _)
   | (with_reducible exact LeO.none _)
   | (with_reducible refine LeO.ite ?_ ?_)
   | (with_reducible refine LeO.bind ?_ (fun _ => ?_))
   | exact ih0 _ _ _ _
   | exact ih1 _ _ _ _ _
   | exact impl_depths.mono _ _
   | exact LeO.none _
   | refine LeO.ite ?_ ?_
   | refine LeO.bind ?_ (fun _ => ?_)
theorem impl_Under.mono : ∀ a0 a1 k, LeO (impl_Under.f k a0 a1) (impl_Under.f (k + 1) a0 a1) := by
 intro a0 a1 k
 obtain ⟨ih0, ih1⟩ := impl_Under.mono_l k
 unfold impl_Under.f
 repeat' first
   | (with_reducible exact ih0 _ _ _ _)
   | (with_reducible exact ih1 _ _ _ _ _)
   | (with_reducible exact impl_depths.mono _ _)
   | (with_reducible exact LeO.refl _)
   | (with_reducible exact LeO.none _)
   | (with_reducible refine LeO.ite ?_ ?_)
   | (with_reducible refine LeO.bind ?_ (fun _ => ?_))
   | exact ih0 _ _ _ _
   | exact ih1 _ _ _ _ _
   | exact impl_depths.mono _ _
   | exact LeO.none _
   | refine LeO.ite ?_ ?_
   | refine LeO.bind ?_ (fun _ => ?_)
set_option maxHeartbeats 8000000 in
set_option maxRecDepth 100000 in
theorem impl_Under.calls (k : Nat) (A0 : Option Addr) (c0 : Nat) (l0 : List (S30)) (a1 : Int) (r : List Int) (w : World) (hr0 : Kd.C k30 w A0 l0.length l0) (hc0 : l0.length ≤ c0) (h : impl_Under.f k l0 a1 = some r) :
  Calls Try.prog 19 #[.slice A0 l0.length c0, .int .i64 a1] w fun e w' => ∃ v0_ : Value, e = .returned (v0_) ∧ Kd.R (Kd.int .i64) 3 w' w.heap.size (fun _ => True) v0_ r ∧ Below w.heap.size w w' := by
 have HR0 := Aside0.mk hr0
 have HC0 := Aside0.mk hc0
 clear hr0 hc0
 have HB := Aside0.mk (Below.refl w.heap.size w)
 have H : ((impl_depths.f k l0).bind fun bt365 => (if bt365.2 = true then (if a1 < 0 then (impl_Under.j0 k l0 a1 bt365.1 true) else (impl_Under.j0 k l0 a1 bt365.1 (decide (a1 ≥ (l0.length : Int))))) else (impl_Under.j0 k l0 a1 bt365.1 true))) = some r := h
 clear h
 replace H := Option.bind_eq_some_iff.mp H
 obtain ⟨⟨t365, t366⟩, A30, H⟩ := H
 replace H : (if t366 = true then (if a1 < 0 then (impl_Under.j0 k l0 a1 t365 true) else (impl_Under.j0 k l0 a1 t365 (decide (a1 ≥ (l0.length : Int))))) else (impl_Under.j0 k l0 a1 t365 true)) = some r := H
 have A3 := Aside0.mk A30
 clear A30
 have HC4 := Aside0.mk H
 clear H
 go_enter Try.func19, Try.ntmps19
 go_upto_region 2 with (first | (go_at_call 78; (with_reducible refine (impl_depths.calls k _ _ l0 t365 t366 _ ?side1 ?side2 A3.out).mono ?_); (case side1 => repeat (first | exact HR0.out | (with_reducible refine Kd.qy0 ?_ _) | (with_reducible refine Kd.qx0 ?_ _) | (with_reducible refine Kd.qe1 ?_))); (case side2 => exact HC0.out); rintro e w5 ⟨v367, rfl, ho0, hb⟩; have n0_ := Aside0.mk (Kd.qg1 ho0 (qs0 (by repeat (first | (with_reducible first | exact HB.out | apply qb0 | apply qa0 | apply qc0) | exact HB.out)))); have n1_ := Aside0.mk (qt0 (by repeat (first | (with_reducible first | exact HB.out | apply qb0 | apply qa0 | apply qc0) | exact HB.out)) hb); clear HB; have HO368 := n0_; have HB := n1_; clear n0_ n1_; (try clear hb); (try clear hb2); (try clear hk); (try clear hi); (try clear ho0)))
 repeat (go_quiet (first | (go_at_call 78; (with_reducible refine (impl_depths.calls k _ _ l0 t365 t366 _ ?side1 ?side2 A3.out).mono ?_); (case side1 => repeat (first | exact HR0.out | (with_reducible refine Kd.qy0 ?_ _) | (with_reducible refine Kd.qx0 ?_ _) | (with_reducible refine Kd.qe1 ?_))); (case side2 => exact HC0.out); rintro e w5 ⟨v367, rfl, ho0, hb⟩; have n0_ := Aside0.mk (Kd.qg1 ho0 (qs0 (by repeat (first | (with_reducible first | exact HB.out | apply qb0 | apply qa0 | apply qc0) | exact HB.out)))); have n1_ := Aside0.mk (qt0 (by repeat (first | (with_reducible first | exact HB.out | apply qb0 | apply qa0 | apply qc0) | exact HB.out)) hb); clear HB; have HO368 := n0_; have HB := n1_; clear n0_ n1_; (try clear hb); (try clear hb2); (try clear hk); (try clear hi); (try clear ho0))); go_upto_region 2 with (first | (go_at_call 78; (with_reducible refine (impl_depths.calls k _ _ l0 t365 t366 _ ?side1 ?side2 A3.out).mono ?_); (case side1 => repeat (first | exact HR0.out | (with_reducible refine Kd.qy0 ?_ _) | (with_reducible refine Kd.qx0 ?_ _) | (with_reducible refine Kd.qe1 ?_))); (case side2 => exact HC0.out); rintro e w5 ⟨v367, rfl, ho0, hb⟩; have n0_ := Aside0.mk (Kd.qg1 ho0 (qs0 (by repeat (first | (with_reducible first | exact HB.out | apply qb0 | apply qa0 | apply qc0) | exact HB.out)))); have n1_ := Aside0.mk (qt0 (by repeat (first | (with_reducible first | exact HB.out | apply qb0 | apply qa0 | apply qc0) | exact HB.out)) hb); clear HB; have HO368 := n0_; have HB := n1_; clear n0_ n1_; (try clear hb); (try clear hb2); (try clear hk); (try clear hi); (try clear ho0))))
 (try simp only [Act.put, List.setIfInBounds_toArray, List.set_cons_zero, List.set_cons_succ])
 go_cut [25] (fun v25 wc => ∃ (kq : Nat) (x25_3 : Bool), v25 = .bool x25_3 ∧ Aside0 (impl_Under.j0 kq l0 a1 t365 x25_3 = some r) ∧ Aside0 (kq ≤ k) ∧ Aside0 (Kd.R (Kd.int .i64) 3 wc w.heap.size (fun _ => True) v367 t365) ∧ Aside0 (Below w.heap.size w wc))
 case first =>
  have H := HC4.out
  clear HC4
  by_cases c6 : t366 = true
  ·subst c6
   have H1 : (if a1 < 0 then (impl_Under.j0 k l0 a1 t365 true) else (impl_Under.j0 k l0 a1 t365 (decide (a1 ≥ (l0.length : Int))))) = some r := by rw [if_pos rfl] at H; exact H
   clear H
   have H := H1
   clear H1
   by_cases c7 : a1 < 0
   ·rw [if_pos c7] at H
    have c7b0 : decide (a1 < 0) = true := decide_eq_true c7
    clear c7
    (first | rw [c7b0] | (simp only [i64_w, i32_w]; rw [c7b0]) | skip)
    have H' := Aside0.mk H
    clear H
    go_wp2
    repeat (go_quiet (fail); try go_wp2)
    go_meet
    case rel => exact ⟨_, (true), (by first | rfl | (simp; done) | (simp [*]; done)), H', ⟨by first | omega | exact Nat.le_refl _⟩, ⟨by (with_reducible repeat (first | apply Kd.qh0 | apply Kd.qg0 | apply Kd.qm0)); exact HO368.out⟩, ⟨by repeat (first | (with_reducible first | exact HB.out | apply qb0 | apply qa0 | apply qc0) | exact HB.out)⟩⟩
   rw [if_neg c7] at H
   have c7b0 : decide (a1 < 0) = false := decide_eq_false c7
   clear c7
   (first | rw [c7b0] | (simp only [i64_w, i32_w]; rw [c7b0]) | skip)
   have H' := Aside0.mk H
   clear H
   go_wp2
   repeat (go_quiet (fail); try go_wp2)
   go_meet
   case rel => exact ⟨_, (decide (a1 ≥ (l0.length : Int))), (by first | rfl | (simp; done) | (simp [*]; done)), H', ⟨by first | omega | exact Nat.le_refl _⟩, ⟨by (with_reducible repeat (first | apply Kd.qh0 | apply Kd.qg0 | apply Kd.qm0)); exact HO368.out⟩, ⟨by repeat (first | (with_reducible first | exact HB.out | apply qb0 | apply qa0 | apply qc0) | exact HB.out)⟩⟩
  replace c6 := Bool.eq_false_iff.mpr c6
  subst c6
  have H1 : (impl_Under.j0 k l0 a1 t365 true) = some r := by rw [if_neg (show ¬ (false = true) by decide)] at H; exact H
  clear H
  have H := H1
  clear H1
  have H' := Aside0.mk H
  clear H
  go_wp2
  repeat (go_quiet (fail); try go_wp2)
  go_meet
  case rel => exact ⟨_, (true), (by first | rfl | (simp; done) | (simp [*]; done)), H', ⟨by first | omega | exact Nat.le_refl _⟩, ⟨by (with_reducible repeat (first | apply Kd.qh0 | apply Kd.qg0 | apply Kd.qm0)); exact HO368.out⟩, ⟨by repeat (first | (with_reducible first | exact HB.out | apply qb0 | apply qa0 | apply qc0) | exact HB.out)⟩⟩
 case rest =>
  clear HC4
  try clear c1
  try clear p2
  try clear c6
  try clear c7
  try clear c7b0
  obtain ⟨kq, x25_3, rfl, HA, HJ3, HO_5, HB⟩ := hcut
  cases kq with
  | zero => exact absurd HA.out (by simp [impl_Under.j0])
  | succ kj3 =>
   have H := HA.out
   clear HA
   simp only [impl_Under.j0] at H
   by_cases c8 : x25_3 = true
   ·subst c8
    have H1 : (some ([] : List Int)) = some r := by rw [if_pos rfl] at H; exact H
    clear H
    have H := H1
    clear H1
    obtain rfl := Option.some.inj H
    go_wp2
    repeat (go_quiet (fail); try go_wp2)
    go_ret
    exact ⟨_, by first | rfl | (simp [errW_none, errW_some] <;> rfl) | (simp [*, errW_none, errW_some] <;> rfl), by first | exact Kd.R_nil _ _ _ _ _ | exact Kd.N_nil _ _ _ _ _ | exact Kd.V_nil _ _ _ _ _ | exact Kd.Q_nil _ _ _ _ _ | exact Kd.S_nil _ _ _ _ _, by repeat (first | (with_reducible first | exact HB.out | apply qb0 | apply qa0 | apply qc0) | exact HB.out)⟩
   replace c8 := Bool.eq_false_iff.mpr c8
   subst c8
   have H1 : (impl_Under.l0 kj3 l0 a1 t365 (([a1] : List Int)) (wrap64 (a1 + 1))) = some r := by rw [if_neg (show ¬ (false = true) by decide)] at H; exact H
   clear H
   have H := H1
   clear H1
   obtain ⟨y369, hy369⟩ : ∃ y_ : List Int, y_ = (([a1] : List Int)) := ⟨_, rfl⟩
   replace H : (impl_Under.l0 kj3 l0 a1 t365 y369 (wrap64 (a1 + 1))) = some r := by first | (rw [hy369]; with_reducible exact H) | (have H2_ := (Option.bind_some _ _).symm.trans H; rw [hy369]; with_reducible exact H2_) | (have H2_ := (Option.bind_some _ _).symm.trans H; with_reducible exact H2_) | with_reducible exact H | (rw [hy369]; exact H) | exact H
   have Ny369 := Aside0.mk hy369
   clear hy369
   have H' := Aside0.mk H
   clear H
   go_wp2_with (first | ((with_reducible refine qa1 (N := 27) rfl ?_); (try (refine qd1 (by rfl) ?_; dsimp only)); refine Kd.R_lit (Kd.int .i64) _ 3 ?hg (N := 27) ?hd (xs := ([a1] : List Int)) (inner := [.int .i64 a1]) (ok := fun _ => True) (okp := fun _ => True) ?hr ?hp (fun _ hk => hk) trivial (Below.refl _ _) (Nat.le_refl _) (by simp) ?_; (case hd => rfl); (case hg => rfl); (case hr => first | (go_simp; done) | (go_simp; rfl)); (case hp => exact (Reps.one (show Kd.M (Kd.int .i64) _ _ _ a1 [.int .i64 a1] from rfl) (Reps.none _ _))); intro v370 w9 ho10 hb hg_ hnew_; clear hg_ hnew_; (first | rw [← Ny369.out] at ho10 | (simp only [Int.reduceToNat] at ho10; rw [← Ny369.out] at ho10)); have n0_ := Aside0.mk (Kd.R_elder' (by (with_reducible repeat (first | apply Kd.qh0 | apply Kd.qg0 | apply Kd.qm0)); exact HO_5.out) (Kd.R_base ho10) hb); have n1_ := Aside0.mk (Kd.qg1 (Kd.R_new' ho10 (Kd.R_lt (by (with_reducible repeat (first | apply Kd.qh0 | apply Kd.qg0 | apply Kd.qm0)); exact HO_5.out))) (qs0 (by repeat (first | (with_reducible first | exact HB.out | apply qb0 | apply qa0 | apply qc0) | exact HB.out)))); have n2_ := Aside0.mk (qt0 (by repeat (first | (with_reducible first | exact HB.out | apply qb0 | apply qa0 | apply qc0) | exact HB.out)) hb); clear HO_5; clear HB; have HO_5 := n0_; have HO371 := n1_; have HB := n2_; clear n0_ n1_ n2_; clear hb ho10))
   repeat (go_quiet (first | ((with_reducible refine qa1 (N := 27) rfl ?_); (try (refine qd1 (by rfl) ?_; dsimp only)); refine Kd.R_lit (Kd.int .i64) _ 3 ?hg (N := 27) ?hd (xs := ([a1] : List Int)) (inner := [.int .i64 a1]) (ok := fun _ => True) (okp := fun _ => True) ?hr ?hp (fun _ hk => hk) trivial (Below.refl _ _) (Nat.le_refl _) (by simp) ?_; (case hd => rfl); (case hg => rfl); (case hr => first | (go_simp; done) | (go_simp; rfl)); (case hp => exact (Reps.one (show Kd.M (Kd.int .i64) _ _ _ a1 [.int .i64 a1] from rfl) (Reps.none _ _))); intro v370 w9 ho10 hb hg_ hnew_; clear hg_ hnew_; (first | rw [← Ny369.out] at ho10 | (simp only [Int.reduceToNat] at ho10; rw [← Ny369.out] at ho10)); have n0_ := Aside0.mk (Kd.R_elder' (by (with_reducible repeat (first | apply Kd.qh0 | apply Kd.qg0 | apply Kd.qm0)); exact HO_5.out) (Kd.R_base ho10) hb); have n1_ := Aside0.mk (Kd.qg1 (Kd.R_new' ho10 (Kd.R_lt (by (with_reducible repeat (first | apply Kd.qh0 | apply Kd.qg0 | apply Kd.qm0)); exact HO_5.out))) (qs0 (by repeat (first | (with_reducible first | exact HB.out | apply qb0 | apply qa0 | apply qc0) | exact HB.out)))); have n2_ := Aside0.mk (qt0 (by repeat (first | (with_reducible first | exact HB.out | apply qb0 | apply qa0 | apply qc0) | exact HB.out)) hb); clear HO_5; clear HB; have HO_5 := n0_; have HO371 := n1_; have HB := n2_; clear n0_ n1_ n2_; clear hb ho10)); try go_wp2_with (first | ((with_reducible refine qa1 (N := 27) rfl ?_); (try (refine qd1 (by rfl) ?_; dsimp only)); refine Kd.R_lit (Kd.int .i64) _ 3 ?hg (N := 27) ?hd (xs := ([a1] : List Int)) (inner := [.int .i64 a1]) (ok := fun _ => True) (okp := fun _ => True) ?hr ?hp (fun _ hk => hk) trivial (Below.refl _ _) (Nat.le_refl _) (by simp) ?_; (case hd => rfl); (case hg => rfl); (case hr => first | (go_simp; done) | (go_simp; rfl)); (case hp => exact (Reps.one (show Kd.M (Kd.int .i64) _ _ _ a1 [.int .i64 a1] from rfl) (Reps.none _ _))); intro v370 w9 ho10 hb hg_ hnew_; clear hg_ hnew_; (first | rw [← Ny369.out] at ho10 | (simp only [Int.reduceToNat] at ho10; rw [← Ny369.out] at ho10)); have n0_ := Aside0.mk (Kd.R_elder' (by (with_reducible repeat (first | apply Kd.qh0 | apply Kd.qg0 | apply Kd.qm0)); exact HO_5.out) (Kd.R_base ho10) hb); have n1_ := Aside0.mk (Kd.qg1 (Kd.R_new' ho10 (Kd.R_lt (by (with_reducible repeat (first | apply Kd.qh0 | apply Kd.qg0 | apply Kd.qm0)); exact HO_5.out))) (qs0 (by repeat (first | (with_reducible first | exact HB.out | apply qb0 | apply qa0 | apply qc0) | exact HB.out)))); have n2_ := Aside0.mk (qt0 (by repeat (first | (with_reducible first | exact HB.out | apply qb0 | apply qa0 | apply qc0) | exact HB.out)) hb); clear HO_5; clear HB; have HO_5 := n0_; have HO371 := n1_; have HB := n2_; clear n0_ n1_ n2_; clear hb ho10)))
   go_loopg [7, 8] kj3 (fun kq v7 v8 w' => ∃ (x7_2 : List Int) (x8_2 : Int), v8 = .int .i64 x8_2 ∧ Aside0 (impl_Under.l0 kq l0 a1 t365 x7_2 x8_2 = some r) ∧ Aside0 (kq ≤ kj3) ∧ Aside0 (Kd.R (Kd.int .i64) 3 w' w.heap.size (fun k_ => some k_ ≠ (v7 : Value).ownBlock) v367 t365) ∧ Aside0 (Kd.R (Kd.int .i64) 3 w' w.heap.size (fun k_ => some k_ ≠ (v367 : Value).ownBlock) v7 x7_2) ∧ Aside0 (Below w.heap.size w w'))
   case atStart => exact ⟨(y369), (wrap64 (a1 + 1)), (by first | rfl | (simp; done) | (simp [*]; done)), H', ⟨Nat.le_refl _⟩, ⟨by (with_reducible repeat (first | apply Kd.qh0 | apply Kd.qg0 | apply Kd.qm0)); exact Kd.qu0 HO_5.out (fun _ hk => hk.2)⟩, ⟨by (with_reducible repeat (first | apply Kd.qh0 | apply Kd.qg0 | apply Kd.qm0)); exact Kd.qu0 HO371.out (fun _ hk => hk.2)⟩, ⟨by repeat (first | (with_reducible first | exact HB.out | apply qb0 | apply qa0 | apply qc0) | exact HB.out)⟩⟩
   case round =>
    clear H'
    try clear c1
    try clear p2
    try clear c6
    try clear p6
    try clear c7
    try clear c7b0
    try clear c8
    try clear p2
    obtain ⟨x7_2, x8_2, rfl, HA, HK2, HO_5, HO_7, HB⟩ := hrel
    cases gk with
    | zero => exact absurd HA.out (by simp [impl_Under.l0])
    | succ k2 =>
     have H := HA.out
     clear HA
     simp only [impl_Under.l0] at H
     by_cases c11 : x8_2 < (l0.length : Int)
     ·rw [if_pos c11] at H
      have c11b0 : decide (x8_2 < (l0.length : Int)) = true := decide_eq_true c11
      clear c11
      by_cases c12 : 0 ≤ x8_2
      case neg => rw [if_neg c12] at H; exact absurd H (by simp)
      rw [if_pos c12] at H
      have c12b0 : decide (0 ≤ x8_2) = true := decide_eq_true c12
      clear c12
      by_cases c13 : x8_2 < (t365.length : Int)
      case neg => rw [if_neg c13] at H; exact absurd H (by simp)
      rw [if_pos c13] at H
      have c13b0 : decide (x8_2 < (t365.length : Int)) = true := decide_eq_true c13
      clear c13
      by_cases c14 : 0 ≤ a1
      case neg => rw [if_neg c14] at H; exact absurd H (by simp)
      rw [if_pos c14] at H
      have c14b0 : decide (0 ≤ a1) = true := decide_eq_true c14
      clear c14
      by_cases c15 : a1 < (t365.length : Int)
      case neg => rw [if_neg c15] at H; exact absurd H (by simp)
      rw [if_pos c15] at H
      have c15b0 : decide (a1 < (t365.length : Int)) = true := decide_eq_true c15
      clear c15
      by_cases c16 : (rd t365 x8_2) > (rd t365 a1)
      ·rw [if_pos c16] at H
       have c16b0 : decide ((rd t365 a1) < (rd t365 x8_2)) = true := decide_eq_true c16
       clear c16
       by_cases c17 : x7_2.length < 17592186044416
       case neg => rw [if_neg c17] at H; exact absurd H (by simp)
       rw [if_pos c17] at H
       have LMc17 := Aside0.mk c17
       clear c17
       obtain ⟨y374, hy374⟩ : ∃ y_ : List Int, y_ = (x7_2 ++ [x8_2]) := ⟨_, rfl⟩
       replace H : (impl_Under.l0 k2 l0 a1 t365 y374 (wrap64 (x8_2 + 1))) = some r := by first | (rw [hy374]; with_reducible exact H) | (have H2_ := (Option.bind_some _ _).symm.trans H; rw [hy374]; with_reducible exact H2_) | (have H2_ := (Option.bind_some _ _).symm.trans H; with_reducible exact H2_) | with_reducible exact H | (rw [hy374]; exact H) | exact H
       have Ny374 := Aside0.mk hy374
       clear hy374
       have H' := Aside0.mk H
       clear H
       obtain ⟨Ao18, co18, eo18⟩ := Kd.qh1 HO_5.out
       subst eo18
       have p372 : 0 ≤ (x8_2 : Int) := of_decide_eq_true (by first | (with_reducible assumption) | assumption)
       have q372 : x8_2 < (t365.length : Int) := of_decide_eq_true (by first | (with_reducible assumption) | assumption)
       obtain ⟨ad372, e372, hx372_0⟩ := Kd.qr1 (Kd.qr0 HO_5.out).2.2 x8_2 p372 q372
       cases e372
       replace p372 := eq_true p372
       replace q372 := eq_true q372
       have p373 : 0 ≤ (a1 : Int) := of_decide_eq_true (by first | (with_reducible assumption) | assumption)
       have q373 : a1 < (t365.length : Int) := of_decide_eq_true (by first | (with_reducible assumption) | assumption)
       obtain ⟨ad373, e373, hx373_0⟩ := Kd.qr1 (Kd.qr0 HO_5.out).2.2 a1 p373 q373
       obtain rfl : ad372 = ad373 := (by injection e373)
       replace p373 := eq_true p373
       replace q373 := eq_true q373
       go_wp2_with (first | ((with_reducible refine qz0 (b := .append) (xs := #[.tmp 47, .tmp 49]) rfl ?_); (try (refine qd1 (by rfl) ?_; dsimp only)); at_builtin; refine Kd.qm1 (Kd.int .i64) (w0 := w) w.heap.size rfl (.tmp 47) (.tmp 49) 25 3 (.int .i64 0) 8 rfl Try.underlying25 info3 rfl (by decide) (by omega) u7 x7_2 x8_2 [.int .i64 x8_2] (fun k_ => some k_ ≠ (.slice (some ad372) t365.length co18 : Value).ownBlock) (fun _ => False) rfl rfl ?aP (fun _ hk => hk.elim) ?aF ?aO ?aB ?aS ?aL ?_; (case aP => exact rfl); (case aB => exact (by repeat (first | (with_reducible first | exact HB.out | apply qb0 | apply qa0 | apply qc0) | exact HB.out))); (case aF => exact (fun k_ hk => Kd.fresh' (Kd.R_lt (by (with_reducible repeat (first | apply Kd.qh0 | apply Kd.qg0 | apply Kd.qm0)); exact HO_5.out)) k_ hk)); (case aO => exact (by (with_reducible repeat (first | apply Kd.qh0 | apply Kd.qg0 | apply Kd.qm0)); exact HO_7.out)); (case aS => exact (qs0 (by repeat (first | (with_reducible first | exact HB.out | apply qb0 | apply qa0 | apply qc0) | exact HB.out)))); (case aL => have := LMc17.out; omega); intro v375 w19 ho hb hg hat; rw [← Ny374.out] at ho; have n0_ := Aside0.mk (Kd.R_after (ok := (fun _ => True)) (by (with_reducible repeat (first | apply Kd.qh0 | apply Kd.qg0 | apply Kd.qm0)); exact Kd.qu0 HO_5.out (fun _ hk => ⟨trivial, hk⟩)) hg hat); have n1_ := Aside0.mk (hb); have n2_ := Aside0.mk (ho); clear HO_5; clear HB; clear HO_7; have HO_5 := n0_; have HB := n1_; have HO376 := n2_; clear n0_ n1_ n2_; clear ho hb hg hat))
       repeat (go_quiet (first | ((with_reducible refine qz0 (b := .append) (xs := #[.tmp 47, .tmp 49]) rfl ?_); (try (refine qd1 (by rfl) ?_; dsimp only)); at_builtin; refine Kd.qm1 (Kd.int .i64) (w0 := w) w.heap.size rfl (.tmp 47) (.tmp 49) 25 3 (.int .i64 0) 8 rfl Try.underlying25 info3 rfl (by decide) (by omega) u7 x7_2 x8_2 [.int .i64 x8_2] (fun k_ => some k_ ≠ (.slice (some ad372) t365.length co18 : Value).ownBlock) (fun _ => False) rfl rfl ?aP (fun _ hk => hk.elim) ?aF ?aO ?aB ?aS ?aL ?_; (case aP => exact rfl); (case aB => exact (by repeat (first | (with_reducible first | exact HB.out | apply qb0 | apply qa0 | apply qc0) | exact HB.out))); (case aF => exact (fun k_ hk => Kd.fresh' (Kd.R_lt (by (with_reducible repeat (first | apply Kd.qh0 | apply Kd.qg0 | apply Kd.qm0)); exact HO_5.out)) k_ hk)); (case aO => exact (by (with_reducible repeat (first | apply Kd.qh0 | apply Kd.qg0 | apply Kd.qm0)); exact HO_7.out)); (case aS => exact (qs0 (by repeat (first | (with_reducible first | exact HB.out | apply qb0 | apply qa0 | apply qc0) | exact HB.out)))); (case aL => have := LMc17.out; omega); intro v375 w19 ho hb hg hat; rw [← Ny374.out] at ho; have n0_ := Aside0.mk (Kd.R_after (ok := (fun _ => True)) (by (with_reducible repeat (first | apply Kd.qh0 | apply Kd.qg0 | apply Kd.qm0)); exact Kd.qu0 HO_5.out (fun _ hk => ⟨trivial, hk⟩)) hg hat); have n1_ := Aside0.mk (hb); have n2_ := Aside0.mk (ho); clear HO_5; clear HB; clear HO_7; have HO_5 := n0_; have HB := n1_; have HO376 := n2_; clear n0_ n1_ n2_; clear ho hb hg hat)); try go_wp2_with (first | ((with_reducible refine qz0 (b := .append) (xs := #[.tmp 47, .tmp 49]) rfl ?_); (try (refine qd1 (by rfl) ?_; dsimp only)); at_builtin; refine Kd.qm1 (Kd.int .i64) (w0 := w) w.heap.size rfl (.tmp 47) (.tmp 49) 25 3 (.int .i64 0) 8 rfl Try.underlying25 info3 rfl (by decide) (by omega) u7 x7_2 x8_2 [.int .i64 x8_2] (fun k_ => some k_ ≠ (.slice (some ad372) t365.length co18 : Value).ownBlock) (fun _ => False) rfl rfl ?aP (fun _ hk => hk.elim) ?aF ?aO ?aB ?aS ?aL ?_; (case aP => exact rfl); (case aB => exact (by repeat (first | (with_reducible first | exact HB.out | apply qb0 | apply qa0 | apply qc0) | exact HB.out))); (case aF => exact (fun k_ hk => Kd.fresh' (Kd.R_lt (by (with_reducible repeat (first | apply Kd.qh0 | apply Kd.qg0 | apply Kd.qm0)); exact HO_5.out)) k_ hk)); (case aO => exact (by (with_reducible repeat (first | apply Kd.qh0 | apply Kd.qg0 | apply Kd.qm0)); exact HO_7.out)); (case aS => exact (qs0 (by repeat (first | (with_reducible first | exact HB.out | apply qb0 | apply qa0 | apply qc0) | exact HB.out)))); (case aL => have := LMc17.out; omega); intro v375 w19 ho hb hg hat; rw [← Ny374.out] at ho; have n0_ := Aside0.mk (Kd.R_after (ok := (fun _ => True)) (by (with_reducible repeat (first | apply Kd.qh0 | apply Kd.qg0 | apply Kd.qm0)); exact Kd.qu0 HO_5.out (fun _ hk => ⟨trivial, hk⟩)) hg hat); have n1_ := Aside0.mk (hb); have n2_ := Aside0.mk (ho); clear HO_5; clear HB; clear HO_7; have HO_5 := n0_; have HB := n1_; have HO376 := n2_; clear n0_ n1_ n2_; clear ho hb hg hat)))
       go_roundg k2
       case measure => have := HJ3.out; have := HK2.out; omega
       case rel => exact ⟨(y374), (wrap64 (x8_2 + 1)), (by first | rfl | (simp; done) | (simp [*]; done)), H', ⟨by have := HJ3.out; have := HK2.out; omega⟩, ⟨by (with_reducible repeat (first | apply Kd.qh0 | apply Kd.qg0 | apply Kd.qm0)); exact Kd.qu0 HO_5.out (fun _ hk => hk.2)⟩, ⟨by (with_reducible repeat (first | apply Kd.qh0 | apply Kd.qg0 | apply Kd.qm0)); exact HO376.out⟩, ⟨by repeat (first | (with_reducible first | exact HB.out | apply qb0 | apply qa0 | apply qc0) | exact HB.out)⟩⟩
      rw [if_neg c16] at H
      have c16b0 : decide ((rd t365 a1) < (rd t365 x8_2)) = false := decide_eq_false c16
      clear c16
      obtain rfl := Option.some.inj H
      obtain ⟨Ao20, co20, eo20⟩ := Kd.qh1 HO_5.out
      subst eo20
      have p372 : 0 ≤ (x8_2 : Int) := of_decide_eq_true (by first | (with_reducible assumption) | assumption)
      have q372 : x8_2 < (t365.length : Int) := of_decide_eq_true (by first | (with_reducible assumption) | assumption)
      obtain ⟨ad372, e372, hx372_0⟩ := Kd.qr1 (Kd.qr0 HO_5.out).2.2 x8_2 p372 q372
      cases e372
      replace p372 := eq_true p372
      replace q372 := eq_true q372
      have p373 : 0 ≤ (a1 : Int) := of_decide_eq_true (by first | (with_reducible assumption) | assumption)
      have q373 : a1 < (t365.length : Int) := of_decide_eq_true (by first | (with_reducible assumption) | assumption)
      obtain ⟨ad373, e373, hx373_0⟩ := Kd.qr1 (Kd.qr0 HO_5.out).2.2 a1 p373 q373
      obtain rfl : ad372 = ad373 := (by injection e373)
      replace p373 := eq_true p373
      replace q373 := eq_true q373
      go_wp2
      repeat (go_quiet (fail); try go_wp2)
      go_ret
      exact ⟨_, by first | rfl | (simp [errW_none, errW_some] <;> rfl) | (simp [*, errW_none, errW_some] <;> rfl), by (with_reducible repeat (first | apply Kd.qh0 | apply Kd.qg0 | apply Kd.qm0)); exact Kd.qu0 HO_7.out (fun _ hk => trivial), by repeat (first | (with_reducible first | exact HB.out | apply qb0 | apply qa0 | apply qc0) | exact HB.out)⟩
     rw [if_neg c11] at H
     have c11b0 : decide (x8_2 < (l0.length : Int)) = false := decide_eq_false c11
     clear c11
     obtain rfl := Option.some.inj H
     go_wp2
     repeat (go_quiet (fail); try go_wp2)
     go_ret
     exact ⟨_, by first | rfl | (simp [errW_none, errW_some] <;> rfl) | (simp [*, errW_none, errW_some] <;> rfl), by (with_reducible repeat (first | apply Kd.qh0 | apply Kd.qg0 | apply Kd.qm0)); exact Kd.qu0 HO_7.out (fun _ hk => trivial), by repeat (first | (with_reducible first | exact HB.out | apply qb0 | apply qa0 | apply qc0) | exact HB.out)⟩

/-! ### laws_sum: function 20 -/
def laws_sum.l0 : Nat → List Int → Int → Int → Option (Int)
 | 0, _, _, _ => none
 | k + 1, x0, x3, x4 => if x4 < (x0.length : Int) then (if 0 ≤ x4 then (laws_sum.l0 k x0 (wrap64 (x3 + (rd x0 x4))) (wrap64 (x4 + 1))) else (none)) else (some x3)
def laws_sum.f (k : Nat) (l0 : List Int) : Option (Int) := laws_sum.l0 k l0 0 0
theorem laws_sum.mono_l : ∀ k, (∀ y0 y1 y2, LeO (laws_sum.l0 k y0 y1 y2) (laws_sum.l0 (k + 1) y0 y1 y2))
 | 0 => fun _ _ _ r h => by simp [laws_sum.l0] at h
 | k + 1 => by
  have ih0 := laws_sum.mono_l k
  ·intro y0 y1 y2
   unfold laws_sum.l0
   repeat' first
   | (with_reducible exact ih0 _ _ _)
   | (with_reducible exact LeO.refl _)
   | (with_reducible exact LeO.none _)
   | (with_reducible refine LeO.ite ?_ ?_)
   | (with_reducible refine LeO.bind ?_ (fun _ => ?_))
   | exact ih0 _ _ _
   | exact LeO.none _
   | refine LeO.ite ?_ ?_
   | refine LeO.bind ?_ (fun _ => ?_)
theorem laws_sum.mono : ∀ a0 k, LeO (laws_sum.f k a0) (laws_sum.f (k + 1) a0) := by
 intro a0 k
 have ih0 := laws_sum.mono_l k
 unfold laws_sum.f
 repeat' first
   | (with_reducible exact ih0 _ _ _)
   | (with_reducible exact LeO.refl _)
   | (with_reducible exact LeO.none _)
   | (with_reducible refine LeO.ite ?_ ?_)
   | (with_reducible refine LeO.bind ?_ (fun _ => ?_))
   | exact ih0 _ _ _
   | exact LeO.none _
   | refine LeO.ite ?_ ?_
   | refine LeO.bind ?_ (fun _ => ?_)
set_option maxHeartbeats 8000000 in
set_option maxRecDepth 100000 in
theorem laws_sum.calls (k : Nat) (A0 : Option Addr) (c0 : Nat) (l0 : List Int) (r : Int) (w : World) (hr0 : Kd.C (Kd.int .i64) w A0 l0.length l0) (hc0 : l0.length ≤ c0) (h : laws_sum.f k l0 = some r) :
  Calls Try.prog 20 #[.slice A0 l0.length c0] w fun e w' => e = .returned (.int .i64 r) ∧ Drawn0 w w' := by
 have HR0 := Aside0.mk hr0
 have HC0 := Aside0.mk hc0
 clear hr0 hc0
 have H : (laws_sum.l0 k l0 0 0) = some r := h
 clear h
 have H' := Aside0.mk H
 clear H
 go_enter Try.func20, Try.ntmps20
 go_wp2
 go_loopg [3, 4] k (fun kq v3 v4 w' => ∃ (x3_1 : Int) (x4_1 : Int), v3 = .int .i64 x3_1 ∧ v4 = .int .i64 x4_1 ∧ Aside0 (laws_sum.l0 kq l0 x3_1 x4_1 = some r) ∧ Aside0 (kq ≤ k) ∧ Drawn0 w w')
 case atStart => exact ⟨(0), (0), (by first | rfl | (simp; done) | (simp [*]; done)), (by first | rfl | (simp; done) | (simp [*]; done)), H', ⟨Nat.le_refl _⟩, by repeat (first | exact Drawn0.refl _ | apply Drawn0.step)⟩
 case round =>
  clear H'
  obtain ⟨x3_1, x4_1, rfl, rfl, HA, HK1, ⟨m1, rfl⟩⟩ := hrel
  cases gk with
  | zero => exact absurd HA.out (by simp [laws_sum.l0])
  | succ k1 =>
   have H := HA.out
   clear HA
   simp only [laws_sum.l0] at H
   by_cases c2 : x4_1 < (l0.length : Int)
   ·rw [if_pos c2] at H
    have c2b0 : decide (x4_1 < (l0.length : Int)) = true := decide_eq_true c2
    clear c2
    by_cases c3 : 0 ≤ x4_1
    case neg => rw [if_neg c3] at H; exact absurd H (by simp)
    rw [if_pos c3] at H
    have c3b0 : decide (0 ≤ x4_1) = true := decide_eq_true c3
    clear c3
    have H' := Aside0.mk H
    clear H
    have p377 : 0 ≤ (x4_1 : Int) := of_decide_eq_true (by first | (with_reducible assumption) | assumption)
    have q377 : x4_1 < (l0.length : Int) := of_decide_eq_true (by first | (with_reducible assumption) | assumption)
    obtain ⟨ad377, e377, hx377_0⟩ := Kd.qr1 HR0.out x4_1 p377 q377
    cases e377
    replace p377 := eq_true p377
    replace q377 := eq_true q377
    go_wp2
    go_roundg k1
    case measure => have := HK1.out; omega
    case rel => exact ⟨(wrap64 (x3_1 + (rd l0 x4_1))), (wrap64 (x4_1 + 1)), (by first | rfl | (simp; done) | (simp [*]; done)), (by first | rfl | (simp; done) | (simp [*]; done)), H', ⟨by have := HK1.out; omega⟩, by repeat (first | exact Drawn0.refl _ | apply Drawn0.step)⟩
   rw [if_neg c2] at H
   have c2b0 : decide (x4_1 < (l0.length : Int)) = false := decide_eq_false c2
   clear c2
   obtain rfl := Option.some.inj H
   go_wp2
   go_ret
   exact ⟨by first | rfl | (simp; done) | (simp [*]; done), by repeat (first | exact Drawn0.refl _ | apply Drawn0.step)⟩

/-! ### laws_FnRolled: function 3 -/
mutual
def laws_FnRolled.l0 : Nat → List (S30) → List Int → List Int → Int → Int → Option (Bool)
 | 0, _, _, _, _, _ => none
 | k + 1, x3, x4, x5, x6, x7 => if x7 < (x3.length : Int) then (if 0 ≤ x7 then (if ((rd_T30 x3 x7).f1) < 0 then (if x7 < (x5.length : Int) then (laws_FnRolled.j1 k x3 x4 x5 (wrap64 (x6 + (rd x5 x7))) x7) else (none)) else (laws_FnRolled.j1 k x3 x4 x5 x6 x7)) else (none)) else ((laws_sum.f k x4).bind fun t391 => (some (x6 == t391)))
def laws_FnRolled.j1 : Nat → List (S30) → List Int → List Int → Int → Int → Option (Bool)
 | 0, _, _, _, _, _ => none
 | k + 1, x3, x4, x5, x6, x7 => (impl_Under.f k x3 x7).bind fun t394 => (laws_FnRolled.l1 k x3 x4 x5 x6 x7 t394 0 0)
def laws_FnRolled.l1 : Nat → List (S30) → List Int → List Int → Int → Int → List Int → Int → Int → Option (Bool)
 | 0, _, _, _, _, _, _, _, _ => none
 | k + 1, x3, x4, x5, x6, x7, x8, x9, x10 => if x10 < (x8.length : Int) then (if 0 ≤ x10 then (if 0 ≤ (rd x8 x10) then (if (rd x8 x10) < (x4.length : Int) then (laws_FnRolled.l1 k x3 x4 x5 x6 x7 x8 (wrap64 (x9 + (rd x4 (rd x8 x10)))) (wrap64 (x10 + 1))) else (none)) else (none)) else (none)) else (if 0 ≤ x7 then (if x7 < (x5.length : Int) then (if x9 = (rd x5 x7) then (if (x8.length : Int) = 0 then (some false) else (laws_FnRolled.l0 k x3 x4 x5 x6 (wrap64 (x7 + 1)))) else (some false)) else (none)) else (none))
end
def laws_FnRolled.f (k : Nat) (l0 : List Int) : Option (Bool) := (laws_big.f l0).bind fun t378 => (if t378 = true then (some true) else ((spec_DrawRoll.f k l0).bind fun bt379 => ((impl_Roll.f k bt379.1 bt379.2).bind fun t385 => ((spec_Roll.f k bt379.1 bt379.2).bind fun t388 => (if (t388.length : Int) = 0 then (some ((t385.length : Int) == 0)) else (if (t385.length : Int) = (bt379.2.length : Int) then (laws_FnRolled.l0 k bt379.1 bt379.2 t385 0 0) else (some false)))))))
theorem laws_FnRolled.mono_l : ∀ k, (∀ y0 y1 y2 y3 y4, LeO (laws_FnRolled.l0 k y0 y1 y2 y3 y4) (laws_FnRolled.l0 (k + 1) y0 y1 y2 y3 y4)) ∧ (∀ y0 y1 y2 y3 y4, LeO (laws_FnRolled.j1 k y0 y1 y2 y3 y4) (laws_FnRolled.j1 (k + 1) y0 y1 y2 y3 y4)) ∧ (∀ y0 y1 y2 y3 y4 y5 y6 y7, LeO (laws_FnRolled.l1 k y0 y1 y2 y3 y4 y5 y6 y7) (laws_FnRolled.l1 (k + 1) y0 y1 y2 y3 y4 y5 y6 y7))
 | 0 => ⟨fun _ _ _ _ _ r h => by simp [laws_FnRolled.l0] at h, fun _ _ _ _ _ r h => by simp [laws_FnRolled.j1] at h, fun _ _ _ _ _ _ _ _ r h => by simp [laws_FnRolled.l1] at h⟩
 | k + 1 => by
  obtain ⟨ih0, ih1, ih2⟩ := laws_FnRolled.mono_l k
  refine ⟨?_, ?_, ?_⟩
  ·intro y0 y1 y2 y3 y4
   unfold laws_FnRolled.l0
   repeat' first
   | (with_reducible exact ih0 _ _ _ _ _)
   | (with_reducible exact ih1 _ _ _ _ _)
   | (with_reducible exact ih2 _ _ _ _ _ _ _ _)
   | (with_reducible exact impl_Roll.mono _ _ _)
   | (with_reducible exact impl_Under.mono _ _ _)
   | (with_reducible exact laws_sum.mono _ _)
   | (with_reducible exact spec_DrawRoll.mono _ _)
   | (with_reducible exact spec_Roll.mono _ _ _)
   | (with_reducible exact LeO.refl _)
   | (with_reducible exact LeO.none _)
   | (with_reducible refine LeO.ite ?_ ?_)
   | (with_reducible refine LeO.bind ?_ (fun _ => ?_))
   | exact ih0 _ _ _ _ _
   | exact ih1 _ _ _ _ _
   | exact ih2 _ _ _ _ _ _ _ _
   | exact impl_Roll.mono _ _ _
   | exact impl_Under.mono _ _ _
   | exact laws_sum.mono _ _
   | exact spec_DrawRoll.mono _ _
   | exact spec_Roll.mono _ _ _
   | exact LeO.none _
   | refine LeO.ite ?_ ?_
   | refine LeO.bind ?_ (fun _ => ?_)
  ·intro y0 y1 y2 y3 y4
   unfold laws_FnRolled.j1
   repeat' first
   | (with_reducible exact ih0 _ _ _ _ _)
   | (with_reducible exact ih1 _ _ _ _ _)
   | (with_reducible exact ih2 _ _ _ _ _ _ _ _)
   | (with_reducible exact impl_Roll.mono _ _ _)
   | (with_reducible exact impl_Under.mono _ _ _)
   | (with_reducible exact laws_sum.mono _ _)
   | (with_reducible exact spec_DrawRoll.mono _ _)
   | (with_reducible exact spec_Roll.mono _ _ _)
   | (with_reducible exact LeO.refl _)
   | (with_reducible exact LeO.none _)
   | (with_reducible refine LeO.ite ?_ ?_)
   | (with_reducible refine LeO.bind ?_ (fun _ => ?_))
   | exact ih0 _ _ _ _ _
   | exact ih1 _ _ _ _ _
   | exact ih2 _ _ _ _ _ _ _ _
   | exact impl_Roll.mono _ _ _
   | exact impl_Under.mono _ _ _
   | exact laws_sum.mono _ _
   | exact spec_DrawRoll.mono _ _
   | exact spec_Roll.mono _ _ _
   | exact LeO.none _
   | refine LeO.ite ?_ ?_
   | refine LeO.bind ?_ (fun _ => ?_)
  ·intro y0 y1 y2 y3 y4 y5 y6 y7
   unfold laws_FnRolled.l1
   repeat' first
   | (with_reducible exact ih0 _ _ _ _ _)
   | (with_reducible exact ih1 _ _ _ _ _)
   | (with_reducible exact ih2 _ _ _ _ _ _ _ _)
   | (with_reducible exact impl_Roll.mono _ _ _)
   | (with_reducible exact impl_Under.mono _ _ _)
   | (with_reducible exact laws_sum.mono _ _)
   | (with_reducible exact spec_DrawRoll.mono _ _)
   | (with_reducible exact spec_Roll.mono _ _ _)
   | (with_reducible exact LeO.refl _)
   | (with_reducible exact LeO.none _)
   | (with_reducible refine LeO.ite ?_ ?_)
   | (with_reducible refine LeO.bind ?_ (fun _ => ?_))
   | exact ih0 _ _ _ _ _
   | exact ih1 _ _ _ _ _
   | exact ih2 _ _ _ _ _ _ _ _
   | exact impl_Roll.mono _ _ _
   | exact impl_Under.mono _ _ _
   | exact laws_sum.mono _ _
   | exact spec_DrawRoll.mono _ _
   | exact spec_Roll.mono _ _ _
   | exact LeO.none _
   | refine LeO.ite ?_ ?_
   | refine LeO.bind ?_ (fun _ => ?_)
theorem laws_FnRolled.mono : ∀ a0 k, LeO (laws_FnRolled.f k a0) (laws_FnRolled.f (k + 1) a0) := by
 intro a0 k
 obtain ⟨ih0, ih1, ih2⟩ := laws_FnRolled.mono_l k
 unfold laws_FnRolled.f
 repeat' first
   | (with_reducible exact ih0 _ _ _ _ _)
   | (with_reducible exact ih1 _ _ _ _ _)
   | (with_reducible exact ih2 _ _ _ _ _ _ _ _)
   | (with_reducible exact impl_Roll.mono _ _ _)
   | (with_reducible exact impl_Under.mono _ _ _)
   | (with_reducible exact laws_sum.mono _ _)
   | (with_reducible exact spec_DrawRoll.mono _ _)
   | (with_reducible exact spec_Roll.mono _ _ _)
   | (with_reducible exact LeO.refl _)
   | (with_reducible exact LeO.none _)
   | (with_reducible refine LeO.ite ?_ ?_)
   | (with_reducible refine LeO.bind ?_ (fun _ => ?_))
   | exact ih0 _ _ _ _ _
   | exact ih1 _ _ _ _ _
   | exact ih2 _ _ _ _ _ _ _ _
   | exact impl_Roll.mono _ _ _
   | exact impl_Under.mono _ _ _
   | exact laws_sum.mono _ _
   | exact spec_DrawRoll.mono _ _
   | exact spec_Roll.mono _ _ _
   | exact LeO.none _
   | refine LeO.ite ?_ ?_
   | refine LeO.bind ?_ (fun _ => ?_)
set_option maxHeartbeats 8000000 in
set_option maxRecDepth 100000 in
theorem laws_FnRolled.calls (k : Nat) (A0 : Option Addr) (c0 : Nat) (l0 : List Int) (r : Bool) (w : World) (hr0 : Kd.C (Kd.int .u8) w A0 l0.length l0) (hc0 : l0.length ≤ c0) (h : laws_FnRolled.f k l0 = some r) :
  Calls Try.prog 3 #[.slice A0 l0.length c0] w fun e w' => e = .returned (.bool r) ∧ Below w.heap.size w w' := by
 have HR0 := Aside0.mk hr0
 have HC0 := Aside0.mk hc0
 clear hr0 hc0
 have HB := Aside0.mk (Below.refl w.heap.size w)
 have H : ((laws_big.f l0).bind fun t378 => (if t378 = true then (some true) else ((spec_DrawRoll.f k l0).bind fun bt379 => ((impl_Roll.f k bt379.1 bt379.2).bind fun t385 => ((spec_Roll.f k bt379.1 bt379.2).bind fun t388 => (if (t388.length : Int) = 0 then (some ((t385.length : Int) == 0)) else (if (t385.length : Int) = (bt379.2.length : Int) then (laws_FnRolled.l0 k bt379.1 bt379.2 t385 0 0) else (some false)))))))) = some r := h
 clear h
 replace H := Option.bind_eq_some_iff.mp H
 obtain ⟨t378, A20, H⟩ := H
 replace H : (if t378 = true then (some true) else ((spec_DrawRoll.f k l0).bind fun bt379 => ((impl_Roll.f k bt379.1 bt379.2).bind fun t385 => ((spec_Roll.f k bt379.1 bt379.2).bind fun t388 => (if (t388.length : Int) = 0 then (some ((t385.length : Int) == 0)) else (if (t385.length : Int) = (bt379.2.length : Int) then (laws_FnRolled.l0 k bt379.1 bt379.2 t385 0 0) else (some false))))))) = some r := H
 have A2 := Aside0.mk A20
 clear A20
 by_cases c3 : t378 = true
 ·subst c3
  have H1 : (some true) = some r := by rw [if_pos rfl] at H; exact H
  clear H
  have H := H1
  clear H1
  obtain rfl := Option.some.inj H
  go_enter Try.func3, Try.ntmps3
  go_wp2_with (first | ((with_reducible refine qp0 (f := 15) rfl ?_); refine qw0 (some 12) rfl rfl Try.func15 (by kernel_rfl) rfl #[.slice A0 l0.length c0] rfl (by (try simp only [List.map_toArray, List.map_cons, List.map_nil]); first | done | rfl | (simp only [List.length_drop, List.length_take]; rfl)) ?_; (with_reducible refine (laws_big.calls _ _ l0 true _ ?side1 ?side2 A2.out).mono ?_); (case side1 => repeat (first | exact HR0.out | (with_reducible refine Kd.qy0 ?_ _) | (with_reducible refine Kd.qx0 ?_ _) | (with_reducible refine Kd.qe1 ?_))); (case side2 => exact HC0.out); rintro e w' ⟨rfl, ⟨nd, rfl⟩⟩; refine ⟨_, rfl, ?_⟩))
  go_ret
  exact ⟨by first | rfl | (simp [errW_none, errW_some] <;> rfl) | (simp [*, errW_none, errW_some] <;> rfl), by repeat (first | (with_reducible first | exact HB.out | apply qb0 | apply qa0 | apply qc0) | exact HB.out)⟩
 replace c3 := Bool.eq_false_iff.mpr c3
 subst c3
 have H1 : ((spec_DrawRoll.f k l0).bind fun bt379 => ((impl_Roll.f k bt379.1 bt379.2).bind fun t385 => ((spec_Roll.f k bt379.1 bt379.2).bind fun t388 => (if (t388.length : Int) = 0 then (some ((t385.length : Int) == 0)) else (if (t385.length : Int) = (bt379.2.length : Int) then (laws_FnRolled.l0 k bt379.1 bt379.2 t385 0 0) else (some false)))))) = some r := by rw [if_neg (show ¬ (false = true) by decide)] at H; exact H
 clear H
 have H := H1
 clear H1
 replace H := Option.bind_eq_some_iff.mp H
 obtain ⟨⟨t379, t380⟩, A40, H⟩ := H
 replace H : ((impl_Roll.f k t379 t380).bind fun t385 => ((spec_Roll.f k t379 t380).bind fun t388 => (if (t388.length : Int) = 0 then (some ((t385.length : Int) == 0)) else (if (t385.length : Int) = (t380.length : Int) then (laws_FnRolled.l0 k t379 t380 t385 0 0) else (some false))))) = some r := H
 have A4 := Aside0.mk A40
 clear A40
 replace H := Option.bind_eq_some_iff.mp H
 obtain ⟨t385, A50, H⟩ := H
 replace H : ((spec_Roll.f k t379 t380).bind fun t388 => (if (t388.length : Int) = 0 then (some ((t385.length : Int) == 0)) else (if (t385.length : Int) = (t380.length : Int) then (laws_FnRolled.l0 k t379 t380 t385 0 0) else (some false)))) = some r := H
 have A5 := Aside0.mk A50
 clear A50
 replace H := Option.bind_eq_some_iff.mp H
 obtain ⟨t388, A60, H⟩ := H
 replace H : (if (t388.length : Int) = 0 then (some ((t385.length : Int) == 0)) else (if (t385.length : Int) = (t380.length : Int) then (laws_FnRolled.l0 k t379 t380 t385 0 0) else (some false))) = some r := H
 have A6 := Aside0.mk A60
 clear A60
 by_cases c7 : (t388.length : Int) = 0
 ·rw [if_pos c7] at H
  have c7b0 : ((t388.length : Int) == 0) = true := beq_iff_eq.mpr c7
  have c7b1 : ((t388.length : Int) != 0) = false := bne_eq_false_iff_eq.mpr c7
  clear c7
  obtain rfl := Option.some.inj H
  go_enter Try.func3, Try.ntmps3
  go_wp2_with (first | ((with_reducible refine qp0 (f := 15) rfl ?_); refine qw0 (some 12) rfl rfl Try.func15 (by kernel_rfl) rfl #[.slice A0 l0.length c0] rfl (by (try simp only [List.map_toArray, List.map_cons, List.map_nil]); first | done | rfl | (simp only [List.length_drop, List.length_take]; rfl)) ?_; (with_reducible refine (laws_big.calls _ _ l0 false _ ?side1 ?side2 A2.out).mono ?_); (case side1 => repeat (first | exact HR0.out | (with_reducible refine Kd.qy0 ?_ _) | (with_reducible refine Kd.qx0 ?_ _) | (with_reducible refine Kd.qe1 ?_))); (case side2 => exact HC0.out); rintro e w' ⟨rfl, ⟨nd, rfl⟩⟩; refine ⟨_, rfl, ?_⟩) | ((with_reducible refine qp0 (f := 16) rfl ?_); refine qw0 (some 15) rfl rfl Try.func16 (by kernel_rfl) rfl #[.slice A0 l0.length c0] rfl (by (try simp only [List.map_toArray, List.map_cons, List.map_nil]); first | done | rfl | (simp only [List.length_drop, List.length_take]; rfl)) ?_; (with_reducible refine (spec_DrawRoll.calls k _ _ l0 t379 t380 _ ?side1 ?side2 A4.out).mono ?_); (case side1 => repeat (first | exact HR0.out | (with_reducible refine Kd.qy0 ?_ _) | (with_reducible refine Kd.qx0 ?_ _) | (with_reducible refine Kd.qe1 ?_))); (case side2 => exact HC0.out); rintro e w8 ⟨v381, v383, rfl, ho0, ho1, hb⟩; refine ⟨_, rfl, ?_⟩; have n0_ := Aside0.mk (Kd.qg1 ho0 (qs0 (by repeat (first | (with_reducible first | exact HB.out | apply qb0 | apply qa0 | apply qc0) | exact HB.out)))); have n1_ := Aside0.mk (Kd.qg1 ho1 (qs0 (by repeat (first | (with_reducible first | exact HB.out | apply qb0 | apply qa0 | apply qc0) | exact HB.out)))); have n2_ := Aside0.mk (qt0 (by repeat (first | (with_reducible first | exact HB.out | apply qb0 | apply qa0 | apply qc0) | exact HB.out)) hb); clear HB; have HO382 := n0_; have HO384 := n1_; have HB := n2_; clear n0_ n1_ n2_; (try clear hb); (try clear hb2); (try clear hk); (try clear hi); (try clear ho0); (try clear ho1); obtain ⟨Ao9, co9, eo9⟩ := Kd.qh1 HO382.out; subst eo9; obtain ⟨Ao10, co10, eo10⟩ := Kd.qh1 HO384.out; subst eo10) | ((with_reducible refine qp0 (f := 17) rfl ?_); refine qw0 (some 20) rfl rfl Try.func17 (by kernel_rfl) rfl #[.slice Ao9 t379.length co9, .slice Ao10 t380.length co10] rfl (by (try simp only [List.map_toArray, List.map_cons, List.map_nil]); first | done | rfl | (simp only [List.length_drop, List.length_take]; rfl)) ?_; (with_reducible refine (impl_Roll.calls k _ _ t379 _ _ t380 t385 _ ?side1 ?side2 ?side3 ?side4 A5.out).mono ?_); (case side1 => repeat (first | exact (Kd.qr0 HO382.out).2.2 | (with_reducible refine Kd.qy0 ?_ _) | (with_reducible refine Kd.qx0 ?_ _) | (with_reducible refine Kd.qe1 ?_))); (case side2 => exact (Kd.qr0 HO382.out).2.1); (case side3 => repeat (first | exact (Kd.qr0 HO384.out).2.2 | (with_reducible refine Kd.qy0 ?_ _) | (with_reducible refine Kd.qx0 ?_ _) | (with_reducible refine Kd.qe1 ?_))); (case side4 => exact (Kd.qr0 HO384.out).2.1); rintro e w11 ⟨v386, rfl, ho0, hb⟩; refine ⟨_, rfl, ?_⟩; have n0_ := Aside0.mk (Kd.ql1 (by (with_reducible repeat (first | apply Kd.qh0 | apply Kd.qg0 | apply Kd.qm0)); exact HO382.out) hb); have n1_ := Aside0.mk (Kd.R_elder' (by (with_reducible repeat (first | apply Kd.qh0 | apply Kd.qg0 | apply Kd.qm0)); exact HO384.out) (Kd.R_base ho0) hb); have n2_ := Aside0.mk (Kd.qg1 (Kd.R_new' ho0 (Kd.R_lt (by (with_reducible repeat (first | apply Kd.qh0 | apply Kd.qg0 | apply Kd.qm0)); exact HO384.out))) (qs0 (by repeat (first | (with_reducible first | exact HB.out | apply qb0 | apply qa0 | apply qc0) | exact HB.out)))); have n3_ := Aside0.mk (qt0 (by repeat (first | (with_reducible first | exact HB.out | apply qb0 | apply qa0 | apply qc0) | exact HB.out)) hb); clear HO382; clear HO384; clear HB; have HO382 := n0_; have HO384 := n1_; have HO387 := n2_; have HB := n3_; clear n0_ n1_ n2_ n3_; (try clear hb); (try clear hb2); (try clear hk); (try clear hi); (try clear ho0)) | ((with_reducible refine qp0 (f := 18) rfl ?_); refine qw0 (some 23) rfl rfl Try.func18 (by kernel_rfl) rfl #[.slice Ao9 t379.length co9, .slice Ao10 t380.length co10] rfl (by (try simp only [List.map_toArray, List.map_cons, List.map_nil]); first | done | rfl | (simp only [List.length_drop, List.length_take]; rfl)) ?_; (with_reducible refine (spec_Roll.calls k _ _ t379 _ _ t380 t388 _ ?side1 ?side2 ?side3 ?side4 A6.out).mono ?_); (case side1 => repeat (first | exact (Kd.qr0 HO382.out).2.2 | (with_reducible refine Kd.qy0 ?_ _) | (with_reducible refine Kd.qx0 ?_ _) | (with_reducible refine Kd.qe1 ?_))); (case side2 => exact (Kd.qr0 HO382.out).2.1); (case side3 => repeat (first | exact (Kd.qr0 HO384.out).2.2 | (with_reducible refine Kd.qy0 ?_ _) | (with_reducible refine Kd.qx0 ?_ _) | (with_reducible refine Kd.qe1 ?_))); (case side4 => exact (Kd.qr0 HO384.out).2.1); rintro e w12 ⟨v389, rfl, ho0, hb⟩; refine ⟨_, rfl, ?_⟩; have n0_ := Aside0.mk (Kd.ql1 (by (with_reducible repeat (first | apply Kd.qh0 | apply Kd.qg0 | apply Kd.qm0)); exact HO382.out) hb); have n1_ := Aside0.mk (Kd.R_elder' (by (with_reducible repeat (first | apply Kd.qh0 | apply Kd.qg0 | apply Kd.qm0)); exact HO384.out) (Kd.R_base ho0) hb); have n2_ := Aside0.mk (Kd.R_elder' (by (with_reducible repeat (first | apply Kd.qh0 | apply Kd.qg0 | apply Kd.qm0)); exact HO387.out) (Kd.R_base ho0) hb); have n3_ := Aside0.mk (Kd.qg1 (Kd.R_new' (Kd.R_new' ho0 (Kd.R_lt (by (with_reducible repeat (first | apply Kd.qh0 | apply Kd.qg0 | apply Kd.qm0)); exact HO384.out))) (Kd.R_lt (by (with_reducible repeat (first | apply Kd.qh0 | apply Kd.qg0 | apply Kd.qm0)); exact HO387.out))) (qs0 (by repeat (first | (with_reducible first | exact HB.out | apply qb0 | apply qa0 | apply qc0) | exact HB.out)))); have n4_ := Aside0.mk (qt0 (by repeat (first | (with_reducible first | exact HB.out | apply qb0 | apply qa0 | apply qc0) | exact HB.out)) hb); clear HO382; clear HO384; clear HO387; clear HB; have HO382 := n0_; have HO384 := n1_; have HO387 := n2_; have HO390 := n3_; have HB := n4_; clear n0_ n1_ n2_ n3_ n4_; (try clear hb); (try clear hb2); (try clear hk); (try clear hi); (try clear ho0); obtain ⟨Ao13, co13, eo13⟩ := Kd.qh1 HO390.out; subst eo13; obtain ⟨Ao14, co14, eo14⟩ := Kd.qh1 HO387.out; subst eo14))
  go_ret
  exact ⟨by first | rfl | (simp [errW_none, errW_some] <;> rfl) | (simp [*, errW_none, errW_some] <;> rfl), by repeat (first | (with_reducible first | exact HB.out | apply qb0 | apply qa0 | apply qc0) | exact HB.out)⟩
 rw [if_neg c7] at H
 have c7b0 : ((t388.length : Int) == 0) = false := beq_eq_false_iff_ne.mpr c7
 have c7b1 : ((t388.length : Int) != 0) = true := bne_iff_ne.mpr c7
 have c7b2 : ¬ (t388 = []) := fun h_ => c7 (by rw [h_]; rfl)
 by_cases c15 : (t385.length : Int) = (t380.length : Int)
 ·rw [if_pos c15] at H
  have c15b0 : ((t385.length : Int) == (t380.length : Int)) = true := beq_iff_eq.mpr c15
  have c15b1 : ((t385.length : Int) != (t380.length : Int)) = false := bne_eq_false_iff_eq.mpr c15
  have c15b2 : (t385.length == t380.length) = true := by first | simpa using c15 | (simp at c15 ⊢; omega)
  clear c15
  have H' := Aside0.mk H
  clear H
  go_enter Try.func3, Try.ntmps3
  go_wp2_with (first | ((with_reducible refine qp0 (f := 15) rfl ?_); refine qw0 (some 12) rfl rfl Try.func15 (by kernel_rfl) rfl #[.slice A0 l0.length c0] rfl (by (try simp only [List.map_toArray, List.map_cons, List.map_nil]); first | done | rfl | (simp only [List.length_drop, List.length_take]; rfl)) ?_; (with_reducible refine (laws_big.calls _ _ l0 false _ ?side1 ?side2 A2.out).mono ?_); (case side1 => repeat (first | exact HR0.out | (with_reducible refine Kd.qy0 ?_ _) | (with_reducible refine Kd.qx0 ?_ _) | (with_reducible refine Kd.qe1 ?_))); (case side2 => exact HC0.out); rintro e w' ⟨rfl, ⟨nd, rfl⟩⟩; refine ⟨_, rfl, ?_⟩) | ((with_reducible refine qp0 (f := 16) rfl ?_); refine qw0 (some 15) rfl rfl Try.func16 (by kernel_rfl) rfl #[.slice A0 l0.length c0] rfl (by (try simp only [List.map_toArray, List.map_cons, List.map_nil]); first | done | rfl | (simp only [List.length_drop, List.length_take]; rfl)) ?_; (with_reducible refine (spec_DrawRoll.calls k _ _ l0 t379 t380 _ ?side1 ?side2 A4.out).mono ?_); (case side1 => repeat (first | exact HR0.out | (with_reducible refine Kd.qy0 ?_ _) | (with_reducible refine Kd.qx0 ?_ _) | (with_reducible refine Kd.qe1 ?_))); (case side2 => exact HC0.out); rintro e w16 ⟨v381, v383, rfl, ho0, ho1, hb⟩; refine ⟨_, rfl, ?_⟩; have n0_ := Aside0.mk (Kd.qg1 ho0 (qs0 (by repeat (first | (with_reducible first | exact HB.out | apply qb0 | apply qa0 | apply qc0) | exact HB.out)))); have n1_ := Aside0.mk (Kd.qg1 ho1 (qs0 (by repeat (first | (with_reducible first | exact HB.out | apply qb0 | apply qa0 | apply qc0) | exact HB.out)))); have n2_ := Aside0.mk (qt0 (by repeat (first | (with_reducible first | exact HB.out | apply qb0 | apply qa0 | apply qc0) | exact HB.out)) hb); clear HB; have HO382 := n0_; have HO384 := n1_; have HB := n2_; clear n0_ n1_ n2_; (try clear hb); (try clear hb2); (try clear hk); (try clear hi); (try clear ho0); (try clear ho1); obtain ⟨Ao17, co17, eo17⟩ := Kd.qh1 HO382.out; subst eo17; obtain ⟨Ao18, co18, eo18⟩ := Kd.qh1 HO384.out; subst eo18) | ((with_reducible refine qp0 (f := 17) rfl ?_); refine qw0 (some 20) rfl rfl Try.func17 (by kernel_rfl) rfl #[.slice Ao17 t379.length co17, .slice Ao18 t380.length co18] rfl (by (try simp only [List.map_toArray, List.map_cons, List.map_nil]); first | done | rfl | (simp only [List.length_drop, List.length_take]; rfl)) ?_; (with_reducible refine (impl_Roll.calls k _ _ t379 _ _ t380 t385 _ ?side1 ?side2 ?side3 ?side4 A5.out).mono ?_); (case side1 => repeat (first | exact (Kd.qr0 HO382.out).2.2 | (with_reducible refine Kd.qy0 ?_ _) | (with_reducible refine Kd.qx0 ?_ _) | (with_reducible refine Kd.qe1 ?_))); (case side2 => exact (Kd.qr0 HO382.out).2.1); (case side3 => repeat (first | exact (Kd.qr0 HO384.out).2.2 | (with_reducible refine Kd.qy0 ?_ _) | (with_reducible refine Kd.qx0 ?_ _) | (with_reducible refine Kd.qe1 ?_))); (case side4 => exact (Kd.qr0 HO384.out).2.1); rintro e w19 ⟨v386, rfl, ho0, hb⟩; refine ⟨_, rfl, ?_⟩; have n0_ := Aside0.mk (Kd.ql1 (by (with_reducible repeat (first | apply Kd.qh0 | apply Kd.qg0 | apply Kd.qm0)); exact HO382.out) hb); have n1_ := Aside0.mk (Kd.R_elder' (by (with_reducible repeat (first | apply Kd.qh0 | apply Kd.qg0 | apply Kd.qm0)); exact HO384.out) (Kd.R_base ho0) hb); have n2_ := Aside0.mk (Kd.qg1 (Kd.R_new' ho0 (Kd.R_lt (by (with_reducible repeat (first | apply Kd.qh0 | apply Kd.qg0 | apply Kd.qm0)); exact HO384.out))) (qs0 (by repeat (first | (with_reducible first | exact HB.out | apply qb0 | apply qa0 | apply qc0) | exact HB.out)))); have n3_ := Aside0.mk (qt0 (by repeat (first | (with_reducible first | exact HB.out | apply qb0 | apply qa0 | apply qc0) | exact HB.out)) hb); clear HO382; clear HO384; clear HB; have HO382 := n0_; have HO384 := n1_; have HO387 := n2_; have HB := n3_; clear n0_ n1_ n2_ n3_; (try clear hb); (try clear hb2); (try clear hk); (try clear hi); (try clear ho0)) | ((with_reducible refine qp0 (f := 18) rfl ?_); refine qw0 (some 23) rfl rfl Try.func18 (by kernel_rfl) rfl #[.slice Ao17 t379.length co17, .slice Ao18 t380.length co18] rfl (by (try simp only [List.map_toArray, List.map_cons, List.map_nil]); first | done | rfl | (simp only [List.length_drop, List.length_take]; rfl)) ?_; (with_reducible refine (spec_Roll.calls k _ _ t379 _ _ t380 t388 _ ?side1 ?side2 ?side3 ?side4 A6.out).mono ?_); (case side1 => repeat (first | exact (Kd.qr0 HO382.out).2.2 | (with_reducible refine Kd.qy0 ?_ _) | (with_reducible refine Kd.qx0 ?_ _) | (with_reducible refine Kd.qe1 ?_))); (case side2 => exact (Kd.qr0 HO382.out).2.1); (case side3 => repeat (first | exact (Kd.qr0 HO384.out).2.2 | (with_reducible refine Kd.qy0 ?_ _) | (with_reducible refine Kd.qx0 ?_ _) | (with_reducible refine Kd.qe1 ?_))); (case side4 => exact (Kd.qr0 HO384.out).2.1); rintro e w20 ⟨v389, rfl, ho0, hb⟩; refine ⟨_, rfl, ?_⟩; have n0_ := Aside0.mk (Kd.ql1 (by (with_reducible repeat (first | apply Kd.qh0 | apply Kd.qg0 | apply Kd.qm0)); exact HO382.out) hb); have n1_ := Aside0.mk (Kd.R_elder' (by (with_reducible repeat (first | apply Kd.qh0 | apply Kd.qg0 | apply Kd.qm0)); exact HO384.out) (Kd.R_base ho0) hb); have n2_ := Aside0.mk (Kd.R_elder' (by (with_reducible repeat (first | apply Kd.qh0 | apply Kd.qg0 | apply Kd.qm0)); exact HO387.out) (Kd.R_base ho0) hb); have n3_ := Aside0.mk (Kd.qg1 (Kd.R_new' (Kd.R_new' ho0 (Kd.R_lt (by (with_reducible repeat (first | apply Kd.qh0 | apply Kd.qg0 | apply Kd.qm0)); exact HO384.out))) (Kd.R_lt (by (with_reducible repeat (first | apply Kd.qh0 | apply Kd.qg0 | apply Kd.qm0)); exact HO387.out))) (qs0 (by repeat (first | (with_reducible first | exact HB.out | apply qb0 | apply qa0 | apply qc0) | exact HB.out)))); have n4_ := Aside0.mk (qt0 (by repeat (first | (with_reducible first | exact HB.out | apply qb0 | apply qa0 | apply qc0) | exact HB.out)) hb); clear HO382; clear HO384; clear HO387; clear HB; have HO382 := n0_; have HO384 := n1_; have HO387 := n2_; have HO390 := n3_; have HB := n4_; clear n0_ n1_ n2_ n3_ n4_; (try clear hb); (try clear hb2); (try clear hk); (try clear hi); (try clear ho0); obtain ⟨Ao21, co21, eo21⟩ := Kd.qh1 HO390.out; subst eo21; obtain ⟨Ao22, co22, eo22⟩ := Kd.qh1 HO387.out; subst eo22))
  go_loopg [6, 7] k (fun kq v6 v7 w' => ∃ (x6_1 : Int) (x7_1 : Int), v6 = .int .i64 x6_1 ∧ v7 = .int .i64 x7_1 ∧ Aside0 (laws_FnRolled.l0 kq t379 t380 t385 x6_1 x7_1 = some r) ∧ Aside0 (kq ≤ k) ∧ Aside0 (Kd.R k30 30 w' w.heap.size (fun _ => True) (.slice Ao17 t379.length co17) t379) ∧ Aside0 (Kd.R (Kd.int .i64) 3 w' w.heap.size (fun k_ => some k_ ≠ ((.slice Ao22 t385.length co22) : Value).ownBlock) (.slice Ao18 t380.length co18) t380) ∧ Aside0 (Kd.R (Kd.int .i64) 3 w' w.heap.size (fun k_ => some k_ ≠ ((.slice Ao18 t380.length co18) : Value).ownBlock) (.slice Ao22 t385.length co22) t385) ∧ Aside0 (Below w.heap.size w w'))
  case atStart => exact ⟨(0), (0), (by first | rfl | (simp; done) | (simp [*]; done)), (by first | rfl | (simp; done) | (simp [*]; done)), H', ⟨Nat.le_refl _⟩, ⟨by (with_reducible repeat (first | apply Kd.qh0 | apply Kd.qg0 | apply Kd.qm0)); exact HO382.out⟩, ⟨by (with_reducible repeat (first | apply Kd.qh0 | apply Kd.qg0 | apply Kd.qm0)); exact Kd.qu0 HO384.out (fun _ hk => hk.1.2)⟩, ⟨by (with_reducible repeat (first | apply Kd.qh0 | apply Kd.qg0 | apply Kd.qm0)); exact Kd.qu0 HO387.out (fun _ hk => hk.1.2)⟩, ⟨by repeat (first | (with_reducible first | exact HB.out | apply qb0 | apply qa0 | apply qc0) | exact HB.out)⟩⟩
  case round =>
   clear H'
   try clear c1
   try clear p2
   try clear c3
   try clear c7
   try clear c7b0
   try clear c7b1
   try clear c7b2
   try clear c15
   try clear c15b0
   try clear c15b1
   try clear c15b2
   try clear c16
   try clear c17
   try clear c18
   obtain ⟨x6_1, x7_1, rfl, rfl, HA, HK1, HO_3, HO_4, HO_5, HB⟩ := hrel
   cases gk with
   | zero => exact absurd HA.out (by simp [laws_FnRolled.l0])
   | succ k1 =>
    have H := HA.out
    clear HA
    simp only [laws_FnRolled.l0] at H
    by_cases c23 : x7_1 < (t379.length : Int)
    ·rw [if_pos c23] at H
     have c23b0 : decide (x7_1 < (t379.length : Int)) = true := decide_eq_true c23
     clear c23
     by_cases c24 : 0 ≤ x7_1
     case neg => rw [if_neg c24] at H; exact absurd H (by simp)
     rw [if_pos c24] at H
     have c24b0 : decide (0 ≤ x7_1) = true := decide_eq_true c24
     clear c24
     have HC25 := Aside0.mk H
     clear H
     have p392 : 0 ≤ (x7_1 : Int) := of_decide_eq_true (by first | (with_reducible assumption) | assumption)
     have q392 : x7_1 < (t379.length : Int) := of_decide_eq_true (by first | (with_reducible assumption) | assumption)
     obtain ⟨ad392, e392, hx392_0, hx392_1, hx392_2⟩ := at_T30 (Kd.qr0 HO_3.out).2.2 x7_1 p392 q392
     cases e392
     replace p392 := eq_true p392
     replace q392 := eq_true q392
     go_upto_if 45 with (fail)
     go_cut [6] (fun v6 wc => ∃ (kq : Nat) (x6_24 : Int), v6 = .int .i64 x6_24 ∧ Aside0 (laws_FnRolled.j1 kq t379 t380 t385 x6_24 x7_1 = some r) ∧ Aside0 (kq ≤ k1) ∧ Aside0 (Kd.R k30 30 wc w.heap.size (fun _ => True) (.slice (some ad392) t379.length co17) t379) ∧ Aside0 (Kd.R (Kd.int .i64) 3 wc w.heap.size (fun k_ => some k_ ≠ ((.slice Ao22 t385.length co22) : Value).ownBlock) (.slice Ao18 t380.length co18) t380) ∧ Aside0 (Kd.R (Kd.int .i64) 3 wc w.heap.size (fun k_ => some k_ ≠ ((.slice Ao18 t380.length co18) : Value).ownBlock) (.slice Ao22 t385.length co22) t385) ∧ Aside0 (Below w.heap.size w wc))
     case first =>
      have H := HC25.out
      clear HC25
      by_cases c26 : ((rd_T30 t379 x7_1).f1) < 0
      ·rw [if_pos c26] at H
       have c26b0 : decide (((rd_T30 t379 x7_1).f1) < 0) = true := decide_eq_true c26
       clear c26
       (first | rw [c26b0] | (simp only [i64_w, i32_w]; rw [c26b0]) | skip)
       by_cases c27 : x7_1 < (t385.length : Int)
       case neg => rw [if_neg c27] at H; exact absurd H (by simp)
       rw [if_pos c27] at H
       have c27b0 : decide (x7_1 < (t385.length : Int)) = true := decide_eq_true c27
       clear c27
       have H' := Aside0.mk H
       clear H
       have p393 : 0 ≤ (x7_1 : Int) := of_decide_eq_true (by first | (with_reducible assumption) | assumption)
       have q393 : x7_1 < (t385.length : Int) := of_decide_eq_true (by first | (with_reducible assumption) | assumption)
       obtain ⟨ad393, e393, hx393_0⟩ := Kd.qr1 (Kd.qr0 HO_5.out).2.2 x7_1 p393 q393
       cases e393
       replace p393 := eq_true p393
       replace q393 := eq_true q393
       go_wp2
       go_meet
       case rel => exact ⟨_, (wrap64 (x6_1 + (rd t385 x7_1))), (by first | rfl | (simp; done) | (simp [*]; done)), H', ⟨by have := HK1.out; first | omega | exact Nat.le_refl _⟩, ⟨by (with_reducible repeat (first | apply Kd.qh0 | apply Kd.qg0 | apply Kd.qm0)); exact HO_3.out⟩, ⟨by (with_reducible repeat (first | apply Kd.qh0 | apply Kd.qg0 | apply Kd.qm0)); exact HO_4.out⟩, ⟨by (with_reducible repeat (first | apply Kd.qh0 | apply Kd.qg0 | apply Kd.qm0)); exact HO_5.out⟩, ⟨by repeat (first | (with_reducible first | exact HB.out | apply qb0 | apply qa0 | apply qc0) | exact HB.out)⟩⟩
      rw [if_neg c26] at H
      have c26b0 : decide (((rd_T30 t379 x7_1).f1) < 0) = false := decide_eq_false c26
      clear c26
      (first | rw [c26b0] | (simp only [i64_w, i32_w]; rw [c26b0]) | skip)
      have H' := Aside0.mk H
      clear H
      go_wp2
      go_meet
      case rel => exact ⟨_, (x6_1), (by first | rfl | (simp; done) | (simp [*]; done)), H', ⟨by have := HK1.out; first | omega | exact Nat.le_refl _⟩, ⟨by (with_reducible repeat (first | apply Kd.qh0 | apply Kd.qg0 | apply Kd.qm0)); exact HO_3.out⟩, ⟨by (with_reducible repeat (first | apply Kd.qh0 | apply Kd.qg0 | apply Kd.qm0)); exact HO_4.out⟩, ⟨by (with_reducible repeat (first | apply Kd.qh0 | apply Kd.qg0 | apply Kd.qm0)); exact HO_5.out⟩, ⟨by repeat (first | (with_reducible first | exact HB.out | apply qb0 | apply qa0 | apply qc0) | exact HB.out)⟩⟩
     case rest =>
      clear HC25
      try clear c1
      try clear c2
      try clear p2
      try clear c3
      try clear p3
      try clear q3
      try clear hx3
      try clear p6
      try clear c7
      try clear c7b0
      try clear c7b1
      try clear c7b2
      try clear c15
      try clear c15b0
      try clear c15b1
      try clear c15b2
      try clear c16
      try clear c17
      try clear c18
      try clear c23
      try clear c23b0
      try clear c24
      try clear c24b0
      try clear c26
      try clear c26b0
      try clear c27
      try clear c27b0
      try clear hx392_0
      try clear hx392_1
      try clear hx392_2
      try clear hx393_0
      try clear p2
      try clear p392
      try clear p393
      try clear q392
      try clear q393
      obtain ⟨kq, x6_24, rfl, HA, HJ24, HO_3, HO_4, HO_5, HB⟩ := hcut
      cases kq with
      | zero => exact absurd HA.out (by simp [laws_FnRolled.j1])
      | succ kj24 =>
       have H := HA.out
       clear HA
       simp only [laws_FnRolled.j1] at H
       replace H := Option.bind_eq_some_iff.mp H
       obtain ⟨t394, A280, H⟩ := H
       replace H : (laws_FnRolled.l1 kj24 t379 t380 t385 x6_24 x7_1 t394 0 0) = some r := H
       have A28 := Aside0.mk A280
       clear A280
       have H' := Aside0.mk H
       clear H
       go_wp2_with (first | ((with_reducible refine qp0 (f := 19) rfl ?_); refine qw0 (some 54) rfl rfl Try.func19 (by kernel_rfl) rfl #[.slice (some ad392) t379.length co17, .int .i64 x7_1] rfl (by (try simp only [List.map_toArray, List.map_cons, List.map_nil]); first | done | rfl | (simp only [List.length_drop, List.length_take]; rfl)) ?_; (with_reducible refine (impl_Under.calls kj24 _ _ t379 x7_1 t394 _ ?side1 ?side2 A28.out).mono ?_); (case side1 => repeat (first | exact (Kd.qr0 HO_3.out).2.2 | (with_reducible refine Kd.qy0 ?_ _) | (with_reducible refine Kd.qx0 ?_ _) | (with_reducible refine Kd.qe1 ?_))); (case side2 => exact (Kd.qr0 HO_3.out).2.1); rintro e w29 ⟨v395, rfl, ho0, hb⟩; refine ⟨_, rfl, ?_⟩; have n0_ := Aside0.mk (Kd.ql1 (by (with_reducible repeat (first | apply Kd.qh0 | apply Kd.qg0 | apply Kd.qm0)); exact HO_3.out) hb); have n1_ := Aside0.mk (Kd.R_elder' (by (with_reducible repeat (first | apply Kd.qh0 | apply Kd.qg0 | apply Kd.qm0)); exact HO_4.out) (Kd.R_base ho0) hb); have n2_ := Aside0.mk (Kd.R_elder' (by (with_reducible repeat (first | apply Kd.qh0 | apply Kd.qg0 | apply Kd.qm0)); exact HO_5.out) (Kd.R_base ho0) hb); have n3_ := Aside0.mk (Kd.qg1 (Kd.R_new' (Kd.R_new' ho0 (Kd.R_lt (by (with_reducible repeat (first | apply Kd.qh0 | apply Kd.qg0 | apply Kd.qm0)); exact HO_4.out))) (Kd.R_lt (by (with_reducible repeat (first | apply Kd.qh0 | apply Kd.qg0 | apply Kd.qm0)); exact HO_5.out))) (qs0 (by repeat (first | (with_reducible first | exact HB.out | apply qb0 | apply qa0 | apply qc0) | exact HB.out)))); have n4_ := Aside0.mk (qt0 (by repeat (first | (with_reducible first | exact HB.out | apply qb0 | apply qa0 | apply qc0) | exact HB.out)) hb); clear HO_3; clear HO_4; clear HO_5; clear HB; have HO_3 := n0_; have HO_4 := n1_; have HO_5 := n2_; have HO396 := n3_; have HB := n4_; clear n0_ n1_ n2_ n3_ n4_; (try clear hb); (try clear hb2); (try clear hk); (try clear hi); (try clear ho0)))
       go_loopg [9, 10] kj24 (fun kq v9 v10 w' => ∃ (x9_3 : Int) (x10_3 : Int), v9 = .int .i64 x9_3 ∧ v10 = .int .i64 x10_3 ∧ Aside0 (laws_FnRolled.l1 kq t379 t380 t385 x6_24 x7_1 t394 x9_3 x10_3 = some r) ∧ Aside0 (kq ≤ kj24) ∧ Aside0 (Kd.R k30 30 w' w.heap.size (fun _ => True) (.slice (some ad392) t379.length co17) t379) ∧ Aside0 (Kd.R (Kd.int .i64) 3 w' w.heap.size (fun k_ => some k_ ≠ ((.slice Ao22 t385.length co22) : Value).ownBlock ∧ some k_ ≠ (v395 : Value).ownBlock) (.slice Ao18 t380.length co18) t380) ∧ Aside0 (Kd.R (Kd.int .i64) 3 w' w.heap.size (fun k_ => some k_ ≠ ((.slice Ao18 t380.length co18) : Value).ownBlock ∧ some k_ ≠ (v395 : Value).ownBlock) (.slice Ao22 t385.length co22) t385) ∧ Aside0 (Kd.R (Kd.int .i64) 3 w' w.heap.size (fun k_ => some k_ ≠ ((.slice Ao18 t380.length co18) : Value).ownBlock ∧ some k_ ≠ ((.slice Ao22 t385.length co22) : Value).ownBlock) v395 t394) ∧ Aside0 (Below w.heap.size w w'))
       case atStart => exact ⟨(0), (0), (by first | rfl | (simp; done) | (simp [*]; done)), (by first | rfl | (simp; done) | (simp [*]; done)), H', ⟨Nat.le_refl _⟩, ⟨by (with_reducible repeat (first | apply Kd.qh0 | apply Kd.qg0 | apply Kd.qm0)); exact HO_3.out⟩, ⟨by (with_reducible repeat (first | apply Kd.qh0 | apply Kd.qg0 | apply Kd.qm0)); exact HO_4.out⟩, ⟨by (with_reducible repeat (first | apply Kd.qh0 | apply Kd.qg0 | apply Kd.qm0)); exact HO_5.out⟩, ⟨by (with_reducible repeat (first | apply Kd.qh0 | apply Kd.qg0 | apply Kd.qm0)); exact Kd.qu0 HO396.out (fun _ hk => ⟨hk.1.2, hk.2⟩)⟩, ⟨by repeat (first | (with_reducible first | exact HB.out | apply qb0 | apply qa0 | apply qc0) | exact HB.out)⟩⟩
       case round =>
        clear H'
        try clear c1
        try clear c2
        try clear p2
        try clear c3
        try clear p3
        try clear q3
        try clear hx3
        try clear p6
        try clear c7
        try clear c7b0
        try clear c7b1
        try clear c7b2
        try clear c15
        try clear c15b0
        try clear c15b1
        try clear c15b2
        try clear c16
        try clear c17
        try clear c18
        try clear c19
        try clear c23
        try clear c23b0
        try clear c24
        try clear c24b0
        try clear c26
        try clear c26b0
        try clear c27
        try clear c27b0
        try clear hx392_0
        try clear hx392_1
        try clear hx392_2
        try clear hx393_0
        try clear p2
        try clear p3
        try clear p392
        try clear p393
        try clear p6
        try clear q3
        try clear q392
        try clear q393
        obtain ⟨x9_3, x10_3, rfl, rfl, HA, HK3, HO_3, HO_4, HO_5, HO_8, HB⟩ := hrel
        cases gk with
        | zero => exact absurd HA.out (by simp [laws_FnRolled.l1])
        | succ k3 =>
         have H := HA.out
         clear HA
         simp only [laws_FnRolled.l1] at H
         by_cases c30 : x10_3 < (t394.length : Int)
         ·rw [if_pos c30] at H
          have c30b0 : decide (x10_3 < (t394.length : Int)) = true := decide_eq_true c30
          clear c30
          by_cases c31 : 0 ≤ x10_3
          case neg => rw [if_neg c31] at H; exact absurd H (by simp)
          rw [if_pos c31] at H
          have c31b0 : decide (0 ≤ x10_3) = true := decide_eq_true c31
          clear c31
          by_cases c32 : 0 ≤ (rd t394 x10_3)
          case neg => rw [if_neg c32] at H; exact absurd H (by simp)
          rw [if_pos c32] at H
          have c32b0 : decide (0 ≤ (rd t394 x10_3)) = true := decide_eq_true c32
          clear c32
          by_cases c33 : (rd t394 x10_3) < (t380.length : Int)
          case neg => rw [if_neg c33] at H; exact absurd H (by simp)
          rw [if_pos c33] at H
          have c33b0 : decide ((rd t394 x10_3) < (t380.length : Int)) = true := decide_eq_true c33
          clear c33
          have H' := Aside0.mk H
          clear H
          obtain ⟨Ao34, co34, eo34⟩ := Kd.qh1 HO_8.out
          subst eo34
          have p397 : 0 ≤ (x10_3 : Int) := of_decide_eq_true (by first | (with_reducible assumption) | assumption)
          have q397 : x10_3 < (t394.length : Int) := of_decide_eq_true (by first | (with_reducible assumption) | assumption)
          obtain ⟨ad397, e397, hx397_0⟩ := Kd.qr1 (Kd.qr0 HO_8.out).2.2 x10_3 p397 q397
          cases e397
          replace p397 := eq_true p397
          replace q397 := eq_true q397
          have p398 : 0 ≤ ((rd t394 x10_3) : Int) := of_decide_eq_true (by first | (with_reducible assumption) | assumption)
          have q398 : (rd t394 x10_3) < (t380.length : Int) := of_decide_eq_true (by first | (with_reducible assumption) | assumption)
          obtain ⟨ad398, e398, hx398_0⟩ := Kd.qr1 (Kd.qr0 HO_4.out).2.2 (rd t394 x10_3) p398 q398
          cases e398
          replace p398 := eq_true p398
          replace q398 := eq_true q398
          go_wp2
          go_roundg k3
          case measure => have := HK1.out; have := HJ24.out; have := HK3.out; omega
          case rel => exact ⟨(wrap64 (x9_3 + (rd t380 (rd t394 x10_3)))), (wrap64 (x10_3 + 1)), (by first | rfl | (simp; done) | (simp [*]; done)), (by first | rfl | (simp; done) | (simp [*]; done)), H', ⟨by have := HK1.out; have := HJ24.out; have := HK3.out; omega⟩, ⟨by (with_reducible repeat (first | apply Kd.qh0 | apply Kd.qg0 | apply Kd.qm0)); exact HO_3.out⟩, ⟨by (with_reducible repeat (first | apply Kd.qh0 | apply Kd.qg0 | apply Kd.qm0)); exact HO_4.out⟩, ⟨by (with_reducible repeat (first | apply Kd.qh0 | apply Kd.qg0 | apply Kd.qm0)); exact HO_5.out⟩, ⟨by (with_reducible repeat (first | apply Kd.qh0 | apply Kd.qg0 | apply Kd.qm0)); exact HO_8.out⟩, ⟨by repeat (first | (with_reducible first | exact HB.out | apply qb0 | apply qa0 | apply qc0) | exact HB.out)⟩⟩
         rw [if_neg c30] at H
         have c30b0 : decide (x10_3 < (t394.length : Int)) = false := decide_eq_false c30
         clear c30
         by_cases c35 : 0 ≤ x7_1
         case neg => rw [if_neg c35] at H; exact absurd H (by simp)
         rw [if_pos c35] at H
         have c35b0 : decide (0 ≤ x7_1) = true := decide_eq_true c35
         clear c35
         by_cases c36 : x7_1 < (t385.length : Int)
         case neg => rw [if_neg c36] at H; exact absurd H (by simp)
         rw [if_pos c36] at H
         have c36b0 : decide (x7_1 < (t385.length : Int)) = true := decide_eq_true c36
         clear c36
         by_cases c37 : x9_3 = (rd t385 x7_1)
         ·rw [if_pos c37] at H
          have c37b0 : (x9_3 == (rd t385 x7_1)) = true := beq_iff_eq.mpr c37
          have c37b1 : (x9_3 != (rd t385 x7_1)) = false := bne_eq_false_iff_eq.mpr c37
          clear c37
          by_cases c38 : (t394.length : Int) = 0
          ·rw [if_pos c38] at H
           have c38b0 : ((t394.length : Int) == 0) = true := beq_iff_eq.mpr c38
           have c38b1 : ((t394.length : Int) != 0) = false := bne_eq_false_iff_eq.mpr c38
           clear c38
           obtain rfl := Option.some.inj H
           obtain ⟨Ao39, co39, eo39⟩ := Kd.qh1 HO_8.out
           subst eo39
           have p399 : 0 ≤ (x7_1 : Int) := of_decide_eq_true (by first | (with_reducible assumption) | assumption)
           have q399 : x7_1 < (t385.length : Int) := of_decide_eq_true (by first | (with_reducible assumption) | assumption)
           obtain ⟨ad399, e399, hx399_0⟩ := Kd.qr1 (Kd.qr0 HO_5.out).2.2 x7_1 p399 q399
           cases e399
           replace p399 := eq_true p399
           replace q399 := eq_true q399
           go_wp2
           go_ret
           exact ⟨by first | rfl | (simp [errW_none, errW_some] <;> rfl) | (simp [*, errW_none, errW_some] <;> rfl), by repeat (first | (with_reducible first | exact HB.out | apply qb0 | apply qa0 | apply qc0) | exact HB.out)⟩
          rw [if_neg c38] at H
          have c38b0 : ((t394.length : Int) == 0) = false := beq_eq_false_iff_ne.mpr c38
          have c38b1 : ((t394.length : Int) != 0) = true := bne_iff_ne.mpr c38
          have c38b2 : ¬ (t394 = []) := fun h_ => c38 (by rw [h_]; rfl)
          have H' := Aside0.mk H
          clear H
          obtain ⟨Ao40, co40, eo40⟩ := Kd.qh1 HO_8.out
          subst eo40
          have p399 : 0 ≤ (x7_1 : Int) := of_decide_eq_true (by first | (with_reducible assumption) | assumption)
          have q399 : x7_1 < (t385.length : Int) := of_decide_eq_true (by first | (with_reducible assumption) | assumption)
          obtain ⟨ad399, e399, hx399_0⟩ := Kd.qr1 (Kd.qr0 HO_5.out).2.2 x7_1 p399 q399
          cases e399
          replace p399 := eq_true p399
          replace q399 := eq_true q399
          go_wp2
          go_roundg k3
          case measure => have := HK1.out; have := HJ24.out; have := HK3.out; omega
          case rel => exact ⟨(x6_24), (wrap64 (x7_1 + 1)), (by first | rfl | (simp; done) | (simp [*]; done)), (by first | rfl | (simp; done) | (simp [*]; done)), H', ⟨by have := HK1.out; have := HJ24.out; have := HK3.out; omega⟩, ⟨by (with_reducible repeat (first | apply Kd.qh0 | apply Kd.qg0 | apply Kd.qm0)); exact HO_3.out⟩, ⟨by (with_reducible repeat (first | apply Kd.qh0 | apply Kd.qg0 | apply Kd.qm0)); exact Kd.qu0 HO_4.out (fun _ hk => hk.1)⟩, ⟨by (with_reducible repeat (first | apply Kd.qh0 | apply Kd.qg0 | apply Kd.qm0)); exact Kd.qu0 HO_5.out (fun _ hk => hk.1)⟩, ⟨by repeat (first | (with_reducible first | exact HB.out | apply qb0 | apply qa0 | apply qc0) | exact HB.out)⟩⟩
         rw [if_neg c37] at H
         have c37b0 : (x9_3 == (rd t385 x7_1)) = false := beq_eq_false_iff_ne.mpr c37
         have c37b1 : (x9_3 != (rd t385 x7_1)) = true := bne_iff_ne.mpr c37
         obtain rfl := Option.some.inj H
         obtain ⟨Ao41, co41, eo41⟩ := Kd.qh1 HO_8.out
         subst eo41
         have p399 : 0 ≤ (x7_1 : Int) := of_decide_eq_true (by first | (with_reducible assumption) | assumption)
         have q399 : x7_1 < (t385.length : Int) := of_decide_eq_true (by first | (with_reducible assumption) | assumption)
         obtain ⟨ad399, e399, hx399_0⟩ := Kd.qr1 (Kd.qr0 HO_5.out).2.2 x7_1 p399 q399
         cases e399
         replace p399 := eq_true p399
         replace q399 := eq_true q399
         go_wp2
         go_ret
         exact ⟨by first | rfl | (simp [errW_none, errW_some] <;> rfl) | (simp [*, errW_none, errW_some] <;> rfl), by repeat (first | (with_reducible first | exact HB.out | apply qb0 | apply qa0 | apply qc0) | exact HB.out)⟩
    rw [if_neg c23] at H
    have c23b0 : decide (x7_1 < (t379.length : Int)) = false := decide_eq_false c23
    clear c23
    replace H := Option.bind_eq_some_iff.mp H
    obtain ⟨t391, A420, H⟩ := H
    replace H : (some (x6_1 == t391)) = some r := H
    have A42 := Aside0.mk A420
    clear A420
    obtain rfl := Option.some.inj H
    go_wp2_with (first | ((with_reducible refine qp0 (f := 20) rfl ?_); refine qw0 (some 83) rfl rfl Try.func20 (by kernel_rfl) rfl #[.slice Ao18 t380.length co18] rfl (by (try simp only [List.map_toArray, List.map_cons, List.map_nil]); first | done | rfl | (simp only [List.length_drop, List.length_take]; rfl)) ?_; (with_reducible refine (laws_sum.calls k1 _ _ t380 t391 _ ?side1 ?side2 A42.out).mono ?_); (case side1 => repeat (first | exact (Kd.qr0 HO_4.out).2.2 | (with_reducible refine Kd.qy0 ?_ _) | (with_reducible refine Kd.qx0 ?_ _) | (with_reducible refine Kd.qe1 ?_))); (case side2 => exact (Kd.qr0 HO_4.out).2.1); rintro e w' ⟨rfl, ⟨nd, rfl⟩⟩; refine ⟨_, rfl, ?_⟩))
    go_ret
    exact ⟨by first | rfl | (simp [errW_none, errW_some] <;> rfl) | (simp [*, errW_none, errW_some] <;> rfl), by repeat (first | (with_reducible first | exact HB.out | apply qb0 | apply qa0 | apply qc0) | exact HB.out)⟩
 rw [if_neg c15] at H
 have c15b0 : ((t385.length : Int) == (t380.length : Int)) = false := beq_eq_false_iff_ne.mpr c15
 have c15b1 : ((t385.length : Int) != (t380.length : Int)) = true := bne_iff_ne.mpr c15
 have c15b2 : (t385.length == t380.length) = false := by first | simpa using c15 | (simp at c15 ⊢; omega)
 obtain rfl := Option.some.inj H
 go_enter Try.func3, Try.ntmps3
 go_wp2_with (first | ((with_reducible refine qp0 (f := 15) rfl ?_); refine qw0 (some 12) rfl rfl Try.func15 (by kernel_rfl) rfl #[.slice A0 l0.length c0] rfl (by (try simp only [List.map_toArray, List.map_cons, List.map_nil]); first | done | rfl | (simp only [List.length_drop, List.length_take]; rfl)) ?_; (with_reducible refine (laws_big.calls _ _ l0 false _ ?side1 ?side2 A2.out).mono ?_); (case side1 => repeat (first | exact HR0.out | (with_reducible refine Kd.qy0 ?_ _) | (with_reducible refine Kd.qx0 ?_ _) | (with_reducible refine Kd.qe1 ?_))); (case side2 => exact HC0.out); rintro e w' ⟨rfl, ⟨nd, rfl⟩⟩; refine ⟨_, rfl, ?_⟩) | ((with_reducible refine qp0 (f := 16) rfl ?_); refine qw0 (some 15) rfl rfl Try.func16 (by kernel_rfl) rfl #[.slice A0 l0.length c0] rfl (by (try simp only [List.map_toArray, List.map_cons, List.map_nil]); first | done | rfl | (simp only [List.length_drop, List.length_take]; rfl)) ?_; (with_reducible refine (spec_DrawRoll.calls k _ _ l0 t379 t380 _ ?side1 ?side2 A4.out).mono ?_); (case side1 => repeat (first | exact HR0.out | (with_reducible refine Kd.qy0 ?_ _) | (with_reducible refine Kd.qx0 ?_ _) | (with_reducible refine Kd.qe1 ?_))); (case side2 => exact HC0.out); rintro e w43 ⟨v381, v383, rfl, ho0, ho1, hb⟩; refine ⟨_, rfl, ?_⟩; have n0_ := Aside0.mk (Kd.qg1 ho0 (qs0 (by repeat (first | (with_reducible first | exact HB.out | apply qb0 | apply qa0 | apply qc0) | exact HB.out)))); have n1_ := Aside0.mk (Kd.qg1 ho1 (qs0 (by repeat (first | (with_reducible first | exact HB.out | apply qb0 | apply qa0 | apply qc0) | exact HB.out)))); have n2_ := Aside0.mk (qt0 (by repeat (first | (with_reducible first | exact HB.out | apply qb0 | apply qa0 | apply qc0) | exact HB.out)) hb); clear HB; have HO382 := n0_; have HO384 := n1_; have HB := n2_; clear n0_ n1_ n2_; (try clear hb); (try clear hb2); (try clear hk); (try clear hi); (try clear ho0); (try clear ho1); obtain ⟨Ao44, co44, eo44⟩ := Kd.qh1 HO382.out; subst eo44; obtain ⟨Ao45, co45, eo45⟩ := Kd.qh1 HO384.out; subst eo45) | ((with_reducible refine qp0 (f := 17) rfl ?_); refine qw0 (some 20) rfl rfl Try.func17 (by kernel_rfl) rfl #[.slice Ao44 t379.length co44, .slice Ao45 t380.length co45] rfl (by (try simp only [List.map_toArray, List.map_cons, List.map_nil]); first | done | rfl | (simp only [List.length_drop, List.length_take]; rfl)) ?_; (with_reducible refine (impl_Roll.calls k _ _ t379 _ _ t380 t385 _ ?side1 ?side2 ?side3 ?side4 A5.out).mono ?_); (case side1 => repeat (first | exact (Kd.qr0 HO382.out).2.2 | (with_reducible refine Kd.qy0 ?_ _) | (with_reducible refine Kd.qx0 ?_ _) | (with_reducible refine Kd.qe1 ?_))); (case side2 => exact (Kd.qr0 HO382.out).2.1); (case side3 => repeat (first | exact (Kd.qr0 HO384.out).2.2 | (with_reducible refine Kd.qy0 ?_ _) | (with_reducible refine Kd.qx0 ?_ _) | (with_reducible refine Kd.qe1 ?_))); (case side4 => exact (Kd.qr0 HO384.out).2.1); rintro e w46 ⟨v386, rfl, ho0, hb⟩; refine ⟨_, rfl, ?_⟩; have n0_ := Aside0.mk (Kd.ql1 (by (with_reducible repeat (first | apply Kd.qh0 | apply Kd.qg0 | apply Kd.qm0)); exact HO382.out) hb); have n1_ := Aside0.mk (Kd.R_elder' (by (with_reducible repeat (first | apply Kd.qh0 | apply Kd.qg0 | apply Kd.qm0)); exact HO384.out) (Kd.R_base ho0) hb); have n2_ := Aside0.mk (Kd.qg1 (Kd.R_new' ho0 (Kd.R_lt (by (with_reducible repeat (first | apply Kd.qh0 | apply Kd.qg0 | apply Kd.qm0)); exact HO384.out))) (qs0 (by repeat (first | (with_reducible first | exact HB.out | apply qb0 | apply qa0 | apply qc0) | exact HB.out)))); have n3_ := Aside0.mk (qt0 (by repeat (first | (with_reducible first | exact HB.out | apply qb0 | apply qa0 | apply qc0) | exact HB.out)) hb); clear HO382; clear HO384; clear HB; have HO382 := n0_; have HO384 := n1_; have HO387 := n2_; have HB := n3_; clear n0_ n1_ n2_ n3_; (try clear hb); (try clear hb2); (try clear hk); (try clear hi); (try clear ho0)) | ((with_reducible refine qp0 (f := 18) rfl ?_); refine qw0 (some 23) rfl rfl Try.func18 (by kernel_rfl) rfl #[.slice Ao44 t379.length co44, .slice Ao45 t380.length co45] rfl (by (try simp only [List.map_toArray, List.map_cons, List.map_nil]); first | done | rfl | (simp only [List.length_drop, List.length_take]; rfl)) ?_; (with_reducible refine (spec_Roll.calls k _ _ t379 _ _ t380 t388 _ ?side1 ?side2 ?side3 ?side4 A6.out).mono ?_); (case side1 => repeat (first | exact (Kd.qr0 HO382.out).2.2 | (with_reducible refine Kd.qy0 ?_ _) | (with_reducible refine Kd.qx0 ?_ _) | (with_reducible refine Kd.qe1 ?_))); (case side2 => exact (Kd.qr0 HO382.out).2.1); (case side3 => repeat (first | exact (Kd.qr0 HO384.out).2.2 | (with_reducible refine Kd.qy0 ?_ _) | (with_reducible refine Kd.qx0 ?_ _) | (with_reducible refine Kd.qe1 ?_))); (case side4 => exact (Kd.qr0 HO384.out).2.1); rintro e w47 ⟨v389, rfl, ho0, hb⟩; refine ⟨_, rfl, ?_⟩; have n0_ := Aside0.mk (Kd.ql1 (by (with_reducible repeat (first | apply Kd.qh0 | apply Kd.qg0 | apply Kd.qm0)); exact HO382.out) hb); have n1_ := Aside0.mk (Kd.R_elder' (by (with_reducible repeat (first | apply Kd.qh0 | apply Kd.qg0 | apply Kd.qm0)); exact HO384.out) (Kd.R_base ho0) hb); have n2_ := Aside0.mk (Kd.R_elder' (by (with_reducible repeat (first | apply Kd.qh0 | apply Kd.qg0 | apply Kd.qm0)); exact HO387.out) (Kd.R_base ho0) hb); have n3_ := Aside0.mk (Kd.qg1 (Kd.R_new' (Kd.R_new' ho0 (Kd.R_lt (by (with_reducible repeat (first | apply Kd.qh0 | apply Kd.qg0 | apply Kd.qm0)); exact HO384.out))) (Kd.R_lt (by (with_reducible repeat (first | apply Kd.qh0 | apply Kd.qg0 | apply Kd.qm0)); exact HO387.out))) (qs0 (by repeat (first | (with_reducible first | exact HB.out | apply qb0 | apply qa0 | apply qc0) | exact HB.out)))); have n4_ := Aside0.mk (qt0 (by repeat (first | (with_reducible first | exact HB.out | apply qb0 | apply qa0 | apply qc0) | exact HB.out)) hb); clear HO382; clear HO384; clear HO387; clear HB; have HO382 := n0_; have HO384 := n1_; have HO387 := n2_; have HO390 := n3_; have HB := n4_; clear n0_ n1_ n2_ n3_ n4_; (try clear hb); (try clear hb2); (try clear hk); (try clear hi); (try clear ho0); obtain ⟨Ao48, co48, eo48⟩ := Kd.qh1 HO390.out; subst eo48; obtain ⟨Ao49, co49, eo49⟩ := Kd.qh1 HO387.out; subst eo49))
 go_ret
 exact ⟨by first | rfl | (simp [errW_none, errW_some] <;> rfl) | (simp [*, errW_none, errW_some] <;> rfl), by repeat (first | (with_reducible first | exact HB.out | apply qb0 | apply qa0 | apply qc0) | exact HB.out)⟩

/-- THE ONE PURE STATEMENT of laws_FnRolled: yours. -/
def laws_FnRolled.Pure : Prop := ∀ (l0 : List Int), l0.length ≤ maxLen → l0.length * 1 ≤ 140737488351232 → (∀ x ∈ l0, (Lit.int .u8 x).wf = true) → ∃ k, laws_FnRolled.f k l0 = some true
theorem laws_FnRolled.walk (P : laws_FnRolled.Pure) (a0 : Option Addr) (len0 cap0 : Nat) (z0 : List Int) (w : World) (w0 : (a0 = none ∧ len0 = 0 ∧ cap0 = 0 ∧ z0 = []) ∨ ∃ x, a0 = some x ∧ len0 ≤ cap0 ∧ cap0 ≤ maxLen ∧ z0.length = cap0 ∧ (∀ i, i < z0.length → w.cell? (x.add i) = some (.int .u8 (z0.getD i 0))) ∧ ∀ n ∈ z0, (Lit.int .u8 n).wf = true) (y0 : len0 * 1 ≤ 140737488351232) :
  Calls Try.prog 3 #[.slice a0 len0 cap0] w fun e w' => e = .returned (.bool true) ∧ Below w.heap.size w w' := by
 obtain ⟨l0, rfl, hr0, hm0, hw0, hc0⟩ := qk1.ofRowC w0
 obtain ⟨k, h⟩ := P l0 hm0 y0 hw0
 refine (laws_FnRolled.calls k _ _ l0 true w (Kd.C_of_reads (d := (0 : Int)) (h1 := fun _ => rfl) hr0) hc0 h).mono ?_
 rintro e w' ⟨rfl, hd⟩
 exact ⟨rfl, hd⟩

end Go.Proofs.Ytdnhpicgjkddbaa.PFnRolled
