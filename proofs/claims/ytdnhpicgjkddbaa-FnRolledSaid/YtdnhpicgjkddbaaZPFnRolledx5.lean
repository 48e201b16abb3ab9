/- Lines by a program (a changed copy of the kit's print: this repo's wip/tools): Go functions as Lean functions, and proofs that the calls answer so. -/
import Derived.Test.YtdnhpicgjkddbaaZPFnRolledx0
import Derived.Test.YtdnhpicgjkddbaaZPFnRolledx4
namespace Go.Proofs.Ytdnhpicgjkddbaa.PFnRolled
open Go.RowKit Go.Proofs.YtdnhpicgjkddbaaW.PrintWords Go.Proofs.YtdnhpicgjkddbaaW.PrintLast Go.Proofs.YtdnhpicgjkddbaaW.PrintMore
attribute [local go_sem] max2_int min2_int max_two min_two max_three min_three max_four min_four   -- for this text's walks alone
set_option linter.unusedVariables false
set_option linter.unusedSimpArgs false

/-! ### impl_depths: function 78 -/
mutual
def impl_depths.j0 : Nat → List (S30) → Bool → Option (List Int × Bool)
 | 0, _, _ => none
 | k + 1, x0, x18 => if x18 = true then (some (([] : List Int), false)) else (if 0 ≤ (x0.length : Int) then (if ((x0.length : Int) : Int).toNat ≤ 35184372088832 then (impl_depths.l0 k x0 (([] : List (ByteArray × Int))) (List.replicate ((x0.length : Int) : Int).toNat 0) x0 (x0.length : Int) 0) else (none)) else (none))
def impl_depths.l0 : Nat → List (S30) → List (ByteArray × Int) → List Int → List (S30) → Int → Int → Option (List Int × Bool)
 | 0, _, _, _, _, _, _ => none
 | k + 1, x0, x4, x5, x23, x24, x25 => if x25 < x24 then (if 0 ≤ x25 then (if x25 < (x23.length : Int) then (if ((rd_T30 x23 x25).f0).size ≤ 9223372036854775807 then (if (mget x4 ((rd_T30 x23 x25).f0)).isSome = true then (impl_depths.j2 k x0 x4 x5 x25 x23 x24 x25 true ((rd_T30 x23 x25).f0) ((rd_T30 x23 x25).f1) ((rd_T30 x23 x25).f2)) else ((impl_NameOk.f k ((rd_T30 x23 x25).f0)).bind fun t297 => (if t297 = true then ((impl_kindOk.f ((rd_T30 x23 x25).f2)).bind fun t298 => (impl_depths.j2 k x0 x4 x5 x25 x23 x24 x25 (!t298) ((rd_T30 x23 x25).f0) ((rd_T30 x23 x25).f1) ((rd_T30 x23 x25).f2))) else (impl_depths.j2 k x0 x4 x5 x25 x23 x24 x25 true ((rd_T30 x23 x25).f0) ((rd_T30 x23 x25).f1) ((rd_T30 x23 x25).f2))))) else (none)) else (none)) else (none)) else (some (x5, true))
def impl_depths.j2 : Nat → List (S30) → List (ByteArray × Int) → List Int → Int → List (S30) → Int → Int → Bool → ByteArray → Int → Int → Option (List Int × Bool)
 | 0, _, _, _, _, _, _, _, _, _, _, _ => none
 | k + 1, x0, x4, x5, x6, x23, x24, x25, x49, x297000, x297001, x297002 => if x49 = true then (some (([] : List Int), false)) else (if x297000.size ≤ 9223372036854775807 then ((some (mset x4 x297000 x6 : List (ByteArray × Int))).bind fun y299 => (if x297001 = (-1) then (impl_depths.l0 k x0 y299 x5 x23 x24 (wrap64 (x25 + 1))) else (impl_depths.l1 k x0 y299 x5 x6 (wrap64 (x6 - 1)) x23 x24 x25 x297000 x297001 x297002))) else (none))
def impl_depths.l1 : Nat → List (S30) → List (ByteArray × Int) → List Int → Int → Int → List (S30) → Int → Int → ByteArray → Int → Int → Option (List Int × Bool)
 | 0, _, _, _, _, _, _, _, _, _, _, _ => none
 | k + 1, x0, x4, x5, x6, x10, x23, x24, x25, x297000, x297001, x297002 => if x10 ≥ 0 then (if x10 = x297001 then (if x10 < 0 then (some (([] : List Int), false)) else (if 0 ≤ x10 then (if x10 < (x0.length : Int) then (if ((rd_T30 x0 x10).f2) = x297002 then (if x10 < (x5.length : Int) then (if (rd x5 x10) ≥ 8 then (some (([] : List Int), false)) else (if 0 ≤ x6 then (if x6 < (x5.length : Int) then (impl_depths.l0 k x0 x4 (x5.set (x6 : Int).toNat (wrap64 ((rd x5 x10) + 1))) x23 x24 (wrap64 (x25 + 1))) else (none)) else (none))) else (none)) else (some (([] : List Int), false))) else (none)) else (none))) else (if 0 ≤ x10 then (if x10 < (x0.length : Int) then (impl_depths.l1 k x0 x4 x5 x6 ((rd_T30 x0 x10).f1) x23 x24 x25 x297000 x297001 x297002) else (none)) else (none))) else (if x10 < 0 then (some (([] : List Int), false)) else (if 0 ≤ x10 then (if x10 < (x0.length : Int) then (if ((rd_T30 x0 x10).f2) = x297002 then (if x10 < (x5.length : Int) then (if (rd x5 x10) ≥ 8 then (some (([] : List Int), false)) else (if 0 ≤ x6 then (if x6 < (x5.length : Int) then (impl_depths.l0 k x0 x4 (x5.set (x6 : Int).toNat (wrap64 ((rd x5 x10) + 1))) x23 x24 (wrap64 (x25 + 1))) else (none)) else (none))) else (none)) else (some (([] : List Int), false))) else (none)) else (none)))
end
def impl_depths.f (k : Nat) (l0 : List (S30)) : Option (List Int × Bool) := if (l0.length : Int) < 1 then (impl_depths.j0 k l0 true) else (impl_depths.j0 k l0 (decide ((l0.length : Int) > 120)))
theorem impl_depths.mono_l : ∀ k, (∀ y0 y1, LeO (impl_depths.j0 k y0 y1) (impl_depths.j0 (k + 1) y0 y1)) ∧ (∀ y0 y1 y2 y3 y4 y5, LeO (impl_depths.l0 k y0 y1 y2 y3 y4 y5) (impl_depths.l0 (k + 1) y0 y1 y2 y3 y4 y5)) ∧ (∀ y0 y1 y2 y3 y4 y5 y6 y7 y8 y9 y10, LeO (impl_depths.j2 k y0 y1 y2 y3 y4 y5 y6 y7 y8 y9 y10) (impl_depths.j2 (k + 1) y0 y1 y2 y3 y4 y5 y6 y7 y8 y9 y10)) ∧ (∀ y0 y1 y2 y3 y4 y5 y6 y7 y8 y9 y10, LeO (impl_depths.l1 k y0 y1 y2 y3 y4 y5 y6 y7 y8 y9 y10) (impl_depths.l1 (k + 1) y0 y1 y2 y3 y4 y5 y6 y7 y8 y9 y10))
 | 0 => ⟨fun _ _ r h => by simp [impl_depths.j0] at h, fun _ _ _ _ _ _ r h => by simp [impl_depths.l0] at h, fun _ _ _ _ _ _ _ _ _ _ _ r h => by simp [impl_depths.j2] at h, fun _ _ _ _ _ _ _ _ _ _ _ r h => by simp [impl_depths.l1] at h⟩
 | k + 1 => by
  obtain ⟨ih0, ih1, ih2, ih3⟩ := impl_depths.mono_l k
  refine ⟨?_, ?_, ?_, ?_⟩
  ·intro y0 y1
   unfold impl_depths.j0
   repeat' first
   | (with_reducible exact ih0 _ _)
   | (with_reducible exact ih1 _ _ _ _ _ _)
   | (with_reducible exact ih2 _ _ _ _ _ _ _ _ _ _ _)
   | (with_reducible exact ih3 _ _ _ _ _ _ _ _ _ _ _)
   | (with_reducible exact impl_NameOk.mono _ _)
   | (with_reducible exact LeO.refl _)
   | (with_reducible exact LeO.none _)
   | (with_reducible refine LeO.ite ?_ ?_)
   | (with_reducible refine LeO.bind ?_ (fun _ => ?_))
   | exact ih0 _ _
   | exact ih1 _ _ _ _ _ _
   | exact ih2 _ _ _ _ _ _ _ _ _ _ _
   | exact ih3 _ _ _ _ _ _ _ _ _ _ _
   | exact impl_NameOk.mono _ _
   | exact LeO.none _
   | refine LeO.ite ?_ ?_
   | refine LeO.bind ?_ (fun _ => ?_)
  ·intro y0 y1 y2 y3 y4 y5
   unfold impl_depths.l0
   repeat' first
   | (with_reducible exact ih0 _ _)
   | (with_reducible exact ih1 _ _ _ _ _ _)
   | (with_reducible exact ih2 _ _ _ _ _ _ _ _ _ _ _)
   | (with_reducible exact ih3 _ _ _ _ _ _ _ _ _ _ _)
   | (with_reducible exact impl_NameOk.mono _ _)
   | (with_reducible exact LeO.refl _)
   | (with_reducible exact LeO.none _)
   | (with_reducible refine LeO.ite ?_ ?_)
   | (with_reducible refine LeO.bind ?_ (fun _ => ?_))
   | exact ih0 _ _
   | exact ih1 _ _ _ _ _ _
   | exact ih2 _ _ _ _ _ _ _ _ _ _ _
   | exact ih3 _ _ _ _ _ _ _ _ _ _ _
   | exact impl_NameOk.mono _ _
   | exact LeO.none _
   | refine LeO.ite ?_ ?_
   | refine LeO.bind ?_ (fun _ => ?_)
  ·intro y0 y1 y2 y3 y4 y5 y6 y7 y8 y9 y10
   unfold impl_depths.j2
   repeat' first
   | (with_reducible exact ih0 _ _)
   | (with_reducible exact ih1 _ _ _ _ _ _)
   | (with_reducible exact ih2 _ _ _ _ _ _ _ _ _ _ _)
   | (with_reducible exact ih3 _ _ _ _ _ _ _ _ _ _ _)
   | (with_reducible exact impl_NameOk.mono _ _)
   | (with_reducible exact LeO.refl _)
   | (with_reducible exact LeO.none _)
   | (with_reducible refine LeO.ite ?_ ?_)
   | (with_reducible refine LeO.bind ?_ (fun _ => ?_))
   | exact ih0 _ _
   | exact ih1 _ _ _ _ _ _
   | exact ih2 _ _ _ _ _ _ _ _ _ _ _
   | exact ih3 _ _ _ _ _ _ _ _ _ _ _
   | exact impl_NameOk.mono _ _
   | exact LeO.none _
   | refine LeO.ite ?_ ?_
   | refine LeO.bind ?_ (fun _ => ?_)
  ·intro y0 y1 y2 y3 y4 y5 y6 y7 y8 y9 y10
   unfold impl_depths.l1
   repeat' first
   | (with_reducible exact ih0 _ _)
   | (with_reducible exact ih1 _ _ _ _ _ _)
   | (with_reducible exact ih2 _ _ _ _ _ _ _ _ _ _ _)
   | (with_reducible exact ih3 _ _ _ _ _ _ _ _ _ _ _)
   | (with_reducible exact impl_NameOk.mono _ _)
   | (with_reducible exact LeO.refl _)
   | (with_reducible exact LeO.none _)
   | (with_reducible refine LeO.ite ?_ ?_)
   | (with_reducible refine LeO.bind ?_ (fun _ => ?_))
   | exact ih0 _ _
   | exact ih1 _ _ _ _ _ _
   | exact ih2 _ _ _ _ _ _ _ _ _ _ _
   | exact ih3 _ _ _ _ _ _ _ _ _ _ _
   | exact impl_NameOk.mono _ _
   | exact LeO.none _
   | refine LeO.ite ?_ ?_
   | refine LeO.bind ?_ (fun _ => ?_)
theorem impl_depths.mono : ∀ a0 k, LeO (impl_depths.f k a0) (impl_depths.f (k + 1) a0) := by
 intro a0 k
 obtain ⟨ih0, ih1, ih2, ih3⟩ := impl_depths.mono_l k
 unfold impl_depths.f
 repeat' first
   | (with_reducible exact ih0 _ _)
   | (with_reducible exact ih1 _ _ _ _ _ _)
   | (with_reducible exact ih2 _ _ _ _ _ _ _ _ _ _ _)
   | (with_reducible exact ih3 _ _ _ _ _ _ _ _ _ _ _)
   | (with_reducible exact impl_NameOk.mono _ _)
   | (with_reducible exact LeO.refl _)
   | (with_reducible exact LeO.none _)
   | (with_reducible refine LeO.ite ?_ ?_)
   | (with_reducible refine LeO.bind ?_ (fun _ => ?_))
   | exact ih0 _ _
   | exact ih1 _ _ _ _ _ _
   | exact ih2 _ _ _ _ _ _ _ _ _ _ _
   | exact ih3 _ _ _ _ _ _ _ _ _ _ _
   | exact impl_NameOk.mono _ _
   | exact LeO.none _
   | refine LeO.ite ?_ ?_
   | refine LeO.bind ?_ (fun _ => ?_)
set_option maxHeartbeats 8000000 in
set_option maxRecDepth 100000 in
theorem impl_depths.calls (k : Nat) (A0 : Option Addr) (c0 : Nat) (l0 : List (S30)) (r1 : List Int) (r2 : Bool) (w : World) (hr0 : Kd.C k30 w A0 l0.length l0) (hc0 : l0.length ≤ c0) (h : impl_depths.f k l0 = some (r1, r2)) :
  Calls Try.prog 78 #[.slice A0 l0.length c0] w fun e w' => ∃ v0_ : Value, e = .returned (.tuple #[v0_, .bool r2]) ∧ Kd.R (Kd.int .i64) 3 w' w.heap.size (fun _ => True) v0_ r1 ∧ Below w.heap.size w w' := by
 have hu30 := Try.underlying30
 have HR0 := Aside0.mk hr0
 have HC0 := Aside0.mk hc0
 clear hr0 hc0
 have HB := Aside0.mk (Below.refl w.heap.size w)
 have H : (if (l0.length : Int) < 1 then (impl_depths.j0 k l0 true) else (impl_depths.j0 k l0 (decide ((l0.length : Int) > 120)))) = some (r1, r2) := h
 clear h
 have HC2 := Aside0.mk H
 clear H
 go_enter Try.func78, Try.ntmps78
 go_upto_region 1 with (fail)
 repeat (go_quiet (fail); go_upto_region 1 with (fail))
 go_cut [18] (fun v18 wc => ∃ (kq : Nat) (x18_1 : Bool), v18 = .bool x18_1 ∧ Aside0 (impl_depths.j0 kq l0 x18_1 = some (r1, r2)) ∧ Aside0 (kq ≤ k) ∧ Aside0 (Below w.heap.size w wc))
 case first =>
  have H := HC2.out
  clear HC2
  by_cases c3 : (l0.length : Int) < 1
  ·rw [if_pos c3] at H
   have c3b0 : decide ((l0.length : Int) < 1) = true := decide_eq_true c3
   have c3b1 : decide (l0.length < 1) = true := decide_eq_true (by omega)
   clear c3
   (first | rw [c3b0] | (simp only [i64_w, i32_w]; rw [c3b0]) | skip)
   have H' := Aside0.mk H
   clear H
   go_wp2
   repeat (go_quiet (fail); try go_wp2)
   go_meet
   case rel => exact ⟨_, (true), (by first | rfl | (simp; done) | (simp [*]; done)), H', ⟨by first | omega | exact Nat.le_refl _⟩, ⟨by repeat (first | (with_reducible first | exact HB.out | apply qb0 | apply qa0 | apply qc0) | exact HB.out)⟩⟩
  rw [if_neg c3] at H
  have c3b0 : decide ((l0.length : Int) < 1) = false := decide_eq_false c3
  have c3b1 : decide (l0.length < 1) = false := decide_eq_false (by omega)
  clear c3
  (first | rw [c3b0] | (simp only [i64_w, i32_w]; rw [c3b0]) | skip)
  have H' := Aside0.mk H
  clear H
  go_wp2
  repeat (go_quiet (fail); try go_wp2)
  go_meet
  case rel => exact ⟨_, (decide ((l0.length : Int) > 120)), (by first | rfl | (simp; done) | (simp [*]; done)), H', ⟨by first | omega | exact Nat.le_refl _⟩, ⟨by repeat (first | (with_reducible first | exact HB.out | apply qb0 | apply qa0 | apply qc0) | exact HB.out)⟩⟩
 case rest =>
  clear HC2
  try clear p2
  try clear c3
  try clear c3b0
  try clear c3b1
  obtain ⟨kq, x18_1, rfl, HA, HJ1, HB⟩ := hcut
  cases kq with
  | zero => exact absurd HA.out (by simp [impl_depths.j0])
  | succ kj1 =>
   have H := HA.out
   clear HA
   simp only [impl_depths.j0] at H
   by_cases c4 : x18_1 = true
   ·subst c4
    have H1 : (some (([] : List Int), false)) = some (r1, r2) := by rw [if_pos rfl] at H; exact H
    clear H
    have H := H1
    clear H1
    simp only [Option.some.injEq, Prod.mk.injEq] at H
    obtain ⟨rfl, rfl⟩ := H
    go_wp2
    repeat (go_quiet (fail); try go_wp2)
    go_ret2
    exact ⟨_, by first | rfl | (simp [errW_none, errW_some] <;> rfl) | (simp [*, errW_none, errW_some] <;> rfl), by first | exact Kd.R_nil _ _ _ _ _ | exact Kd.N_nil _ _ _ _ _ | exact Kd.V_nil _ _ _ _ _ | exact Kd.Q_nil _ _ _ _ _ | exact Kd.S_nil _ _ _ _ _, by repeat (first | (with_reducible first | exact HB.out | apply qb0 | apply qa0 | apply qc0) | exact HB.out)⟩
   replace c4 := Bool.eq_false_iff.mpr c4
   subst c4
   have H1 : (if 0 ≤ (l0.length : Int) then (if ((l0.length : Int) : Int).toNat ≤ 35184372088832 then (impl_depths.l0 kj1 l0 (([] : List (ByteArray × Int))) (List.replicate ((l0.length : Int) : Int).toNat 0) l0 (l0.length : Int) 0) else (none)) else (none)) = some (r1, r2) := by rw [if_neg (show ¬ (false = true) by decide)] at H; exact H
   clear H
   have H := H1
   clear H1
   obtain ⟨y288, hy288⟩ : ∃ y_ : List (ByteArray × Int), y_ = (([] : List (ByteArray × Int))) := ⟨_, rfl⟩
   replace H : (if 0 ≤ (l0.length : Int) then (if ((l0.length : Int) : Int).toNat ≤ 35184372088832 then (impl_depths.l0 kj1 l0 y288 (List.replicate ((l0.length : Int) : Int).toNat 0) l0 (l0.length : Int) 0) else (none)) else (none)) = some (r1, r2) := by first | (rw [hy288]; with_reducible exact H) | (have H2_ := (Option.bind_some _ _).symm.trans H; rw [hy288]; with_reducible exact H2_) | (have H2_ := (Option.bind_some _ _).symm.trans H; with_reducible exact H2_) | with_reducible exact H | (rw [hy288]; exact H) | exact H
   have Ny288 := Aside0.mk hy288
   clear hy288
   by_cases c5 : 0 ≤ (l0.length : Int)
   case neg => rw [if_neg c5] at H; exact absurd H (by simp)
   rw [if_pos c5] at H
   have c5b0 := eq_true c5
   have c5b1 : decide (0 ≤ (l0.length : Int)) = true := decide_eq_true c5
   clear c5
   by_cases c6 : ((l0.length : Int) : Int).toNat ≤ 35184372088832
   case neg => rw [if_neg c6] at H; exact absurd H (by simp)
   rw [if_pos c6] at H
   have c6b0 := eq_true c6
   have c6b1 : decide (((l0.length : Int) : Int).toNat ≤ 35184372088832) = true := decide_eq_true c6
   clear c6
   obtain ⟨y292, hy292⟩ : ∃ y_ : List Int, y_ = (List.replicate ((l0.length : Int) : Int).toNat 0) := ⟨_, rfl⟩
   replace H : (impl_depths.l0 kj1 l0 y288 y292 l0 (l0.length : Int) 0) = some (r1, r2) := by first | (rw [hy292]; with_reducible exact H) | (have H2_ := (Option.bind_some _ _).symm.trans H; rw [hy292]; with_reducible exact H2_) | (have H2_ := (Option.bind_some _ _).symm.trans H; with_reducible exact H2_) | with_reducible exact H | (rw [hy292]; exact H) | exact H
   have Ny292 := Aside0.mk hy292
   clear hy292
   have H' := Aside0.mk H
   clear H
   go_wp2_with (first | ((with_reducible refine qa1 (N := 19) rfl ?_); (try (refine qd1 (by rfl) ?_; dsimp only)); refine Kd.Z_make_op kz205 205 (ok := fun _ => True) rfl (N := 19) rfl rfl trivial ?_; intro mb291 hq_ w7 ho8 hb; rw [← Ny288.out] at ho8; have n0_ := Aside0.mk (qt0 (by repeat (first | (with_reducible first | exact HB.out | apply qb0 | apply qa0 | apply qc0) | exact HB.out)) hb); have n1_ := Aside0.mk (Kd.Z_lower ho8 (qs0 (by repeat (first | (with_reducible first | exact HB.out | apply qb0 | apply qa0 | apply qc0) | exact HB.out)))); clear HB; have HB := n0_; have HO290 := n1_; clear n0_ n1_; clear hb ho8 hq_) | ((with_reducible refine qa1 (N := 22) rfl ?_); (try (refine qd1 (by rfl) ?_; dsimp only)); refine Kd.R_make (Kd.int .i64) _ 3 rfl (N := 22) rfl 25 _ _ rfl (l0.length : Int) rfl rfl Try.underlying25 (.int .i64 0) 8 info3 rfl (by decide) (by omega) 0 (ok := fun _ => True) (okp := fun _ => True) rfl (fun _ hk => hk) trivial (of_decide_eq_true (by first | (with_reducible assumption) | assumption)) (Nat.le_trans (Nat.mul_le_mul_right _ (of_decide_eq_true (by first | (with_reducible assumption) | assumption) : (l0.length : Int).toNat ≤ 35184372088832)) (by omega)) (Below.refl _ _) (Nat.le_refl _) ?_; intro v293 w9 ho10 hb hg_ hnew_; clear hg_ hnew_; (first | rw [← Ny292.out] at ho10 | (simp only [Int.reduceToNat] at ho10; rw [← Ny292.out] at ho10)); have n0_ := Aside0.mk (Kd.Z_below (by (with_reducible repeat (first | apply Kd.Z_alloc | apply Kd.Z_drewN | apply Kd.Z_drew)); exact HO290.out) hb); have n1_ := Aside0.mk (Kd.qg1 ho10 (qs0 (by repeat (first | (with_reducible first | exact HB.out | apply qb0 | apply qa0 | apply qc0) | exact HB.out)))); have n2_ := Aside0.mk (qt0 (by repeat (first | (with_reducible first | exact HB.out | apply qb0 | apply qa0 | apply qc0) | exact HB.out)) hb); clear HO290; clear HB; have HO290 := n0_; have HO294 := n1_; have HB := n2_; clear n0_ n1_ n2_; clear hb ho10))
   repeat (go_quiet (first | ((with_reducible refine qa1 (N := 19) rfl ?_); (try (refine qd1 (by rfl) ?_; dsimp only)); refine Kd.Z_make_op kz205 205 (ok := fun _ => True) rfl (N := 19) rfl rfl trivial ?_; intro mb291 hq_ w7 ho8 hb; rw [← Ny288.out] at ho8; have n0_ := Aside0.mk (qt0 (by repeat (first | (with_reducible first | exact HB.out | apply qb0 | apply qa0 | apply qc0) | exact HB.out)) hb); have n1_ := Aside0.mk (Kd.Z_lower ho8 (qs0 (by repeat (first | (with_reducible first | exact HB.out | apply qb0 | apply qa0 | apply qc0) | exact HB.out)))); clear HB; have HB := n0_; have HO290 := n1_; clear n0_ n1_; clear hb ho8 hq_) | ((with_reducible refine qa1 (N := 22) rfl ?_); (try (refine qd1 (by rfl) ?_; dsimp only)); refine Kd.R_make (Kd.int .i64) _ 3 rfl (N := 22) rfl 25 _ _ rfl (l0.length : Int) rfl rfl Try.underlying25 (.int .i64 0) 8 info3 rfl (by decide) (by omega) 0 (ok := fun _ => True) (okp := fun _ => True) rfl (fun _ hk => hk) trivial (of_decide_eq_true (by first | (with_reducible assumption) | assumption)) (Nat.le_trans (Nat.mul_le_mul_right _ (of_decide_eq_true (by first | (with_reducible assumption) | assumption) : (l0.length : Int).toNat ≤ 35184372088832)) (by omega)) (Below.refl _ _) (Nat.le_refl _) ?_; intro v293 w9 ho10 hb hg_ hnew_; clear hg_ hnew_; (first | rw [← Ny292.out] at ho10 | (simp only [Int.reduceToNat] at ho10; rw [← Ny292.out] at ho10)); have n0_ := Aside0.mk (Kd.Z_below (by (with_reducible repeat (first | apply Kd.Z_alloc | apply Kd.Z_drewN | apply Kd.Z_drew)); exact HO290.out) hb); have n1_ := Aside0.mk (Kd.qg1 ho10 (qs0 (by repeat (first | (with_reducible first | exact HB.out | apply qb0 | apply qa0 | apply qc0) | exact HB.out)))); have n2_ := Aside0.mk (qt0 (by repeat (first | (with_reducible first | exact HB.out | apply qb0 | apply qa0 | apply qc0) | exact HB.out)) hb); clear HO290; clear HB; have HO290 := n0_; have HO294 := n1_; have HB := n2_; clear n0_ n1_ n2_; clear hb ho10)); try go_wp2_with (first | ((with_reducible refine qa1 (N := 19) rfl ?_); (try (refine qd1 (by rfl) ?_; dsimp only)); refine Kd.Z_make_op kz205 205 (ok := fun _ => True) rfl (N := 19) rfl rfl trivial ?_; intro mb291 hq_ w7 ho8 hb; rw [← Ny288.out] at ho8; have n0_ := Aside0.mk (qt0 (by repeat (first | (with_reducible first | exact HB.out | apply qb0 | apply qa0 | apply qc0) | exact HB.out)) hb); have n1_ := Aside0.mk (Kd.Z_lower ho8 (qs0 (by repeat (first | (with_reducible first | exact HB.out | apply qb0 | apply qa0 | apply qc0) | exact HB.out)))); clear HB; have HB := n0_; have HO290 := n1_; clear n0_ n1_; clear hb ho8 hq_) | ((with_reducible refine qa1 (N := 22) rfl ?_); (try (refine qd1 (by rfl) ?_; dsimp only)); refine Kd.R_make (Kd.int .i64) _ 3 rfl (N := 22) rfl 25 _ _ rfl (l0.length : Int) rfl rfl Try.underlying25 (.int .i64 0) 8 info3 rfl (by decide) (by omega) 0 (ok := fun _ => True) (okp := fun _ => True) rfl (fun _ hk => hk) trivial (of_decide_eq_true (by first | (with_reducible assumption) | assumption)) (Nat.le_trans (Nat.mul_le_mul_right _ (of_decide_eq_true (by first | (with_reducible assumption) | assumption) : (l0.length : Int).toNat ≤ 35184372088832)) (by omega)) (Below.refl _ _) (Nat.le_refl _) ?_; intro v293 w9 ho10 hb hg_ hnew_; clear hg_ hnew_; (first | rw [← Ny292.out] at ho10 | (simp only [Int.reduceToNat] at ho10; rw [← Ny292.out] at ho10)); have n0_ := Aside0.mk (Kd.Z_below (by (with_reducible repeat (first | apply Kd.Z_alloc | apply Kd.Z_drewN | apply Kd.Z_drew)); exact HO290.out) hb); have n1_ := Aside0.mk (Kd.qg1 ho10 (qs0 (by repeat (first | (with_reducible first | exact HB.out | apply qb0 | apply qa0 | apply qc0) | exact HB.out)))); have n2_ := Aside0.mk (qt0 (by repeat (first | (with_reducible first | exact HB.out | apply qb0 | apply qa0 | apply qc0) | exact HB.out)) hb); clear HO290; clear HB; have HO290 := n0_; have HO294 := n1_; have HB := n2_; clear n0_ n1_ n2_; clear hb ho10)))
   go_loopg [25] kj1 (fun kq v25 w' => ∃ (x4_2 : List (ByteArray × Int)) (x5_2 : List Int) (x25_2 : Int), v25 = .int .i64 x25_2 ∧ Aside0 (impl_depths.l0 kq l0 x4_2 x5_2 l0 (l0.length : Int) x25_2 = some (r1, r2)) ∧ Aside0 (kq ≤ kj1) ∧ Aside0 (Kd.Z kz205 205 w' w.heap.size (fun _ => True) (.map (some mb291)) x4_2) ∧ Aside0 (Kd.R (Kd.int .i64) 3 w' w.heap.size (fun _ => True) v293 x5_2) ∧ Aside0 (Below w.heap.size w w'))
   case atStart => exact ⟨(y288), (y292), (0), (by first | rfl | (simp; done) | (simp [*]; done)), H', ⟨Nat.le_refl _⟩, ⟨by (with_reducible repeat (first | apply Kd.Z_alloc | apply Kd.Z_drewN | apply Kd.Z_drew)); exact HO290.out⟩, ⟨by (with_reducible repeat (first | apply Kd.qh0 | apply Kd.qg0 | apply Kd.qm0)); exact HO294.out⟩, ⟨by repeat (first | (with_reducible first | exact HB.out | apply qb0 | apply qa0 | apply qc0) | exact HB.out)⟩⟩
   case round =>
    clear H'
    try clear p2
    try clear c3
    try clear c3b0
    try clear c3b1
    try clear c4
    try clear c5
    try clear c5b0
    try clear c5b1
    try clear c6
    try clear c6b0
    try clear c6b1
    try clear c7
    try clear p2
    obtain ⟨x4_2, x5_2, x25_2, rfl, HA, HK2, HO_4, HO_5, HB⟩ := hrel
    cases gk with
    | zero => exact absurd HA.out (by simp [impl_depths.l0])
    | succ k2 =>
     have H := HA.out
     clear HA
     simp only [impl_depths.l0] at H
     by_cases c11 : x25_2 < (l0.length : Int)
     ·rw [if_pos c11] at H
      have c11b0 : decide (x25_2 < (l0.length : Int)) = true := decide_eq_true c11
      clear c11
      by_cases c12 : 0 ≤ x25_2
      case neg => rw [if_neg c12] at H; exact absurd H (by simp)
      rw [if_pos c12] at H
      have c12b0 : decide (0 ≤ x25_2) = true := decide_eq_true c12
      clear c12
      by_cases c13 : x25_2 < (l0.length : Int)
      case neg => rw [if_neg c13] at H; exact absurd H (by simp)
      rw [if_pos c13] at H
      have c13b0 : decide (x25_2 < (l0.length : Int)) = true := decide_eq_true c13
      clear c13
      by_cases c14 : ((rd_T30 l0 x25_2).f0).size ≤ 9223372036854775807
      case neg => rw [if_neg c14] at H; exact absurd H (by simp)
      rw [if_pos c14] at H
      have LMc14 := Aside0.mk c14
      clear c14
      have HC15 := Aside0.mk H
      clear H
      obtain ⟨mq18, hmq18⟩ : ∃ b_ : Bool, b_ = ((mget x4_2 ((rd_T30 l0 x25_2).f0)).isSome) := ⟨_, rfl⟩
      have Nmq18 := Aside0.mk hmq18
      clear hmq18
      have p295 : 0 ≤ (x25_2 : Int) := of_decide_eq_true (by first | (with_reducible assumption) | assumption)
      have q295 : x25_2 < (l0.length : Int) := of_decide_eq_true (by first | (with_reducible assumption) | assumption)
      obtain ⟨ad295, e295, hx295_0, hx295_1, hx295_2⟩ := at_T30 HR0.out x25_2 p295 q295
      cases e295
      replace hx295_0 := (HB.out.cell (World.block_lt_of_cell? w _ hx295_0)).trans hx295_0
      replace hx295_1 := (HB.out.cell (World.block_lt_of_cell? w _ hx295_1)).trans hx295_1
      replace hx295_2 := (HB.out.cell (World.block_lt_of_cell? w _ hx295_2)).trans hx295_2
      replace p295 := eq_true p295
      replace q295 := eq_true q295
      go_upto_region 9 with (first | ((with_reducible refine qa1 (N := 7) rfl ?_); (try (refine qd1 (by rfl) ?_; dsimp only)); refine box_event ?hg (N := 7) ?hd (cs := #[.string (⟨#[]⟩ : ByteArray), .int .i64 0, .int .i64 0]) (t := 30) ?hr ?_; (case hd => rfl); (case hg => rfl); (case hr => first | (go_simp; done) | (go_simp; rfl)); intro gb296 hg w16 hbox hb; have n0_ := Aside0.mk (Kd.Z_below (by (with_reducible repeat (first | apply Kd.Z_alloc | apply Kd.Z_drewN | apply Kd.Z_drew)); exact HO_4.out) hb); have n1_ := Aside0.mk (Kd.ql1 (by (with_reducible repeat (first | apply Kd.qh0 | apply Kd.qg0 | apply Kd.qm0)); exact HO_5.out) hb); have n2_ := Aside0.mk (qt0 (by repeat (first | (with_reducible first | exact HB.out | apply qb0 | apply qa0 | apply qc0) | exact HB.out)) hb); have n3_ := Aside0.mk (hbox); have n4_ := Aside0.mk ((by rw [hg]; exact (qs0 (by repeat (first | (with_reducible first | exact HB.out | apply qb0 | apply qa0 | apply qc0) | exact HB.out))) : w.heap.size ≤ gb296)); have n5_ := Aside0.mk ((by rw [hg]; exact (qs0 (by repeat (first | (with_reducible first | exact HB.out | apply qb0 | apply qa0 | apply qc0) | exact HB.out))) : w.heap.size ≤ gb296)); clear HO_4; clear HO_5; clear HB; have HO_4 := n0_; have HO_5 := n1_; have HB := n2_; have BK296 := n3_; have GW296 := n4_; have GE296 := n5_; clear n0_ n1_ n2_ n3_ n4_ n5_; clear hb hbox hg; have hcz17_0 : w16.cell? ⟨gb296, 0, none⟩ = some (.string (⟨#[]⟩ : ByteArray)) := (qk0 BK296.out 0).trans rfl; have hcz17_1 : w16.cell? ⟨gb296, 1, none⟩ = some (.int .i64 0) := (qk0 BK296.out 1).trans rfl; have hcz17_2 : w16.cell? ⟨gb296, 2, none⟩ = some (.int .i64 0) := (qk0 BK296.out 2).trans rfl; have hfz17_0 := qe0 BK296.out 0; have hfz17_1 := qe0 BK296.out 1; have hfz17_2 := qe0 BK296.out 2) | ((with_reducible refine qa1 (N := 34) rfl ?_); (try (refine qd1 (by rfl) ?_; dsimp only)); refine Kd.Z_look2_op (base := w.heap.size) (ok := fun _ => True) kz205 205 rfl rfl _ _ 205 rfl kz205_K kz205_inj kz205_t 0 kz205_z mb291 x4_2 ((rd_T30 l0 x25_2).f0) rfl rfl (kz205_key ((rd_T30 l0 x25_2).f0) LMc14.out) ?aO (.int .i64 ((mget x4_2 ((rd_T30 l0 x25_2).f0)).getD 0)) rfl ?_; (case aO => exact (by (with_reducible repeat (first | apply Kd.Z_alloc | apply Kd.Z_drewN | apply Kd.Z_drew)); exact (Kd.Z_mono (Kd.Z_far (p := ⟨gb296, 2, none⟩) (Kd.Z_far (p := ⟨gb296, 1, none⟩) (Kd.Z_far (p := ⟨gb296, 0, none⟩) (Kd.Z_types HO_4.out BK296.out (by decide)) (fun _ hk => hk.2) (.string ((rd_T30 l0 x25_2).f0))) (fun _ hk => hk.2) (.int .i64 ((rd_T30 l0 x25_2).f1))) (fun _ hk => hk.2) (.int .i64 ((rd_T30 l0 x25_2).f2))) (fun _ h_ => h_.1)))); (try rw [← Nmq18.out])))
      repeat (go_quiet (first | ((with_reducible refine qa1 (N := 7) rfl ?_); (try (refine qd1 (by rfl) ?_; dsimp only)); refine box_event ?hg (N := 7) ?hd (cs := #[.string (⟨#[]⟩ : ByteArray), .int .i64 0, .int .i64 0]) (t := 30) ?hr ?_; (case hd => rfl); (case hg => rfl); (case hr => first | (go_simp; done) | (go_simp; rfl)); intro gb296 hg w16 hbox hb; have n0_ := Aside0.mk (Kd.Z_below (by (with_reducible repeat (first | apply Kd.Z_alloc | apply Kd.Z_drewN | apply Kd.Z_drew)); exact HO_4.out) hb); have n1_ := Aside0.mk (Kd.ql1 (by (with_reducible repeat (first | apply Kd.qh0 | apply Kd.qg0 | apply Kd.qm0)); exact HO_5.out) hb); have n2_ := Aside0.mk (qt0 (by repeat (first | (with_reducible first | exact HB.out | apply qb0 | apply qa0 | apply qc0) | exact HB.out)) hb); have n3_ := Aside0.mk (hbox); have n4_ := Aside0.mk ((by rw [hg]; exact (qs0 (by repeat (first | (with_reducible first | exact HB.out | apply qb0 | apply qa0 | apply qc0) | exact HB.out))) : w.heap.size ≤ gb296)); have n5_ := Aside0.mk ((by rw [hg]; exact (qs0 (by repeat (first | (with_reducible first | exact HB.out | apply qb0 | apply qa0 | apply qc0) | exact HB.out))) : w.heap.size ≤ gb296)); clear HO_4; clear HO_5; clear HB; have HO_4 := n0_; have HO_5 := n1_; have HB := n2_; have BK296 := n3_; have GW296 := n4_; have GE296 := n5_; clear n0_ n1_ n2_ n3_ n4_ n5_; clear hb hbox hg; have hcz17_0 : w16.cell? ⟨gb296, 0, none⟩ = some (.string (⟨#[]⟩ : ByteArray)) := (qk0 BK296.out 0).trans rfl; have hcz17_1 : w16.cell? ⟨gb296, 1, none⟩ = some (.int .i64 0) := (qk0 BK296.out 1).trans rfl; have hcz17_2 : w16.cell? ⟨gb296, 2, none⟩ = some (.int .i64 0) := (qk0 BK296.out 2).trans rfl; have hfz17_0 := qe0 BK296.out 0; have hfz17_1 := qe0 BK296.out 1; have hfz17_2 := qe0 BK296.out 2) | ((with_reducible refine qa1 (N := 34) rfl ?_); (try (refine qd1 (by rfl) ?_; dsimp only)); refine Kd.Z_look2_op (base := w.heap.size) (ok := fun _ => True) kz205 205 rfl rfl _ _ 205 rfl kz205_K kz205_inj kz205_t 0 kz205_z mb291 x4_2 ((rd_T30 l0 x25_2).f0) rfl rfl (kz205_key ((rd_T30 l0 x25_2).f0) LMc14.out) ?aO (.int .i64 ((mget x4_2 ((rd_T30 l0 x25_2).f0)).getD 0)) rfl ?_; (case aO => exact (by (with_reducible repeat (first | apply Kd.Z_alloc | apply Kd.Z_drewN | apply Kd.Z_drew)); exact (Kd.Z_mono (Kd.Z_far (p := ⟨gb296, 2, none⟩) (Kd.Z_far (p := ⟨gb296, 1, none⟩) (Kd.Z_far (p := ⟨gb296, 0, none⟩) (Kd.Z_types HO_4.out BK296.out (by decide)) (fun _ hk => hk.2) (.string ((rd_T30 l0 x25_2).f0))) (fun _ hk => hk.2) (.int .i64 ((rd_T30 l0 x25_2).f1))) (fun _ hk => hk.2) (.int .i64 ((rd_T30 l0 x25_2).f2))) (fun _ h_ => h_.1)))); (try rw [← Nmq18.out]))); go_upto_region 9 with (first | ((with_reducible refine qa1 (N := 7) rfl ?_); (try (refine qd1 (by rfl) ?_; dsimp only)); refine box_event ?hg (N := 7) ?hd (cs := #[.string (⟨#[]⟩ : ByteArray), .int .i64 0, .int .i64 0]) (t := 30) ?hr ?_; (case hd => rfl); (case hg => rfl); (case hr => first | (go_simp; done) | (go_simp; rfl)); intro gb296 hg w16 hbox hb; have n0_ := Aside0.mk (Kd.Z_below (by (with_reducible repeat (first | apply Kd.Z_alloc | apply Kd.Z_drewN | apply Kd.Z_drew)); exact HO_4.out) hb); have n1_ := Aside0.mk (Kd.ql1 (by (with_reducible repeat (first | apply Kd.qh0 | apply Kd.qg0 | apply Kd.qm0)); exact HO_5.out) hb); have n2_ := Aside0.mk (qt0 (by repeat (first | (with_reducible first | exact HB.out | apply qb0 | apply qa0 | apply qc0) | exact HB.out)) hb); have n3_ := Aside0.mk (hbox); have n4_ := Aside0.mk ((by rw [hg]; exact (qs0 (by repeat (first | (with_reducible first | exact HB.out | apply qb0 | apply qa0 | apply qc0) | exact HB.out))) : w.heap.size ≤ gb296)); have n5_ := Aside0.mk ((by rw [hg]; exact (qs0 (by repeat (first | (with_reducible first | exact HB.out | apply qb0 | apply qa0 | apply qc0) | exact HB.out))) : w.heap.size ≤ gb296)); clear HO_4; clear HO_5; clear HB; have HO_4 := n0_; have HO_5 := n1_; have HB := n2_; have BK296 := n3_; have GW296 := n4_; have GE296 := n5_; clear n0_ n1_ n2_ n3_ n4_ n5_; clear hb hbox hg; have hcz17_0 : w16.cell? ⟨gb296, 0, none⟩ = some (.string (⟨#[]⟩ : ByteArray)) := (qk0 BK296.out 0).trans rfl; have hcz17_1 : w16.cell? ⟨gb296, 1, none⟩ = some (.int .i64 0) := (qk0 BK296.out 1).trans rfl; have hcz17_2 : w16.cell? ⟨gb296, 2, none⟩ = some (.int .i64 0) := (qk0 BK296.out 2).trans rfl; have hfz17_0 := qe0 BK296.out 0; have hfz17_1 := qe0 BK296.out 1; have hfz17_2 := qe0 BK296.out 2) | ((with_reducible refine qa1 (N := 34) rfl ?_); (try (refine qd1 (by rfl) ?_; dsimp only)); refine Kd.Z_look2_op (base := w.heap.size) (ok := fun _ => True) kz205 205 rfl rfl _ _ 205 rfl kz205_K kz205_inj kz205_t 0 kz205_z mb291 x4_2 ((rd_T30 l0 x25_2).f0) rfl rfl (kz205_key ((rd_T30 l0 x25_2).f0) LMc14.out) ?aO (.int .i64 ((mget x4_2 ((rd_T30 l0 x25_2).f0)).getD 0)) rfl ?_; (case aO => exact (by (with_reducible repeat (first | apply Kd.Z_alloc | apply Kd.Z_drewN | apply Kd.Z_drew)); exact (Kd.Z_mono (Kd.Z_far (p := ⟨gb296, 2, none⟩) (Kd.Z_far (p := ⟨gb296, 1, none⟩) (Kd.Z_far (p := ⟨gb296, 0, none⟩) (Kd.Z_types HO_4.out BK296.out (by decide)) (fun _ hk => hk.2) (.string ((rd_T30 l0 x25_2).f0))) (fun _ hk => hk.2) (.int .i64 ((rd_T30 l0 x25_2).f1))) (fun _ hk => hk.2) (.int .i64 ((rd_T30 l0 x25_2).f2))) (fun _ h_ => h_.1)))); (try rw [← Nmq18.out]))))
      (try simp only [Act.put, List.setIfInBounds_toArray, List.set_cons_zero, List.set_cons_succ])
      go_cut [49] (fun v49 wc => ∃ (kq : Nat) (x49_14 : Bool), v49 = .bool x49_14 ∧ Aside0 (impl_depths.j2 kq l0 x4_2 x5_2 x25_2 l0 (l0.length : Int) x25_2 x49_14 ((rd_T30 l0 x25_2).f0) ((rd_T30 l0 x25_2).f1) ((rd_T30 l0 x25_2).f2) = some (r1, r2)) ∧ Aside0 (kq ≤ k2) ∧ Aside0 (Kd.Z kz205 205 wc w.heap.size (fun _ => True) (.map (some mb291)) x4_2) ∧ Aside0 (Kd.R (Kd.int .i64) 3 wc w.heap.size (fun _ => True) v293 x5_2) ∧ Aside0 (wc.heap[gb296]? = some (.cells #[.string ((rd_T30 l0 x25_2).f0), .int .i64 ((rd_T30 l0 x25_2).f1), .int .i64 ((rd_T30 l0 x25_2).f2)] 30 (0, 0))) ∧ Aside0 (Below w.heap.size w wc))
      case first =>
       have H := HC15.out
       clear HC15
       replace H : (if mq18 = true then (impl_depths.j2 k2 l0 x4_2 x5_2 x25_2 l0 (l0.length : Int) x25_2 true ((rd_T30 l0 x25_2).f0) ((rd_T30 l0 x25_2).f1) ((rd_T30 l0 x25_2).f2)) else ((impl_NameOk.f k2 ((rd_T30 l0 x25_2).f0)).bind fun t297 => (if t297 = true then ((impl_kindOk.f ((rd_T30 l0 x25_2).f2)).bind fun t298 => (impl_depths.j2 k2 l0 x4_2 x5_2 x25_2 l0 (l0.length : Int) x25_2 (!t298) ((rd_T30 l0 x25_2).f0) ((rd_T30 l0 x25_2).f1) ((rd_T30 l0 x25_2).f2))) else (impl_depths.j2 k2 l0 x4_2 x5_2 x25_2 l0 (l0.length : Int) x25_2 true ((rd_T30 l0 x25_2).f0) ((rd_T30 l0 x25_2).f1) ((rd_T30 l0 x25_2).f2))))) = some (r1, r2) := by rw [← Nmq18.out] at H; exact H
       by_cases c19 : mq18 = true
       ·subst c19
        have H1 : (impl_depths.j2 k2 l0 x4_2 x5_2 x25_2 l0 (l0.length : Int) x25_2 true ((rd_T30 l0 x25_2).f0) ((rd_T30 l0 x25_2).f1) ((rd_T30 l0 x25_2).f2)) = some (r1, r2) := by rw [if_pos rfl] at H; exact H
        clear H
        have H := H1
        clear H1
        have H' := Aside0.mk H
        clear H
        go_wp2
        repeat (go_quiet (fail); try go_wp2)
        go_meet
        case rel => exact ⟨_, (true), (by first | rfl | (simp; done) | (simp [*]; done)), H', ⟨by have := HJ1.out; have := HK2.out; first | omega | exact Nat.le_refl _⟩, ⟨by (with_reducible repeat (first | apply Kd.Z_alloc | apply Kd.Z_drewN | apply Kd.Z_drew)); exact Kd.Z_mono (Kd.Z_far (p := ⟨gb296, 2, none⟩) (Kd.Z_far (p := ⟨gb296, 1, none⟩) (Kd.Z_far (p := ⟨gb296, 0, none⟩) (Kd.Z_types HO_4.out BK296.out (by decide)) (fun _ hk => hk.2) (.string ((rd_T30 l0 x25_2).f0))) (fun _ hk => hk.2) (.int .i64 ((rd_T30 l0 x25_2).f1))) (fun _ hk => hk.2) (.int .i64 ((rd_T30 l0 x25_2).f2))) (fun _ hk => trivial)⟩, ⟨by (with_reducible repeat (first | apply Kd.qh0 | apply Kd.qg0 | apply Kd.qm0)); exact Kd.qu0 (Kd.R_far (p := ⟨gb296, 2, none⟩) (Kd.R_far (p := ⟨gb296, 1, none⟩) (Kd.R_far (p := ⟨gb296, 0, none⟩) (Kd.R_types HO_5.out BK296.out (by decide)) (fun _ hk => hk.2) (.string ((rd_T30 l0 x25_2).f0))) (fun _ hk => hk.2) (.int .i64 ((rd_T30 l0 x25_2).f1))) (fun _ hk => hk.2) (.int .i64 ((rd_T30 l0 x25_2).f2))) (fun _ hk => trivial)⟩, ⟨by (with_reducible repeat (first | refine qn0 ?_ _ | refine qq0 ?_ | refine qo0 ?_ _)); refine qb1 (cs := #[.string ((rd_T30 l0 x25_2).f0), .int .i64 ((rd_T30 l0 x25_2).f1), .int .i64 0]) ?_ 2 _ rfl; (with_reducible repeat (first | refine qn0 ?_ _ | refine qq0 ?_ | refine qo0 ?_ _)); refine qb1 (cs := #[.string ((rd_T30 l0 x25_2).f0), .int .i64 0, .int .i64 0]) ?_ 1 _ rfl; (with_reducible repeat (first | refine qn0 ?_ _ | refine qq0 ?_ | refine qo0 ?_ _)); refine qb1 (cs := #[.string (⟨#[]⟩ : ByteArray), .int .i64 0, .int .i64 0]) ?_ 0 _ rfl; (with_reducible repeat (first | refine qn0 ?_ _ | refine qq0 ?_ | refine qo0 ?_ _)); exact BK296.out⟩, ⟨by repeat (first | (with_reducible first | exact HB.out | apply qb0 | apply qa0 | apply qc0 | refine qd0 ?_ GE296.out) | exact HB.out)⟩⟩
       replace c19 := Bool.eq_false_iff.mpr c19
       subst c19
       have H1 : ((impl_NameOk.f k2 ((rd_T30 l0 x25_2).f0)).bind fun t297 => (if t297 = true then ((impl_kindOk.f ((rd_T30 l0 x25_2).f2)).bind fun t298 => (impl_depths.j2 k2 l0 x4_2 x5_2 x25_2 l0 (l0.length : Int) x25_2 (!t298) ((rd_T30 l0 x25_2).f0) ((rd_T30 l0 x25_2).f1) ((rd_T30 l0 x25_2).f2))) else (impl_depths.j2 k2 l0 x4_2 x5_2 x25_2 l0 (l0.length : Int) x25_2 true ((rd_T30 l0 x25_2).f0) ((rd_T30 l0 x25_2).f1) ((rd_T30 l0 x25_2).f2)))) = some (r1, r2) := by rw [if_neg (show ¬ (false = true) by decide)] at H; exact H
       clear H
       have H := H1
       clear H1
       replace H := Option.bind_eq_some_iff.mp H
       obtain ⟨t297, A200, H⟩ := H
       replace H : (if t297 = true then ((impl_kindOk.f ((rd_T30 l0 x25_2).f2)).bind fun t298 => (impl_depths.j2 k2 l0 x4_2 x5_2 x25_2 l0 (l0.length : Int) x25_2 (!t298) ((rd_T30 l0 x25_2).f0) ((rd_T30 l0 x25_2).f1) ((rd_T30 l0 x25_2).f2))) else (impl_depths.j2 k2 l0 x4_2 x5_2 x25_2 l0 (l0.length : Int) x25_2 true ((rd_T30 l0 x25_2).f0) ((rd_T30 l0 x25_2).f1) ((rd_T30 l0 x25_2).f2))) = some (r1, r2) := H
       have A20 := Aside0.mk A200
       clear A200
       by_cases c21 : t297 = true
       ·subst c21
        have H1 : ((impl_kindOk.f ((rd_T30 l0 x25_2).f2)).bind fun t298 => (impl_depths.j2 k2 l0 x4_2 x5_2 x25_2 l0 (l0.length : Int) x25_2 (!t298) ((rd_T30 l0 x25_2).f0) ((rd_T30 l0 x25_2).f1) ((rd_T30 l0 x25_2).f2))) = some (r1, r2) := by rw [if_pos rfl] at H; exact H
        clear H
        have H := H1
        clear H1
        replace H := Option.bind_eq_some_iff.mp H
        obtain ⟨t298, A220, H⟩ := H
        replace H : (impl_depths.j2 k2 l0 x4_2 x5_2 x25_2 l0 (l0.length : Int) x25_2 (!t298) ((rd_T30 l0 x25_2).f0) ((rd_T30 l0 x25_2).f1) ((rd_T30 l0 x25_2).f2)) = some (r1, r2) := H
        have A22 := Aside0.mk A220
        clear A220
        have H' := Aside0.mk H
        clear H
        have hcz23_0 : w16.cell? ⟨gb296, 0, none⟩ = some (.string (⟨#[]⟩ : ByteArray)) := (qk0 BK296.out 0).trans rfl
        have hcz23_1 : w16.cell? ⟨gb296, 1, none⟩ = some (.int .i64 0) := (qk0 BK296.out 1).trans rfl
        have hcz23_2 : w16.cell? ⟨gb296, 2, none⟩ = some (.int .i64 0) := (qk0 BK296.out 2).trans rfl
        have hfz23_0 := qe0 BK296.out 0
        have hfz23_1 := qe0 BK296.out 1
        have hfz23_2 := qe0 BK296.out 2
        go_wp2_with (first | (go_at_call 86; (with_reducible refine (impl_NameOk.calls k2 ((rd_T30 l0 x25_2).f0) true _ A20.out).mono ?_); rintro e w' ⟨rfl, ⟨nd, rfl⟩⟩; (try first | exact ⟨rfl, _, World.drewN_drewN _ _ _⟩ | exact ⟨rfl, _, Eq.trans (World.drewN_drewN _ _ _) (congrArg (World.drewN _) (Nat.add_assoc _ _ _))⟩)) | (go_at_call 152; (with_reducible refine (impl_kindOk.calls ((rd_T30 l0 x25_2).f2) t298 _ A22.out).mono ?_); rintro e w' ⟨rfl, ⟨nd, rfl⟩⟩; (try first | exact ⟨rfl, _, World.drewN_drewN _ _ _⟩ | exact ⟨rfl, _, Eq.trans (World.drewN_drewN _ _ _) (congrArg (World.drewN _) (Nat.add_assoc _ _ _))⟩)))
        repeat (go_quiet (first | (go_at_call 86; (with_reducible refine (impl_NameOk.calls k2 ((rd_T30 l0 x25_2).f0) true _ A20.out).mono ?_); rintro e w' ⟨rfl, ⟨nd, rfl⟩⟩; (try first | exact ⟨rfl, _, World.drewN_drewN _ _ _⟩ | exact ⟨rfl, _, Eq.trans (World.drewN_drewN _ _ _) (congrArg (World.drewN _) (Nat.add_assoc _ _ _))⟩)) | (go_at_call 152; (with_reducible refine (impl_kindOk.calls ((rd_T30 l0 x25_2).f2) t298 _ A22.out).mono ?_); rintro e w' ⟨rfl, ⟨nd, rfl⟩⟩; (try first | exact ⟨rfl, _, World.drewN_drewN _ _ _⟩ | exact ⟨rfl, _, Eq.trans (World.drewN_drewN _ _ _) (congrArg (World.drewN _) (Nat.add_assoc _ _ _))⟩))); try go_wp2_with (first | (go_at_call 86; (with_reducible refine (impl_NameOk.calls k2 ((rd_T30 l0 x25_2).f0) true _ A20.out).mono ?_); rintro e w' ⟨rfl, ⟨nd, rfl⟩⟩; (try first | exact ⟨rfl, _, World.drewN_drewN _ _ _⟩ | exact ⟨rfl, _, Eq.trans (World.drewN_drewN _ _ _) (congrArg (World.drewN _) (Nat.add_assoc _ _ _))⟩)) | (go_at_call 152; (with_reducible refine (impl_kindOk.calls ((rd_T30 l0 x25_2).f2) t298 _ A22.out).mono ?_); rintro e w' ⟨rfl, ⟨nd, rfl⟩⟩; (try first | exact ⟨rfl, _, World.drewN_drewN _ _ _⟩ | exact ⟨rfl, _, Eq.trans (World.drewN_drewN _ _ _) (congrArg (World.drewN _) (Nat.add_assoc _ _ _))⟩))))
        go_meet
        case rel => exact ⟨_, (!t298), (by first | rfl | (simp; done) | (simp [*]; done)), H', ⟨by have := HJ1.out; have := HK2.out; first | omega | exact Nat.le_refl _⟩, ⟨by (with_reducible repeat (first | apply Kd.Z_alloc | apply Kd.Z_drewN | apply Kd.Z_drew)); exact Kd.Z_mono (Kd.Z_far (p := ⟨gb296, 2, none⟩) (Kd.Z_far (p := ⟨gb296, 1, none⟩) (Kd.Z_far (p := ⟨gb296, 0, none⟩) (Kd.Z_types HO_4.out BK296.out (by decide)) (fun _ hk => hk.2) (.string ((rd_T30 l0 x25_2).f0))) (fun _ hk => hk.2) (.int .i64 ((rd_T30 l0 x25_2).f1))) (fun _ hk => hk.2) (.int .i64 ((rd_T30 l0 x25_2).f2))) (fun _ hk => trivial)⟩, ⟨by (with_reducible repeat (first | apply Kd.qh0 | apply Kd.qg0 | apply Kd.qm0)); exact Kd.qu0 (Kd.R_far (p := ⟨gb296, 2, none⟩) (Kd.R_far (p := ⟨gb296, 1, none⟩) (Kd.R_far (p := ⟨gb296, 0, none⟩) (Kd.R_types HO_5.out BK296.out (by decide)) (fun _ hk => hk.2) (.string ((rd_T30 l0 x25_2).f0))) (fun _ hk => hk.2) (.int .i64 ((rd_T30 l0 x25_2).f1))) (fun _ hk => hk.2) (.int .i64 ((rd_T30 l0 x25_2).f2))) (fun _ hk => trivial)⟩, ⟨by (with_reducible repeat (first | refine qn0 ?_ _ | refine qq0 ?_ | refine qo0 ?_ _)); refine qb1 (cs := #[.string ((rd_T30 l0 x25_2).f0), .int .i64 ((rd_T30 l0 x25_2).f1), .int .i64 0]) ?_ 2 _ rfl; (with_reducible repeat (first | refine qn0 ?_ _ | refine qq0 ?_ | refine qo0 ?_ _)); refine qb1 (cs := #[.string ((rd_T30 l0 x25_2).f0), .int .i64 0, .int .i64 0]) ?_ 1 _ rfl; (with_reducible repeat (first | refine qn0 ?_ _ | refine qq0 ?_ | refine qo0 ?_ _)); refine qb1 (cs := #[.string (⟨#[]⟩ : ByteArray), .int .i64 0, .int .i64 0]) ?_ 0 _ rfl; (with_reducible repeat (first | refine qn0 ?_ _ | refine qq0 ?_ | refine qo0 ?_ _)); exact BK296.out⟩, ⟨by repeat (first | (with_reducible first | exact HB.out | apply qb0 | apply qa0 | apply qc0 | refine qd0 ?_ GE296.out) | exact HB.out)⟩⟩
       replace c21 := Bool.eq_false_iff.mpr c21
       subst c21
       have H1 : (impl_depths.j2 k2 l0 x4_2 x5_2 x25_2 l0 (l0.length : Int) x25_2 true ((rd_T30 l0 x25_2).f0) ((rd_T30 l0 x25_2).f1) ((rd_T30 l0 x25_2).f2)) = some (r1, r2) := by rw [if_neg (show ¬ (false = true) by decide)] at H; exact H
       clear H
       have H := H1
       clear H1
       have H' := Aside0.mk H
       clear H
       have hcz24_0 : w16.cell? ⟨gb296, 0, none⟩ = some (.string (⟨#[]⟩ : ByteArray)) := (qk0 BK296.out 0).trans rfl
       have hcz24_1 : w16.cell? ⟨gb296, 1, none⟩ = some (.int .i64 0) := (qk0 BK296.out 1).trans rfl
       have hcz24_2 : w16.cell? ⟨gb296, 2, none⟩ = some (.int .i64 0) := (qk0 BK296.out 2).trans rfl
       have hfz24_0 := qe0 BK296.out 0
       have hfz24_1 := qe0 BK296.out 1
       have hfz24_2 := qe0 BK296.out 2
       go_wp2_with (first | (go_at_call 86; (with_reducible refine (impl_NameOk.calls k2 ((rd_T30 l0 x25_2).f0) false _ A20.out).mono ?_); rintro e w' ⟨rfl, ⟨nd, rfl⟩⟩; (try first | exact ⟨rfl, _, World.drewN_drewN _ _ _⟩ | exact ⟨rfl, _, Eq.trans (World.drewN_drewN _ _ _) (congrArg (World.drewN _) (Nat.add_assoc _ _ _))⟩)))
       repeat (go_quiet (first | (go_at_call 86; (with_reducible refine (impl_NameOk.calls k2 ((rd_T30 l0 x25_2).f0) false _ A20.out).mono ?_); rintro e w' ⟨rfl, ⟨nd, rfl⟩⟩; (try first | exact ⟨rfl, _, World.drewN_drewN _ _ _⟩ | exact ⟨rfl, _, Eq.trans (World.drewN_drewN _ _ _) (congrArg (World.drewN _) (Nat.add_assoc _ _ _))⟩))); try go_wp2_with (first | (go_at_call 86; (with_reducible refine (impl_NameOk.calls k2 ((rd_T30 l0 x25_2).f0) false _ A20.out).mono ?_); rintro e w' ⟨rfl, ⟨nd, rfl⟩⟩; (try first | exact ⟨rfl, _, World.drewN_drewN _ _ _⟩ | exact ⟨rfl, _, Eq.trans (World.drewN_drewN _ _ _) (congrArg (World.drewN _) (Nat.add_assoc _ _ _))⟩))))
       go_meet
       case rel => exact ⟨_, (true), (by first | rfl | (simp; done) | (simp [*]; done)), H', ⟨by have := HJ1.out; have := HK2.out; first | omega | exact Nat.le_refl _⟩, ⟨by (with_reducible repeat (first | apply Kd.Z_alloc | apply Kd.Z_drewN | apply Kd.Z_drew)); exact Kd.Z_mono (Kd.Z_far (p := ⟨gb296, 2, none⟩) (Kd.Z_far (p := ⟨gb296, 1, none⟩) (Kd.Z_far (p := ⟨gb296, 0, none⟩) (Kd.Z_types HO_4.out BK296.out (by decide)) (fun _ hk => hk.2) (.string ((rd_T30 l0 x25_2).f0))) (fun _ hk => hk.2) (.int .i64 ((rd_T30 l0 x25_2).f1))) (fun _ hk => hk.2) (.int .i64 ((rd_T30 l0 x25_2).f2))) (fun _ hk => trivial)⟩, ⟨by (with_reducible repeat (first | apply Kd.qh0 | apply Kd.qg0 | apply Kd.qm0)); exact Kd.qu0 (Kd.R_far (p := ⟨gb296, 2, none⟩) (Kd.R_far (p := ⟨gb296, 1, none⟩) (Kd.R_far (p := ⟨gb296, 0, none⟩) (Kd.R_types HO_5.out BK296.out (by decide)) (fun _ hk => hk.2) (.string ((rd_T30 l0 x25_2).f0))) (fun _ hk => hk.2) (.int .i64 ((rd_T30 l0 x25_2).f1))) (fun _ hk => hk.2) (.int .i64 ((rd_T30 l0 x25_2).f2))) (fun _ hk => trivial)⟩, ⟨by (with_reducible repeat (first | refine qn0 ?_ _ | refine qq0 ?_ | refine qo0 ?_ _)); refine qb1 (cs := #[.string ((rd_T30 l0 x25_2).f0), .int .i64 ((rd_T30 l0 x25_2).f1), .int .i64 0]) ?_ 2 _ rfl; (with_reducible repeat (first | refine qn0 ?_ _ | refine qq0 ?_ | refine qo0 ?_ _)); refine qb1 (cs := #[.string ((rd_T30 l0 x25_2).f0), .int .i64 0, .int .i64 0]) ?_ 1 _ rfl; (with_reducible repeat (first | refine qn0 ?_ _ | refine qq0 ?_ | refine qo0 ?_ _)); refine qb1 (cs := #[.string (⟨#[]⟩ : ByteArray), .int .i64 0, .int .i64 0]) ?_ 0 _ rfl; (with_reducible repeat (first | refine qn0 ?_ _ | refine qq0 ?_ | refine qo0 ?_ _)); exact BK296.out⟩, ⟨by repeat (first | (with_reducible first | exact HB.out | apply qb0 | apply qa0 | apply qc0 | refine qd0 ?_ GE296.out) | exact HB.out)⟩⟩
      case rest =>
       clear HC15
       try clear c1
       try clear q1
       try clear c2
       try clear p2
       try clear q2
       try clear hx2
       try clear c3
       try clear c3b0
       try clear c3b1
       try clear c4
       try clear c5
       try clear c5b0
       try clear c5b1
       try clear c6
       try clear c6b0
       try clear c6b1
       try clear c7
       try clear c11
       try clear c11b0
       try clear c12
       try clear c12b0
       try clear c13
       try clear c13b0
       try clear c14
       try clear q18
       try clear c19
       try clear c21
       try clear hcz17_0
       try clear hcz17_1
       try clear hcz17_2
       try clear hcz23_0
       try clear hcz23_1
       try clear hcz23_2
       try clear hcz24_0
       try clear hcz24_1
       try clear hcz24_2
       try clear hfz17_0
       try clear hfz17_1
       try clear hfz17_2
       try clear hfz23_0
       try clear hfz23_1
       try clear hfz23_2
       try clear hfz24_0
       try clear hfz24_1
       try clear hfz24_2
       try clear hx295_0
       try clear hx295_1
       try clear hx295_2
       try clear p2
       try clear p295
       try clear q295
       obtain ⟨kq, x49_14, rfl, HA, HJ14, HO_4, HO_5, BK296, HB⟩ := hcut
       cases kq with
       | zero => exact absurd HA.out (by simp [impl_depths.j2])
       | succ kj14 =>
        have H := HA.out
        clear HA
        simp only [impl_depths.j2] at H
        by_cases c25 : x49_14 = true
        ·subst c25
         have H1 : (some (([] : List Int), false)) = some (r1, r2) := by rw [if_pos rfl] at H; exact H
         clear H
         have H := H1
         clear H1
         simp only [Option.some.injEq, Prod.mk.injEq] at H
         obtain ⟨rfl, rfl⟩ := H
         go_wp2
         repeat (go_quiet (fail); try go_wp2)
         go_ret2
         exact ⟨_, by first | rfl | (simp [errW_none, errW_some] <;> rfl) | (simp [*, errW_none, errW_some] <;> rfl), by first | exact Kd.R_nil _ _ _ _ _ | exact Kd.N_nil _ _ _ _ _ | exact Kd.V_nil _ _ _ _ _ | exact Kd.Q_nil _ _ _ _ _ | exact Kd.S_nil _ _ _ _ _, by repeat (first | (with_reducible first | exact HB.out | apply qb0 | apply qa0 | apply qc0 | refine qd0 ?_ GE296.out) | exact HB.out)⟩
        replace c25 := Bool.eq_false_iff.mpr c25
        subst c25
        have H1 : (if ((rd_T30 l0 x25_2).f0).size ≤ 9223372036854775807 then ((some (mset x4_2 ((rd_T30 l0 x25_2).f0) x25_2 : List (ByteArray × Int))).bind fun y299 => (if ((rd_T30 l0 x25_2).f1) = (-1) then (impl_depths.l0 kj14 l0 y299 x5_2 l0 (l0.length : Int) (wrap64 (x25_2 + 1))) else (impl_depths.l1 kj14 l0 y299 x5_2 x25_2 (wrap64 (x25_2 - 1)) l0 (l0.length : Int) x25_2 ((rd_T30 l0 x25_2).f0) ((rd_T30 l0 x25_2).f1) ((rd_T30 l0 x25_2).f2)))) else (none)) = some (r1, r2) := by rw [if_neg (show ¬ (false = true) by decide)] at H; exact H
        clear H
        have H := H1
        clear H1
        by_cases c26 : ((rd_T30 l0 x25_2).f0).size ≤ 9223372036854775807
        case neg => rw [if_neg c26] at H; exact absurd H (by simp)
        rw [if_pos c26] at H
        have LMc26 := Aside0.mk c26
        clear c26
        obtain ⟨y299, hy299⟩ : ∃ y_ : List (ByteArray × Int), y_ = (mset x4_2 ((rd_T30 l0 x25_2).f0) x25_2) := ⟨_, rfl⟩
        replace H : (if ((rd_T30 l0 x25_2).f1) = (-1) then (impl_depths.l0 kj14 l0 y299 x5_2 l0 (l0.length : Int) (wrap64 (x25_2 + 1))) else (impl_depths.l1 kj14 l0 y299 x5_2 x25_2 (wrap64 (x25_2 - 1)) l0 (l0.length : Int) x25_2 ((rd_T30 l0 x25_2).f0) ((rd_T30 l0 x25_2).f1) ((rd_T30 l0 x25_2).f2))) = some (r1, r2) := by first | (rw [hy299]; with_reducible exact H) | (have H2_ := (Option.bind_some _ _).symm.trans H; rw [hy299]; with_reducible exact H2_) | (have H2_ := (Option.bind_some _ _).symm.trans H; with_reducible exact H2_) | with_reducible exact H | (rw [hy299]; exact H) | exact H
        have Ny299 := Aside0.mk hy299
        clear hy299
        by_cases c27 : ((rd_T30 l0 x25_2).f1) = (-1)
        ·rw [if_pos c27] at H
         have c27b0 : (((rd_T30 l0 x25_2).f1) == (-1)) = true := beq_iff_eq.mpr c27
         have c27b1 : (((rd_T30 l0 x25_2).f1) != (-1)) = false := bne_eq_false_iff_eq.mpr c27
         clear c27
         have H' := Aside0.mk H
         clear H
         have hcz28_0 : wc.cell? ⟨gb296, 0, none⟩ = some (.string ((rd_T30 l0 x25_2).f0)) := (qk0 BK296.out 0).trans rfl
         have hcz28_1 : wc.cell? ⟨gb296, 1, none⟩ = some (.int .i64 ((rd_T30 l0 x25_2).f1)) := (qk0 BK296.out 1).trans rfl
         have hcz28_2 : wc.cell? ⟨gb296, 2, none⟩ = some (.int .i64 ((rd_T30 l0 x25_2).f2)) := (qk0 BK296.out 2).trans rfl
         have hfz28_0 := qe0 BK296.out 0
         have hfz28_1 := qe0 BK296.out 1
         have hfz28_2 := qe0 BK296.out 2
         go_wp2_with (first | ((with_reducible refine gate_mapset (t := 205) rfl ?_); refine Kd.Z_set_op (base := w.heap.size) (ok := fun _ => True) kz205 205 rfl rfl _ _ _ 205 rfl rfl kz205_K kz205_inj kz205_t mb291 x4_2 ((rd_T30 l0 x25_2).f0) x25_2 rfl rfl rfl (kz205_key ((rd_T30 l0 x25_2).f0) LMc26.out) ?aO ?_; (case aO => exact (by (with_reducible repeat (first | apply Kd.Z_alloc | apply Kd.Z_drewN | apply Kd.Z_drew)); exact HO_4.out)); intro w29 ho_ hg hbb_ hz_; rw [← Ny299.out] at ho_; have n0_ := Aside0.mk (ho_); have n1_ := Aside0.mk (Kd.R_overZ (by (with_reducible repeat (first | apply Kd.qh0 | apply Kd.qg0 | apply Kd.qm0)); exact HO_5.out) hz_ hg); have n2_ := Aside0.mk (qi1 (g := gb296) (o := .cells #[.string ((rd_T30 l0 x25_2).f0), .int .i64 ((rd_T30 l0 x25_2).f1), .int .i64 ((rd_T30 l0 x25_2).f2)] 30 (0, 0)) (by (with_reducible repeat (first | refine qn0 ?_ _ | refine qq0 ?_ | refine qo0 ?_ _)); exact BK296.out) hg (blk_neZ (by (with_reducible repeat (first | refine qn0 ?_ _ | refine qq0 ?_ | refine qo0 ?_ _)); exact BK296.out) hz_)); have n3_ := Aside0.mk (pw_below_grown (by repeat (first | (with_reducible first | exact HB.out | apply qb0 | apply qa0 | apply qc0 | refine qd0 ?_ GE296.out) | exact HB.out)) (some mb291) (qs0 (by repeat (first | (with_reducible first | exact HB.out | apply qb0 | apply qa0 | apply qc0 | refine qd0 ?_ GE296.out) | exact HB.out))) hg (fun k_ e_ => by cases e_; exact hbb_)); clear HO_4; clear HO_5; clear BK296; clear HB; have HO_4 := n0_; have HO_5 := n1_; have BK296 := n2_; have HB := n3_; clear n0_ n1_ n2_ n3_; clear ho_ hg hbb_ hz_; have hcz30_0 : w29.cell? ⟨gb296, 0, none⟩ = some (.string ((rd_T30 l0 x25_2).f0)) := (qk0 BK296.out 0).trans rfl; have hcz30_1 : w29.cell? ⟨gb296, 1, none⟩ = some (.int .i64 ((rd_T30 l0 x25_2).f1)) := (qk0 BK296.out 1).trans rfl; have hcz30_2 : w29.cell? ⟨gb296, 2, none⟩ = some (.int .i64 ((rd_T30 l0 x25_2).f2)) := (qk0 BK296.out 2).trans rfl; have hfz30_0 := qe0 BK296.out 0; have hfz30_1 := qe0 BK296.out 1; have hfz30_2 := qe0 BK296.out 2))
         repeat (go_quiet (first | ((with_reducible refine gate_mapset (t := 205) rfl ?_); refine Kd.Z_set_op (base := w.heap.size) (ok := fun _ => True) kz205 205 rfl rfl _ _ _ 205 rfl rfl kz205_K kz205_inj kz205_t mb291 x4_2 ((rd_T30 l0 x25_2).f0) x25_2 rfl rfl rfl (kz205_key ((rd_T30 l0 x25_2).f0) LMc26.out) ?aO ?_; (case aO => exact (by (with_reducible repeat (first | apply Kd.Z_alloc | apply Kd.Z_drewN | apply Kd.Z_drew)); exact HO_4.out)); intro w29 ho_ hg hbb_ hz_; rw [← Ny299.out] at ho_; have n0_ := Aside0.mk (ho_); have n1_ := Aside0.mk (Kd.R_overZ (by (with_reducible repeat (first | apply Kd.qh0 | apply Kd.qg0 | apply Kd.qm0)); exact HO_5.out) hz_ hg); have n2_ := Aside0.mk (qi1 (g := gb296) (o := .cells #[.string ((rd_T30 l0 x25_2).f0), .int .i64 ((rd_T30 l0 x25_2).f1), .int .i64 ((rd_T30 l0 x25_2).f2)] 30 (0, 0)) (by (with_reducible repeat (first | refine qn0 ?_ _ | refine qq0 ?_ | refine qo0 ?_ _)); exact BK296.out) hg (blk_neZ (by (with_reducible repeat (first | refine qn0 ?_ _ | refine qq0 ?_ | refine qo0 ?_ _)); exact BK296.out) hz_)); have n3_ := Aside0.mk (pw_below_grown (by repeat (first | (with_reducible first | exact HB.out | apply qb0 | apply qa0 | apply qc0 | refine qd0 ?_ GE296.out) | exact HB.out)) (some mb291) (qs0 (by repeat (first | (with_reducible first | exact HB.out | apply qb0 | apply qa0 | apply qc0 | refine qd0 ?_ GE296.out) | exact HB.out))) hg (fun k_ e_ => by cases e_; exact hbb_)); clear HO_4; clear HO_5; clear BK296; clear HB; have HO_4 := n0_; have HO_5 := n1_; have BK296 := n2_; have HB := n3_; clear n0_ n1_ n2_ n3_; clear ho_ hg hbb_ hz_; have hcz30_0 : w29.cell? ⟨gb296, 0, none⟩ = some (.string ((rd_T30 l0 x25_2).f0)) := (qk0 BK296.out 0).trans rfl; have hcz30_1 : w29.cell? ⟨gb296, 1, none⟩ = some (.int .i64 ((rd_T30 l0 x25_2).f1)) := (qk0 BK296.out 1).trans rfl; have hcz30_2 : w29.cell? ⟨gb296, 2, none⟩ = some (.int .i64 ((rd_T30 l0 x25_2).f2)) := (qk0 BK296.out 2).trans rfl; have hfz30_0 := qe0 BK296.out 0; have hfz30_1 := qe0 BK296.out 1; have hfz30_2 := qe0 BK296.out 2)); try go_wp2_with (first | ((with_reducible refine gate_mapset (t := 205) rfl ?_); refine Kd.Z_set_op (base := w.heap.size) (ok := fun _ => True) kz205 205 rfl rfl _ _ _ 205 rfl rfl kz205_K kz205_inj kz205_t mb291 x4_2 ((rd_T30 l0 x25_2).f0) x25_2 rfl rfl rfl (kz205_key ((rd_T30 l0 x25_2).f0) LMc26.out) ?aO ?_; (case aO => exact (by (with_reducible repeat (first | apply Kd.Z_alloc | apply Kd.Z_drewN | apply Kd.Z_drew)); exact HO_4.out)); intro w29 ho_ hg hbb_ hz_; rw [← Ny299.out] at ho_; have n0_ := Aside0.mk (ho_); have n1_ := Aside0.mk (Kd.R_overZ (by (with_reducible repeat (first | apply Kd.qh0 | apply Kd.qg0 | apply Kd.qm0)); exact HO_5.out) hz_ hg); have n2_ := Aside0.mk (qi1 (g := gb296) (o := .cells #[.string ((rd_T30 l0 x25_2).f0), .int .i64 ((rd_T30 l0 x25_2).f1), .int .i64 ((rd_T30 l0 x25_2).f2)] 30 (0, 0)) (by (with_reducible repeat (first | refine qn0 ?_ _ | refine qq0 ?_ | refine qo0 ?_ _)); exact BK296.out) hg (blk_neZ (by (with_reducible repeat (first | refine qn0 ?_ _ | refine qq0 ?_ | refine qo0 ?_ _)); exact BK296.out) hz_)); have n3_ := Aside0.mk (pw_below_grown (by repeat (first | (with_reducible first | exact HB.out | apply qb0 | apply qa0 | apply qc0 | refine qd0 ?_ GE296.out) | exact HB.out)) (some mb291) (qs0 (by repeat (first | (with_reducible first | exact HB.out | apply qb0 | apply qa0 | apply qc0 | refine qd0 ?_ GE296.out) | exact HB.out))) hg (fun k_ e_ => by cases e_; exact hbb_)); clear HO_4; clear HO_5; clear BK296; clear HB; have HO_4 := n0_; have HO_5 := n1_; have BK296 := n2_; have HB := n3_; clear n0_ n1_ n2_ n3_; clear ho_ hg hbb_ hz_; have hcz30_0 : w29.cell? ⟨gb296, 0, none⟩ = some (.string ((rd_T30 l0 x25_2).f0)) := (qk0 BK296.out 0).trans rfl; have hcz30_1 : w29.cell? ⟨gb296, 1, none⟩ = some (.int .i64 ((rd_T30 l0 x25_2).f1)) := (qk0 BK296.out 1).trans rfl; have hcz30_2 : w29.cell? ⟨gb296, 2, none⟩ = some (.int .i64 ((rd_T30 l0 x25_2).f2)) := (qk0 BK296.out 2).trans rfl; have hfz30_0 := qe0 BK296.out 0; have hfz30_1 := qe0 BK296.out 1; have hfz30_2 := qe0 BK296.out 2)))
         go_roundg kj14
         case measure => have := HJ1.out; have := HK2.out; have := HJ14.out; omega
         case rel => exact ⟨(y299), (x5_2), (wrap64 (x25_2 + 1)), (by first | rfl | (simp; done) | (simp [*]; done)), H', ⟨by have := HJ1.out; have := HK2.out; have := HJ14.out; omega⟩, ⟨by (with_reducible repeat (first | apply Kd.Z_alloc | apply Kd.Z_drewN | apply Kd.Z_drew)); exact HO_4.out⟩, ⟨by (with_reducible repeat (first | apply Kd.qh0 | apply Kd.qg0 | apply Kd.qm0)); exact HO_5.out⟩, ⟨by repeat (first | (with_reducible first | exact HB.out | apply qb0 | apply qa0 | apply qc0 | refine qd0 ?_ GE296.out) | exact HB.out)⟩⟩
        rw [if_neg c27] at H
        have c27b0 : (((rd_T30 l0 x25_2).f1) == (-1)) = false := beq_eq_false_iff_ne.mpr c27
        have c27b1 : (((rd_T30 l0 x25_2).f1) != (-1)) = true := bne_iff_ne.mpr c27
        have H' := Aside0.mk H
        clear H
        have hcz31_0 : wc.cell? ⟨gb296, 0, none⟩ = some (.string ((rd_T30 l0 x25_2).f0)) := (qk0 BK296.out 0).trans rfl
        have hcz31_1 : wc.cell? ⟨gb296, 1, none⟩ = some (.int .i64 ((rd_T30 l0 x25_2).f1)) := (qk0 BK296.out 1).trans rfl
        have hcz31_2 : wc.cell? ⟨gb296, 2, none⟩ = some (.int .i64 ((rd_T30 l0 x25_2).f2)) := (qk0 BK296.out 2).trans rfl
        have hfz31_0 := qe0 BK296.out 0
        have hfz31_1 := qe0 BK296.out 1
        have hfz31_2 := qe0 BK296.out 2
        go_wp2_with (first | ((with_reducible refine gate_mapset (t := 205) rfl ?_); refine Kd.Z_set_op (base := w.heap.size) (ok := fun _ => True) kz205 205 rfl rfl _ _ _ 205 rfl rfl kz205_K kz205_inj kz205_t mb291 x4_2 ((rd_T30 l0 x25_2).f0) x25_2 rfl rfl rfl (kz205_key ((rd_T30 l0 x25_2).f0) LMc26.out) ?aO ?_; (case aO => exact (by (with_reducible repeat (first | apply Kd.Z_alloc | apply Kd.Z_drewN | apply Kd.Z_drew)); exact HO_4.out)); intro w32 ho_ hg hbb_ hz_; rw [← Ny299.out] at ho_; have n0_ := Aside0.mk (ho_); have n1_ := Aside0.mk (Kd.R_overZ (by (with_reducible repeat (first | apply Kd.qh0 | apply Kd.qg0 | apply Kd.qm0)); exact HO_5.out) hz_ hg); have n2_ := Aside0.mk (qi1 (g := gb296) (o := .cells #[.string ((rd_T30 l0 x25_2).f0), .int .i64 ((rd_T30 l0 x25_2).f1), .int .i64 ((rd_T30 l0 x25_2).f2)] 30 (0, 0)) (by (with_reducible repeat (first | refine qn0 ?_ _ | refine qq0 ?_ | refine qo0 ?_ _)); exact BK296.out) hg (blk_neZ (by (with_reducible repeat (first | refine qn0 ?_ _ | refine qq0 ?_ | refine qo0 ?_ _)); exact BK296.out) hz_)); have n3_ := Aside0.mk (pw_below_grown (by repeat (first | (with_reducible first | exact HB.out | apply qb0 | apply qa0 | apply qc0 | refine qd0 ?_ GE296.out) | exact HB.out)) (some mb291) (qs0 (by repeat (first | (with_reducible first | exact HB.out | apply qb0 | apply qa0 | apply qc0 | refine qd0 ?_ GE296.out) | exact HB.out))) hg (fun k_ e_ => by cases e_; exact hbb_)); clear HO_4; clear HO_5; clear BK296; clear HB; have HO_4 := n0_; have HO_5 := n1_; have BK296 := n2_; have HB := n3_; clear n0_ n1_ n2_ n3_; clear ho_ hg hbb_ hz_; have hcz33_0 : w32.cell? ⟨gb296, 0, none⟩ = some (.string ((rd_T30 l0 x25_2).f0)) := (qk0 BK296.out 0).trans rfl; have hcz33_1 : w32.cell? ⟨gb296, 1, none⟩ = some (.int .i64 ((rd_T30 l0 x25_2).f1)) := (qk0 BK296.out 1).trans rfl; have hcz33_2 : w32.cell? ⟨gb296, 2, none⟩ = some (.int .i64 ((rd_T30 l0 x25_2).f2)) := (qk0 BK296.out 2).trans rfl; have hfz33_0 := qe0 BK296.out 0; have hfz33_1 := qe0 BK296.out 1; have hfz33_2 := qe0 BK296.out 2))
        repeat (go_quiet (first | ((with_reducible refine gate_mapset (t := 205) rfl ?_); refine Kd.Z_set_op (base := w.heap.size) (ok := fun _ => True) kz205 205 rfl rfl _ _ _ 205 rfl rfl kz205_K kz205_inj kz205_t mb291 x4_2 ((rd_T30 l0 x25_2).f0) x25_2 rfl rfl rfl (kz205_key ((rd_T30 l0 x25_2).f0) LMc26.out) ?aO ?_; (case aO => exact (by (with_reducible repeat (first | apply Kd.Z_alloc | apply Kd.Z_drewN | apply Kd.Z_drew)); exact HO_4.out)); intro w32 ho_ hg hbb_ hz_; rw [← Ny299.out] at ho_; have n0_ := Aside0.mk (ho_); have n1_ := Aside0.mk (Kd.R_overZ (by (with_reducible repeat (first | apply Kd.qh0 | apply Kd.qg0 | apply Kd.qm0)); exact HO_5.out) hz_ hg); have n2_ := Aside0.mk (qi1 (g := gb296) (o := .cells #[.string ((rd_T30 l0 x25_2).f0), .int .i64 ((rd_T30 l0 x25_2).f1), .int .i64 ((rd_T30 l0 x25_2).f2)] 30 (0, 0)) (by (with_reducible repeat (first | refine qn0 ?_ _ | refine qq0 ?_ | refine qo0 ?_ _)); exact BK296.out) hg (blk_neZ (by (with_reducible repeat (first | refine qn0 ?_ _ | refine qq0 ?_ | refine qo0 ?_ _)); exact BK296.out) hz_)); have n3_ := Aside0.mk (pw_below_grown (by repeat (first | (with_reducible first | exact HB.out | apply qb0 | apply qa0 | apply qc0 | refine qd0 ?_ GE296.out) | exact HB.out)) (some mb291) (qs0 (by repeat (first | (with_reducible first | exact HB.out | apply qb0 | apply qa0 | apply qc0 | refine qd0 ?_ GE296.out) | exact HB.out))) hg (fun k_ e_ => by cases e_; exact hbb_)); clear HO_4; clear HO_5; clear BK296; clear HB; have HO_4 := n0_; have HO_5 := n1_; have BK296 := n2_; have HB := n3_; clear n0_ n1_ n2_ n3_; clear ho_ hg hbb_ hz_; have hcz33_0 : w32.cell? ⟨gb296, 0, none⟩ = some (.string ((rd_T30 l0 x25_2).f0)) := (qk0 BK296.out 0).trans rfl; have hcz33_1 : w32.cell? ⟨gb296, 1, none⟩ = some (.int .i64 ((rd_T30 l0 x25_2).f1)) := (qk0 BK296.out 1).trans rfl; have hcz33_2 : w32.cell? ⟨gb296, 2, none⟩ = some (.int .i64 ((rd_T30 l0 x25_2).f2)) := (qk0 BK296.out 2).trans rfl; have hfz33_0 := qe0 BK296.out 0; have hfz33_1 := qe0 BK296.out 1; have hfz33_2 := qe0 BK296.out 2)); try go_wp2_with (first | ((with_reducible refine gate_mapset (t := 205) rfl ?_); refine Kd.Z_set_op (base := w.heap.size) (ok := fun _ => True) kz205 205 rfl rfl _ _ _ 205 rfl rfl kz205_K kz205_inj kz205_t mb291 x4_2 ((rd_T30 l0 x25_2).f0) x25_2 rfl rfl rfl (kz205_key ((rd_T30 l0 x25_2).f0) LMc26.out) ?aO ?_; (case aO => exact (by (with_reducible repeat (first | apply Kd.Z_alloc | apply Kd.Z_drewN | apply Kd.Z_drew)); exact HO_4.out)); intro w32 ho_ hg hbb_ hz_; rw [← Ny299.out] at ho_; have n0_ := Aside0.mk (ho_); have n1_ := Aside0.mk (Kd.R_overZ (by (with_reducible repeat (first | apply Kd.qh0 | apply Kd.qg0 | apply Kd.qm0)); exact HO_5.out) hz_ hg); have n2_ := Aside0.mk (qi1 (g := gb296) (o := .cells #[.string ((rd_T30 l0 x25_2).f0), .int .i64 ((rd_T30 l0 x25_2).f1), .int .i64 ((rd_T30 l0 x25_2).f2)] 30 (0, 0)) (by (with_reducible repeat (first | refine qn0 ?_ _ | refine qq0 ?_ | refine qo0 ?_ _)); exact BK296.out) hg (blk_neZ (by (with_reducible repeat (first | refine qn0 ?_ _ | refine qq0 ?_ | refine qo0 ?_ _)); exact BK296.out) hz_)); have n3_ := Aside0.mk (pw_below_grown (by repeat (first | (with_reducible first | exact HB.out | apply qb0 | apply qa0 | apply qc0 | refine qd0 ?_ GE296.out) | exact HB.out)) (some mb291) (qs0 (by repeat (first | (with_reducible first | exact HB.out | apply qb0 | apply qa0 | apply qc0 | refine qd0 ?_ GE296.out) | exact HB.out))) hg (fun k_ e_ => by cases e_; exact hbb_)); clear HO_4; clear HO_5; clear BK296; clear HB; have HO_4 := n0_; have HO_5 := n1_; have BK296 := n2_; have HB := n3_; clear n0_ n1_ n2_ n3_; clear ho_ hg hbb_ hz_; have hcz33_0 : w32.cell? ⟨gb296, 0, none⟩ = some (.string ((rd_T30 l0 x25_2).f0)) := (qk0 BK296.out 0).trans rfl; have hcz33_1 : w32.cell? ⟨gb296, 1, none⟩ = some (.int .i64 ((rd_T30 l0 x25_2).f1)) := (qk0 BK296.out 1).trans rfl; have hcz33_2 : w32.cell? ⟨gb296, 2, none⟩ = some (.int .i64 ((rd_T30 l0 x25_2).f2)) := (qk0 BK296.out 2).trans rfl; have hfz33_0 := qe0 BK296.out 0; have hfz33_1 := qe0 BK296.out 1; have hfz33_2 := qe0 BK296.out 2)))
        go_loopg [10] kj14 (fun kq v10 w' => ∃ (x10_4 : Int), v10 = .int .i64 x10_4 ∧ Aside0 (impl_depths.l1 kq l0 y299 x5_2 x25_2 x10_4 l0 (l0.length : Int) x25_2 ((rd_T30 l0 x25_2).f0) ((rd_T30 l0 x25_2).f1) ((rd_T30 l0 x25_2).f2) = some (r1, r2)) ∧ Aside0 (kq ≤ kj14) ∧ Aside0 (Kd.Z kz205 205 w' w.heap.size (fun _ => True) (.map (some mb291)) y299) ∧ Aside0 (Kd.R (Kd.int .i64) 3 w' w.heap.size (fun _ => True) v293 x5_2) ∧ Aside0 (w'.heap[gb296]? = some (.cells #[.string ((rd_T30 l0 x25_2).f0), .int .i64 ((rd_T30 l0 x25_2).f1), .int .i64 ((rd_T30 l0 x25_2).f2)] 30 (0, 0))) ∧ Aside0 (Below w.heap.size w w'))
        case atStart => exact ⟨(wrap64 (x25_2 - 1)), (by first | rfl | (simp; done) | (simp [*]; done)), H', ⟨Nat.le_refl _⟩, ⟨by (with_reducible repeat (first | apply Kd.Z_alloc | apply Kd.Z_drewN | apply Kd.Z_drew)); exact HO_4.out⟩, ⟨by (with_reducible repeat (first | apply Kd.qh0 | apply Kd.qg0 | apply Kd.qm0)); exact HO_5.out⟩, ⟨by (with_reducible repeat (first | refine qn0 ?_ _ | refine qq0 ?_ | refine qo0 ?_ _)); exact BK296.out⟩, ⟨by repeat (first | (with_reducible first | exact HB.out | apply qb0 | apply qa0 | apply qc0 | refine qd0 ?_ GE296.out) | exact HB.out)⟩⟩
        case round =>
         clear H'
         try clear c1
         try clear q1
         try clear c2
         try clear p2
         try clear q2
         try clear hx2
         try clear c3
         try clear c3b0
         try clear c3b1
         try clear c4
         try clear c5
         try clear c5b0
         try clear c5b1
         try clear c6
         try clear c6b0
         try clear c6b1
         try clear p6
         try clear c7
         try clear c11
         try clear c11b0
         try clear c12
         try clear c12b0
         try clear c13
         try clear c13b0
         try clear c14
         try clear q18
         try clear c19
         try clear c21
         try clear c25
         try clear c26
         try clear c27
         try clear c27b0
         try clear c27b1
         try clear p29
         try clear q29
         try clear hx29
         try clear hcz17_0
         try clear hcz17_1
         try clear hcz17_2
         try clear hcz23_0
         try clear hcz23_1
         try clear hcz23_2
         try clear hcz24_0
         try clear hcz24_1
         try clear hcz24_2
         try clear hcz28_0
         try clear hcz28_1
         try clear hcz28_2
         try clear hcz30_0
         try clear hcz30_1
         try clear hcz30_2
         try clear hcz31_0
         try clear hcz31_1
         try clear hcz31_2
         try clear hcz33_0
         try clear hcz33_1
         try clear hcz33_2
         try clear hfz17_0
         try clear hfz17_1
         try clear hfz17_2
         try clear hfz23_0
         try clear hfz23_1
         try clear hfz23_2
         try clear hfz24_0
         try clear hfz24_1
         try clear hfz24_2
         try clear hfz28_0
         try clear hfz28_1
         try clear hfz28_2
         try clear hfz30_0
         try clear hfz30_1
         try clear hfz30_2
         try clear hfz31_0
         try clear hfz31_1
         try clear hfz31_2
         try clear hfz33_0
         try clear hfz33_1
         try clear hfz33_2
         try clear hx295_0
         try clear hx295_1
         try clear hx295_2
         try clear p2
         try clear p295
         try clear q1
         try clear q18
         try clear q2
         try clear q295
         obtain ⟨x10_4, rfl, HA, HK4, HO_4, HO_5, BK296, HB⟩ := hrel
         cases gk with
         | zero => exact absurd HA.out (by simp [impl_depths.l1])
         | succ k4 =>
          have H := HA.out
          clear HA
          simp only [impl_depths.l1] at H
          by_cases c34 : x10_4 ≥ 0
          ·rw [if_pos c34] at H
           have c34b0 : decide (0 ≤ x10_4) = true := decide_eq_true c34
           clear c34
           by_cases c35 : x10_4 = ((rd_T30 l0 x25_2).f1)
           ·rw [if_pos c35] at H
            have c35b0 : (x10_4 == ((rd_T30 l0 x25_2).f1)) = true := beq_iff_eq.mpr c35
            have c35b1 : (x10_4 != ((rd_T30 l0 x25_2).f1)) = false := bne_eq_false_iff_eq.mpr c35
            clear c35
            by_cases c36 : x10_4 < 0
            ·rw [if_pos c36] at H
             have c36b0 : decide (x10_4 < 0) = true := decide_eq_true c36
             clear c36
             simp only [Option.some.injEq, Prod.mk.injEq] at H
             obtain ⟨rfl, rfl⟩ := H
             have hcz37_0 : wr.cell? ⟨gb296, 0, none⟩ = some (.string ((rd_T30 l0 x25_2).f0)) := (qk0 BK296.out 0).trans rfl
             have hcz37_1 : wr.cell? ⟨gb296, 1, none⟩ = some (.int .i64 ((rd_T30 l0 x25_2).f1)) := (qk0 BK296.out 1).trans rfl
             have hcz37_2 : wr.cell? ⟨gb296, 2, none⟩ = some (.int .i64 ((rd_T30 l0 x25_2).f2)) := (qk0 BK296.out 2).trans rfl
             have hfz37_0 := qe0 BK296.out 0
             have hfz37_1 := qe0 BK296.out 1
             have hfz37_2 := qe0 BK296.out 2
             go_wp2
             repeat (go_quiet (fail); try go_wp2)
             go_ret2
             exact ⟨_, by first | rfl | (simp [errW_none, errW_some] <;> rfl) | (simp [*, errW_none, errW_some] <;> rfl), by first | exact Kd.R_nil _ _ _ _ _ | exact Kd.N_nil _ _ _ _ _ | exact Kd.V_nil _ _ _ _ _ | exact Kd.Q_nil _ _ _ _ _ | exact Kd.S_nil _ _ _ _ _, by repeat (first | (with_reducible first | exact HB.out | apply qb0 | apply qa0 | apply qc0 | refine qd0 ?_ GE296.out) | exact HB.out)⟩
            rw [if_neg c36] at H
            have c36b0 : decide (x10_4 < 0) = false := decide_eq_false c36
            clear c36
            by_cases c38 : 0 ≤ x10_4
            case neg => rw [if_neg c38] at H; exact absurd H (by simp)
            rw [if_pos c38] at H
            have c38b0 : decide (0 ≤ x10_4) = true := decide_eq_true c38
            clear c38
            by_cases c39 : x10_4 < (l0.length : Int)
            case neg => rw [if_neg c39] at H; exact absurd H (by simp)
            rw [if_pos c39] at H
            have c39b0 : decide (x10_4 < (l0.length : Int)) = true := decide_eq_true c39
            clear c39
            by_cases c40 : ((rd_T30 l0 x10_4).f2) = ((rd_T30 l0 x25_2).f2)
            ·rw [if_pos c40] at H
             have c40b0 : (((rd_T30 l0 x10_4).f2) == ((rd_T30 l0 x25_2).f2)) = true := beq_iff_eq.mpr c40
             have c40b1 : (((rd_T30 l0 x10_4).f2) != ((rd_T30 l0 x25_2).f2)) = false := bne_eq_false_iff_eq.mpr c40
             clear c40
             by_cases c41 : x10_4 < (x5_2.length : Int)
             case neg => rw [if_neg c41] at H; exact absurd H (by simp)
             rw [if_pos c41] at H
             have c41b0 : decide (x10_4 < (x5_2.length : Int)) = true := decide_eq_true c41
             clear c41
             by_cases c42 : (rd x5_2 x10_4) ≥ 8
             ·rw [if_pos c42] at H
              have c42b0 : decide (8 ≤ (rd x5_2 x10_4)) = true := decide_eq_true c42
              clear c42
              simp only [Option.some.injEq, Prod.mk.injEq] at H
              obtain ⟨rfl, rfl⟩ := H
              have hcz43_0 : wr.cell? ⟨gb296, 0, none⟩ = some (.string ((rd_T30 l0 x25_2).f0)) := (qk0 BK296.out 0).trans rfl
              have hcz43_1 : wr.cell? ⟨gb296, 1, none⟩ = some (.int .i64 ((rd_T30 l0 x25_2).f1)) := (qk0 BK296.out 1).trans rfl
              have hcz43_2 : wr.cell? ⟨gb296, 2, none⟩ = some (.int .i64 ((rd_T30 l0 x25_2).f2)) := (qk0 BK296.out 2).trans rfl
              have hfz43_0 := qe0 BK296.out 0
              have hfz43_1 := qe0 BK296.out 1
              have hfz43_2 := qe0 BK296.out 2
              have p300 : 0 ≤ (x10_4 : Int) := of_decide_eq_true (by first | (with_reducible assumption) | assumption)
              have q300 : x10_4 < (l0.length : Int) := of_decide_eq_true (by first | (with_reducible assumption) | assumption)
              obtain ⟨ad300, e300, hx300_0, hx300_1, hx300_2⟩ := at_T30 HR0.out x10_4 p300 q300
              obtain rfl : ad295 = ad300 := (by injection e300)
              replace hx300_0 := (HB.out.cell (World.block_lt_of_cell? w _ hx300_0)).trans hx300_0
              replace hx300_1 := (HB.out.cell (World.block_lt_of_cell? w _ hx300_1)).trans hx300_1
              replace hx300_2 := (HB.out.cell (World.block_lt_of_cell? w _ hx300_2)).trans hx300_2
              replace p300 := eq_true p300
              replace q300 := eq_true q300
              obtain ⟨Ao44, co44, eo44⟩ := Kd.qh1 HO_5.out
              subst eo44
              have p301 : 0 ≤ (x10_4 : Int) := of_decide_eq_true (by first | (with_reducible assumption) | assumption)
              have q301 : x10_4 < (x5_2.length : Int) := of_decide_eq_true (by first | (with_reducible assumption) | assumption)
              obtain ⟨ad301, e301, hx301_0⟩ := Kd.qr1 (Kd.qr0 HO_5.out).2.2 x10_4 p301 q301
              cases e301
              replace p301 := eq_true p301
              replace q301 := eq_true q301
              go_wp2
              repeat (go_quiet (fail); try go_wp2)
              go_ret2
              exact ⟨_, by first | rfl | (simp [errW_none, errW_some] <;> rfl) | (simp [*, errW_none, errW_some] <;> rfl), by first | exact Kd.R_nil _ _ _ _ _ | exact Kd.N_nil _ _ _ _ _ | exact Kd.V_nil _ _ _ _ _ | exact Kd.Q_nil _ _ _ _ _ | exact Kd.S_nil _ _ _ _ _, by repeat (first | (with_reducible first | exact HB.out | apply qb0 | apply qa0 | apply qc0 | refine qd0 ?_ GE296.out) | exact HB.out)⟩
             rw [if_neg c42] at H
             have c42b0 : decide (8 ≤ (rd x5_2 x10_4)) = false := decide_eq_false c42
             clear c42
             by_cases c45 : 0 ≤ x25_2
             case neg => rw [if_neg c45] at H; exact absurd H (by simp)
             rw [if_pos c45] at H
             have c45b0 : decide (0 ≤ x25_2) = true := decide_eq_true c45
             clear c45
             by_cases c46 : x25_2 < (x5_2.length : Int)
             case neg => rw [if_neg c46] at H; exact absurd H (by simp)
             rw [if_pos c46] at H
             have c46b0 : decide (x25_2 < (x5_2.length : Int)) = true := decide_eq_true c46
             clear c46
             obtain ⟨y303, hy303⟩ : ∃ y_ : List Int, y_ = (x5_2.set (x25_2 : Int).toNat (wrap64 ((rd x5_2 x10_4) + 1))) := ⟨_, rfl⟩
             replace H : (impl_depths.l0 k4 l0 y299 y303 l0 (l0.length : Int) (wrap64 (x25_2 + 1))) = some (r1, r2) := by first | (rw [hy303]; with_reducible exact H) | (have H2_ := (Option.bind_some _ _).symm.trans H; rw [hy303]; with_reducible exact H2_) | (have H2_ := (Option.bind_some _ _).symm.trans H; with_reducible exact H2_) | with_reducible exact H | (rw [hy303]; exact H) | exact H
             have Ny303 := Aside0.mk hy303
             clear hy303
             have H' := Aside0.mk H
             clear H
             have hcz48_0 : wr.cell? ⟨gb296, 0, none⟩ = some (.string ((rd_T30 l0 x25_2).f0)) := (qk0 BK296.out 0).trans rfl
             have hcz48_1 : wr.cell? ⟨gb296, 1, none⟩ = some (.int .i64 ((rd_T30 l0 x25_2).f1)) := (qk0 BK296.out 1).trans rfl
             have hcz48_2 : wr.cell? ⟨gb296, 2, none⟩ = some (.int .i64 ((rd_T30 l0 x25_2).f2)) := (qk0 BK296.out 2).trans rfl
             have hfz48_0 := qe0 BK296.out 0
             have hfz48_1 := qe0 BK296.out 1
             have hfz48_2 := qe0 BK296.out 2
             have p300 : 0 ≤ (x10_4 : Int) := of_decide_eq_true (by first | (with_reducible assumption) | assumption)
             have q300 : x10_4 < (l0.length : Int) := of_decide_eq_true (by first | (with_reducible assumption) | assumption)
             obtain ⟨ad300, e300, hx300_0, hx300_1, hx300_2⟩ := at_T30 HR0.out x10_4 p300 q300
             obtain rfl : ad295 = ad300 := (by injection e300)
             replace hx300_0 := (HB.out.cell (World.block_lt_of_cell? w _ hx300_0)).trans hx300_0
             replace hx300_1 := (HB.out.cell (World.block_lt_of_cell? w _ hx300_1)).trans hx300_1
             replace hx300_2 := (HB.out.cell (World.block_lt_of_cell? w _ hx300_2)).trans hx300_2
             replace p300 := eq_true p300
             replace q300 := eq_true q300
             obtain ⟨Ao49, co49, eo49⟩ := Kd.qh1 HO_5.out
             subst eo49
             have p301 : 0 ≤ (x10_4 : Int) := of_decide_eq_true (by first | (with_reducible assumption) | assumption)
             have q301 : x10_4 < (x5_2.length : Int) := of_decide_eq_true (by first | (with_reducible assumption) | assumption)
             obtain ⟨ad301, e301, hx301_0⟩ := Kd.qr1 (Kd.qr0 HO_5.out).2.2 x10_4 p301 q301
             cases e301
             replace p301 := eq_true p301
             replace q301 := eq_true q301
             have p302 : 0 ≤ (x10_4 : Int) := of_decide_eq_true (by first | (with_reducible assumption) | assumption)
             have q302 : x10_4 < (x5_2.length : Int) := of_decide_eq_true (by first | (with_reducible assumption) | assumption)
             obtain ⟨ad302, e302, hx302_0⟩ := Kd.qr1 (Kd.qr0 HO_5.out).2.2 x10_4 p302 q302
             obtain rfl : ad301 = ad302 := (by injection e302)
             replace p302 := eq_true p302
             replace q302 := eq_true q302
             have p47 : 0 ≤ (x25_2 : Int) := of_decide_eq_true (by first | (with_reducible assumption) | assumption)
             have q47 : (x25_2 : Int) < ((x5_2.length : Int) : Int) := of_decide_eq_true (by first | (with_reducible assumption) | assumption)
             obtain ⟨go47, co47, eo47, gb47, gl47, cl47, HG47⟩ := Kd.R_form HO_5.out (by omega)
             (first | cases eo47 | (injection eo47 with ea_ en_ ec_; (first | subst ea_ | (injection ea_ with ea_; subst ea_)); subst ec_; clear en_))
             have GB47 := Aside0.mk gb47
             have GG47 := Aside0.mk HG47
             clear gb47 gl47 HG47
             (first | simp only [add_plain] at hx301_0 | skip)
             (first | simp only [add_plain] at hx302_0 | skip)
             obtain ⟨hx47_0, hf47_0⟩ := Kd.R_celln 0 HO_5.out (x25_2 : Int) p47 q47
             replace p47 := eq_true p47
             replace q47 := eq_true q47
             have HP50 := Kd.R_putg HO_5.out (x25_2 : Int) (wrap64 ((rd x5_2 x10_4) + 1))
             go_wp2_with (first | ((with_reducible refine gate_store (t := 3) (p := 98) rfl ?_); (try (rw [drewN_self wr]; generalize hq_ : World.drewN wr _ = wr; have n0_ := Aside0.mk (Kd.Z_at hq_ HO_4.out); have n1_ := Aside0.mk (Kd.R_at hq_ HO_5.out); have n2_ := Aside0.mk (blk_at hq_ BK296.out); have n3_ := Aside0.mk (below_at hq_ HB.out); clear hq_ HO_4 HO_5 BK296 HB; have HO_4 := n0_; have HO_5 := n1_; have BK296 := n2_; have HB := n3_; clear n0_ n1_ n2_ n3_; (try (have HP50 := Kd.R_putg HO_5.out (x25_2 : Int) (wrap64 ((rd x5_2 x10_4) + 1)))); (try (obtain ⟨hx47_0, hf47_0⟩ := Kd.R_celln 0 HO_5.out (x25_2 : Int) (of_eq_true p47) (of_eq_true q47))))); refine store_event (t := 3) (p := 98) (v := ?vo_w51) (w1 := (wr.setCell ⟨go47, (x25_2 : Int).toNat, none⟩ (.int .i64 (wrap64 ((rd x5_2 x10_4) + 1))))) ?hg ?ho ?hn ?hr ?_; (case ho => rfl); (case hg => rfl); (case hn => rfl); (case hr => first | (go_simp; done) | (go_simp; rfl)); intro w51 hw; have hg : wr.grownBy w51 (some go47) := (by rw [hw]; exact HP50.2); have hp_ : Kd.R (Kd.int .i64) 3 w51 w.heap.size (fun _ => True) (.slice (some ⟨go47, 0, none⟩) x5_2.length co49) y303 := (by rw [hw, Ny303.out]; exact HP50.1); clear HP50; have n0_ := Aside0.mk (Kd.Z_over' (v := (.slice (some ⟨go47, 0, none⟩) x5_2.length co49)) (by (with_reducible repeat (first | apply Kd.Z_alloc | apply Kd.Z_drewN | apply Kd.Z_drew)); exact HO_4.out) (Kd.R_typed HO_5.out) (by decide) hg); have n1_ := Aside0.mk (hp_); have n2_ := Aside0.mk (qi1 (g := gb296) (o := .cells #[.string ((rd_T30 l0 x25_2).f0), .int .i64 ((rd_T30 l0 x25_2).f1), .int .i64 ((rd_T30 l0 x25_2).f2)] 30 (0, 0)) (by (with_reducible repeat (first | refine qn0 ?_ _ | refine qq0 ?_ | refine qo0 ?_ _)); exact BK296.out) hg (Kd.R_ne HO_5.out BK296.out (by decide))); have n3_ := Aside0.mk ((by rw [hw]; exact qd0 (HB.out) GB47.out : Below w.heap.size w w51)); clear HO_4; clear HO_5; clear BK296; clear HB; have HO_4 := n0_; have HO_5 := n1_; have BK296 := n2_; have HB := n3_; clear n0_ n1_ n2_ n3_; clear hg hw hp_))
             repeat (go_quiet (first | ((with_reducible refine gate_store (t := 3) (p := 98) rfl ?_); (try (rw [drewN_self wr]; generalize hq_ : World.drewN wr _ = wr; have n0_ := Aside0.mk (Kd.Z_at hq_ HO_4.out); have n1_ := Aside0.mk (Kd.R_at hq_ HO_5.out); have n2_ := Aside0.mk (blk_at hq_ BK296.out); have n3_ := Aside0.mk (below_at hq_ HB.out); clear hq_ HO_4 HO_5 BK296 HB; have HO_4 := n0_; have HO_5 := n1_; have BK296 := n2_; have HB := n3_; clear n0_ n1_ n2_ n3_; (try (have HP50 := Kd.R_putg HO_5.out (x25_2 : Int) (wrap64 ((rd x5_2 x10_4) + 1)))); (try (obtain ⟨hx47_0, hf47_0⟩ := Kd.R_celln 0 HO_5.out (x25_2 : Int) (of_eq_true p47) (of_eq_true q47))))); refine store_event (t := 3) (p := 98) (v := ?vo_w51) (w1 := (wr.setCell ⟨go47, (x25_2 : Int).toNat, none⟩ (.int .i64 (wrap64 ((rd x5_2 x10_4) + 1))))) ?hg ?ho ?hn ?hr ?_; (case ho => rfl); (case hg => rfl); (case hn => rfl); (case hr => first | (go_simp; done) | (go_simp; rfl)); intro w51 hw; have hg : wr.grownBy w51 (some go47) := (by rw [hw]; exact HP50.2); have hp_ : Kd.R (Kd.int .i64) 3 w51 w.heap.size (fun _ => True) (.slice (some ⟨go47, 0, none⟩) x5_2.length co49) y303 := (by rw [hw, Ny303.out]; exact HP50.1); clear HP50; have n0_ := Aside0.mk (Kd.Z_over' (v := (.slice (some ⟨go47, 0, none⟩) x5_2.length co49)) (by (with_reducible repeat (first | apply Kd.Z_alloc | apply Kd.Z_drewN | apply Kd.Z_drew)); exact HO_4.out) (Kd.R_typed HO_5.out) (by decide) hg); have n1_ := Aside0.mk (hp_); have n2_ := Aside0.mk (qi1 (g := gb296) (o := .cells #[.string ((rd_T30 l0 x25_2).f0), .int .i64 ((rd_T30 l0 x25_2).f1), .int .i64 ((rd_T30 l0 x25_2).f2)] 30 (0, 0)) (by (with_reducible repeat (first | refine qn0 ?_ _ | refine qq0 ?_ | refine qo0 ?_ _)); exact BK296.out) hg (Kd.R_ne HO_5.out BK296.out (by decide))); have n3_ := Aside0.mk ((by rw [hw]; exact qd0 (HB.out) GB47.out : Below w.heap.size w w51)); clear HO_4; clear HO_5; clear BK296; clear HB; have HO_4 := n0_; have HO_5 := n1_; have BK296 := n2_; have HB := n3_; clear n0_ n1_ n2_ n3_; clear hg hw hp_)); try go_wp2_with (first | ((with_reducible refine gate_store (t := 3) (p := 98) rfl ?_); (try (rw [drewN_self wr]; generalize hq_ : World.drewN wr _ = wr; have n0_ := Aside0.mk (Kd.Z_at hq_ HO_4.out); have n1_ := Aside0.mk (Kd.R_at hq_ HO_5.out); have n2_ := Aside0.mk (blk_at hq_ BK296.out); have n3_ := Aside0.mk (below_at hq_ HB.out); clear hq_ HO_4 HO_5 BK296 HB; have HO_4 := n0_; have HO_5 := n1_; have BK296 := n2_; have HB := n3_; clear n0_ n1_ n2_ n3_; (try (have HP50 := Kd.R_putg HO_5.out (x25_2 : Int) (wrap64 ((rd x5_2 x10_4) + 1)))); (try (obtain ⟨hx47_0, hf47_0⟩ := Kd.R_celln 0 HO_5.out (x25_2 : Int) (of_eq_true p47) (of_eq_true q47))))); refine store_event (t := 3) (p := 98) (v := ?vo_w51) (w1 := (wr.setCell ⟨go47, (x25_2 : Int).toNat, none⟩ (.int .i64 (wrap64 ((rd x5_2 x10_4) + 1))))) ?hg ?ho ?hn ?hr ?_; (case ho => rfl); (case hg => rfl); (case hn => rfl); (case hr => first | (go_simp; done) | (go_simp; rfl)); intro w51 hw; have hg : wr.grownBy w51 (some go47) := (by rw [hw]; exact HP50.2); have hp_ : Kd.R (Kd.int .i64) 3 w51 w.heap.size (fun _ => True) (.slice (some ⟨go47, 0, none⟩) x5_2.length co49) y303 := (by rw [hw, Ny303.out]; exact HP50.1); clear HP50; have n0_ := Aside0.mk (Kd.Z_over' (v := (.slice (some ⟨go47, 0, none⟩) x5_2.length co49)) (by (with_reducible repeat (first | apply Kd.Z_alloc | apply Kd.Z_drewN | apply Kd.Z_drew)); exact HO_4.out) (Kd.R_typed HO_5.out) (by decide) hg); have n1_ := Aside0.mk (hp_); have n2_ := Aside0.mk (qi1 (g := gb296) (o := .cells #[.string ((rd_T30 l0 x25_2).f0), .int .i64 ((rd_T30 l0 x25_2).f1), .int .i64 ((rd_T30 l0 x25_2).f2)] 30 (0, 0)) (by (with_reducible repeat (first | refine qn0 ?_ _ | refine qq0 ?_ | refine qo0 ?_ _)); exact BK296.out) hg (Kd.R_ne HO_5.out BK296.out (by decide))); have n3_ := Aside0.mk ((by rw [hw]; exact qd0 (HB.out) GB47.out : Below w.heap.size w w51)); clear HO_4; clear HO_5; clear BK296; clear HB; have HO_4 := n0_; have HO_5 := n1_; have BK296 := n2_; have HB := n3_; clear n0_ n1_ n2_ n3_; clear hg hw hp_)))
             go_roundg k4
             case measure => have := HJ1.out; have := HK2.out; have := HJ14.out; have := HK4.out; omega
             case rel => exact ⟨(y299), (y303), (wrap64 (x25_2 + 1)), (by first | rfl | (simp; done) | (simp [*]; done)), H', ⟨by have := HJ1.out; have := HK2.out; have := HJ14.out; have := HK4.out; omega⟩, ⟨by (with_reducible repeat (first | apply Kd.Z_alloc | apply Kd.Z_drewN | apply Kd.Z_drew)); exact HO_4.out⟩, ⟨by (with_reducible repeat (first | apply Kd.qh0 | apply Kd.qg0 | apply Kd.qm0)); exact HO_5.out⟩, ⟨by repeat (first | (with_reducible first | exact HB.out | apply qb0 | apply qa0 | apply qc0 | refine qd0 ?_ GE296.out) | exact HB.out)⟩⟩
            rw [if_neg c40] at H
            have c40b0 : (((rd_T30 l0 x10_4).f2) == ((rd_T30 l0 x25_2).f2)) = false := beq_eq_false_iff_ne.mpr c40
            have c40b1 : (((rd_T30 l0 x10_4).f2) != ((rd_T30 l0 x25_2).f2)) = true := bne_iff_ne.mpr c40
            simp only [Option.some.injEq, Prod.mk.injEq] at H
            obtain ⟨rfl, rfl⟩ := H
            have hcz52_0 : wr.cell? ⟨gb296, 0, none⟩ = some (.string ((rd_T30 l0 x25_2).f0)) := (qk0 BK296.out 0).trans rfl
            have hcz52_1 : wr.cell? ⟨gb296, 1, none⟩ = some (.int .i64 ((rd_T30 l0 x25_2).f1)) := (qk0 BK296.out 1).trans rfl
            have hcz52_2 : wr.cell? ⟨gb296, 2, none⟩ = some (.int .i64 ((rd_T30 l0 x25_2).f2)) := (qk0 BK296.out 2).trans rfl
            have hfz52_0 := qe0 BK296.out 0
            have hfz52_1 := qe0 BK296.out 1
            have hfz52_2 := qe0 BK296.out 2
            have p300 : 0 ≤ (x10_4 : Int) := of_decide_eq_true (by first | (with_reducible assumption) | assumption)
            have q300 : x10_4 < (l0.length : Int) := of_decide_eq_true (by first | (with_reducible assumption) | assumption)
            obtain ⟨ad300, e300, hx300_0, hx300_1, hx300_2⟩ := at_T30 HR0.out x10_4 p300 q300
            obtain rfl : ad295 = ad300 := (by injection e300)
            replace hx300_0 := (HB.out.cell (World.block_lt_of_cell? w _ hx300_0)).trans hx300_0
            replace hx300_1 := (HB.out.cell (World.block_lt_of_cell? w _ hx300_1)).trans hx300_1
            replace hx300_2 := (HB.out.cell (World.block_lt_of_cell? w _ hx300_2)).trans hx300_2
            replace p300 := eq_true p300
            replace q300 := eq_true q300
            go_wp2
            repeat (go_quiet (fail); try go_wp2)
            go_ret2
            exact ⟨_, by first | rfl | (simp [errW_none, errW_some] <;> rfl) | (simp [*, errW_none, errW_some] <;> rfl), by first | exact Kd.R_nil _ _ _ _ _ | exact Kd.N_nil _ _ _ _ _ | exact Kd.V_nil _ _ _ _ _ | exact Kd.Q_nil _ _ _ _ _ | exact Kd.S_nil _ _ _ _ _, by repeat (first | (with_reducible first | exact HB.out | apply qb0 | apply qa0 | apply qc0 | refine qd0 ?_ GE296.out) | exact HB.out)⟩
           rw [if_neg c35] at H
           have c35b0 : (x10_4 == ((rd_T30 l0 x25_2).f1)) = false := beq_eq_false_iff_ne.mpr c35
           have c35b1 : (x10_4 != ((rd_T30 l0 x25_2).f1)) = true := bne_iff_ne.mpr c35
           by_cases c53 : 0 ≤ x10_4
           case neg => rw [if_neg c53] at H; exact absurd H (by simp)
           rw [if_pos c53] at H
           have c53b0 : decide (0 ≤ x10_4) = true := decide_eq_true c53
           clear c53
           by_cases c54 : x10_4 < (l0.length : Int)
           case neg => rw [if_neg c54] at H; exact absurd H (by simp)
           rw [if_pos c54] at H
           have c54b0 : decide (x10_4 < (l0.length : Int)) = true := decide_eq_true c54
           clear c54
           have H' := Aside0.mk H
           clear H
           have hcz55_0 : wr.cell? ⟨gb296, 0, none⟩ = some (.string ((rd_T30 l0 x25_2).f0)) := (qk0 BK296.out 0).trans rfl
           have hcz55_1 : wr.cell? ⟨gb296, 1, none⟩ = some (.int .i64 ((rd_T30 l0 x25_2).f1)) := (qk0 BK296.out 1).trans rfl
           have hcz55_2 : wr.cell? ⟨gb296, 2, none⟩ = some (.int .i64 ((rd_T30 l0 x25_2).f2)) := (qk0 BK296.out 2).trans rfl
           have hfz55_0 := qe0 BK296.out 0
           have hfz55_1 := qe0 BK296.out 1
           have hfz55_2 := qe0 BK296.out 2
           have p304 : 0 ≤ (x10_4 : Int) := of_decide_eq_true (by first | (with_reducible assumption) | assumption)
           have q304 : x10_4 < (l0.length : Int) := of_decide_eq_true (by first | (with_reducible assumption) | assumption)
           obtain ⟨ad304, e304, hx304_0, hx304_1, hx304_2⟩ := at_T30 HR0.out x10_4 p304 q304
           obtain rfl : ad295 = ad304 := (by injection e304)
           replace hx304_0 := (HB.out.cell (World.block_lt_of_cell? w _ hx304_0)).trans hx304_0
           replace hx304_1 := (HB.out.cell (World.block_lt_of_cell? w _ hx304_1)).trans hx304_1
           replace hx304_2 := (HB.out.cell (World.block_lt_of_cell? w _ hx304_2)).trans hx304_2
           replace p304 := eq_true p304
           replace q304 := eq_true q304
           go_wp2
           repeat (go_quiet (fail); try go_wp2)
           go_roundg k4
           case measure => have := HJ1.out; have := HK2.out; have := HJ14.out; have := HK4.out; omega
           case rel => exact ⟨((rd_T30 l0 x10_4).f1), (by first | rfl | (simp; done) | (simp [*]; done)), H', ⟨by have := HJ1.out; have := HK2.out; have := HJ14.out; have := HK4.out; omega⟩, ⟨by (with_reducible repeat (first | apply Kd.Z_alloc | apply Kd.Z_drewN | apply Kd.Z_drew)); exact HO_4.out⟩, ⟨by (with_reducible repeat (first | apply Kd.qh0 | apply Kd.qg0 | apply Kd.qm0)); exact HO_5.out⟩, ⟨by (with_reducible repeat (first | refine qn0 ?_ _ | refine qq0 ?_ | refine qo0 ?_ _)); exact BK296.out⟩, ⟨by repeat (first | (with_reducible first | exact HB.out | apply qb0 | apply qa0 | apply qc0 | refine qd0 ?_ GE296.out) | exact HB.out)⟩⟩
          rw [if_neg c34] at H
          have c34b0 : decide (0 ≤ x10_4) = false := decide_eq_false c34
          clear c34
          by_cases c56 : x10_4 < 0
          ·rw [if_pos c56] at H
           have c56b0 : decide (x10_4 < 0) = true := decide_eq_true c56
           clear c56
           simp only [Option.some.injEq, Prod.mk.injEq] at H
           obtain ⟨rfl, rfl⟩ := H
           go_wp2
           repeat (go_quiet (fail); try go_wp2)
           go_ret2
           exact ⟨_, by first | rfl | (simp [errW_none, errW_some] <;> rfl) | (simp [*, errW_none, errW_some] <;> rfl), by first | exact Kd.R_nil _ _ _ _ _ | exact Kd.N_nil _ _ _ _ _ | exact Kd.V_nil _ _ _ _ _ | exact Kd.Q_nil _ _ _ _ _ | exact Kd.S_nil _ _ _ _ _, by repeat (first | (with_reducible first | exact HB.out | apply qb0 | apply qa0 | apply qc0 | refine qd0 ?_ GE296.out) | exact HB.out)⟩
          rw [if_neg c56] at H
          have c56b0 : decide (x10_4 < 0) = false := decide_eq_false c56
          clear c56
          by_cases c57 : 0 ≤ x10_4
          case neg => rw [if_neg c57] at H; exact absurd H (by simp)
          rw [if_pos c57] at H
          have c57b0 : decide (0 ≤ x10_4) = true := decide_eq_true c57
          clear c57
          exact absurd (c34b0.symm.trans c57b0) (by decide)
     rw [if_neg c11] at H
     have c11b0 : decide (x25_2 < (l0.length : Int)) = false := decide_eq_false c11
     clear c11
     simp only [Option.some.injEq, Prod.mk.injEq] at H
     obtain ⟨rfl, rfl⟩ := H
     go_wp2
     repeat (go_quiet (fail); try go_wp2)
     go_ret2
     exact ⟨_, by first | rfl | (simp [errW_none, errW_some] <;> rfl) | (simp [*, errW_none, errW_some] <;> rfl), by (with_reducible repeat (first | apply Kd.qh0 | apply Kd.qg0 | apply Kd.qm0)); exact HO_5.out, by repeat (first | (with_reducible first | exact HB.out | apply qb0 | apply qa0 | apply qc0) | exact HB.out)⟩

/-! ### impl_ChartOk: function 73 -/
def impl_ChartOk.f (k : Nat) (l0 : List (S30)) : Option (Bool) := (impl_depths.f k l0).bind fun bt309 => (some bt309.2)
theorem impl_ChartOk.mono : ∀ a0 k, LeO (impl_ChartOk.f k a0) (impl_ChartOk.f (k + 1) a0) := by
 intro a0 k
 unfold impl_ChartOk.f
 repeat' first
   | (with_reducible exact impl_depths.mono _ _)
   | (with_reducible exact LeO.refl _)
   | (with_reducible exact LeO.none _)
   | (with_reducible refine LeO.ite ?_ ?_)
   | (with_reducible refine LeO.bind ?_ (fun _ => ?_))
   | exact impl_depths.mono _ _
   | exact LeO.none _
   | refine LeO.ite ?_ ?_
   | refine LeO.bind ?_ (fun _ => ?_)
set_option maxHeartbeats 8000000 in
set_option maxRecDepth 100000 in
theorem impl_ChartOk.calls (k : Nat) (A0 : Option Addr) (c0 : Nat) (l0 : List (S30)) (r : Bool) (w : World) (hr0 : Kd.C k30 w A0 l0.length l0) (hc0 : l0.length ≤ c0) (h : impl_ChartOk.f k l0 = some r) :
  Calls Try.prog 73 #[.slice A0 l0.length c0] w fun e w' => e = .returned (.bool r) ∧ Below w.heap.size w w' := by
 have HR0 := Aside0.mk hr0
 have HC0 := Aside0.mk hc0
 clear hr0 hc0
 have HB := Aside0.mk (Below.refl w.heap.size w)
 have H : ((impl_depths.f k l0).bind fun bt309 => (some bt309.2)) = some r := h
 clear h
 replace H := Option.bind_eq_some_iff.mp H
 obtain ⟨⟨t309, t310⟩, A20, H⟩ := H
 replace H : (some t310) = some r := H
 have A2 := Aside0.mk A20
 clear A20
 obtain rfl := Option.some.inj H
 go_enter Try.func73, Try.ntmps73
 go_wp2_with (first | ((with_reducible refine qp0 (f := 78) rfl ?_); refine qw0 (some 7) rfl rfl Try.func78 (by kernel_rfl) rfl #[.slice A0 l0.length c0] rfl (by (try simp only [List.map_toArray, List.map_cons, List.map_nil]); first | done | rfl | (simp only [List.length_drop, List.length_take]; rfl)) ?_; (with_reducible refine (impl_depths.calls k _ _ l0 t309 t310 _ ?side1 ?side2 A2.out).mono ?_); (case side1 => repeat (first | exact HR0.out | (with_reducible refine Kd.qy0 ?_ _) | (with_reducible refine Kd.qx0 ?_ _) | (with_reducible refine Kd.qe1 ?_))); (case side2 => exact HC0.out); rintro e w3 ⟨v311, rfl, ho0, hb⟩; refine ⟨_, rfl, ?_⟩; have n0_ := Aside0.mk (Kd.qg1 ho0 (qs0 (by repeat (first | (with_reducible first | exact HB.out | apply qb0 | apply qa0 | apply qc0) | exact HB.out)))); have n1_ := Aside0.mk (qt0 (by repeat (first | (with_reducible first | exact HB.out | apply qb0 | apply qa0 | apply qc0) | exact HB.out)) hb); clear HB; have HO312 := n0_; have HB := n1_; clear n0_ n1_; (try clear hb); (try clear hb2); (try clear hk); (try clear hi); (try clear ho0)))
 go_ret
 exact ⟨by first | rfl | (simp [errW_none, errW_some] <;> rfl) | (simp [*, errW_none, errW_some] <;> rfl), by repeat (first | (with_reducible first | exact HB.out | apply qb0 | apply qa0 | apply qc0) | exact HB.out)⟩

end Go.Proofs.Ytdnhpicgjkddbaa.PFnRolled
