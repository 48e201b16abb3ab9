/- Lines by a program (a changed copy of the kit's print: this repo's wip/tools): Go functions as Lean functions, and proofs that the calls answer so. -/
import Derived.Test.YtkkdmmefnicmaaaZPFnExactWriteBankx0
import Derived.Test.YtkkdmmefnicmaaaZPFnExactWriteBankx1
import Derived.Test.YtkkdmmefnicmaaaZPFnExactWriteBankx5
namespace Go.Proofs.Ytkkdmmefnicmaaa.PFnExactWriteBank
open Go.RowKit Go.Proofs.YtkkdmmefnicmaaaW.PrintWords Go.Proofs.YtkkdmmefnicmaaaW.PrintLast Go.Proofs.YtkkdmmefnicmaaaW.PrintMore
attribute [local go_sem] max2_int min2_int max_two min_two max_three min_three max_four min_four   -- for this text's walks alone
set_option linter.unusedVariables false
set_option linter.unusedSimpArgs false

/-! ### spec_WriteBank: function 33 -/
mutual
def spec_WriteBank.j0 : Nat → Int → List (S140) → Bool → Option (ByteArray)
 | 0, _, _, _ => none
 | k + 1, x0, x1, x16 => if x16 = true then (some (⟨#[]⟩ : ByteArray)) else (spec_WriteBank.l0 k x0 x1 0)
def spec_WriteBank.l0 : Nat → Int → List (S140) → Int → Option (ByteArray)
 | 0, _, _, _ => none
 | k + 1, x0, x1, x5 => if x5 < (x1.length : Int) then (if 0 ≤ x5 then ((spec_l14Pay.f k ((rd_T140 x1 x5).f0) ((rd_T140 x1 x5).f1) ((rd_T140 x1 x5).f2)).bind fun t133 => (if t133 = true then (spec_WriteBank.l0 k x0 x1 (wrap64 (x5 + 1))) else (some (⟨#[]⟩ : ByteArray)))) else (none)) else ((spec_l14Sum.f k x1).bind fun t134 => ((spec_l1Amount.f t134).bind fun t135 => (if t135 = true then ((spec_l1Text.f k x0).bind fun t136 => (if 2 + t136.size ≤ 9223372036854775807 then (if ((⟨#[72, 124]⟩ : ByteArray) ++ t136).size + 1 ≤ 9223372036854775807 then ((spec_l1Text.f k (x1.length : Int)).bind fun t137 => (if (((⟨#[72, 124]⟩ : ByteArray) ++ t136) ++ (⟨#[124]⟩ : ByteArray)).size + t137.size ≤ 9223372036854775807 then (if ((((⟨#[72, 124]⟩ : ByteArray) ++ t136) ++ (⟨#[124]⟩ : ByteArray)) ++ t137).size + 1 ≤ 9223372036854775807 then ((spec_l14Sum.f k x1).bind fun t138 => ((spec_ShowMoney.f k t138 2).bind fun t139 => (if (((((⟨#[72, 124]⟩ : ByteArray) ++ t136) ++ (⟨#[124]⟩ : ByteArray)) ++ t137) ++ (⟨#[124]⟩ : ByteArray)).size + t139.size ≤ 9223372036854775807 then (if ((((((⟨#[72, 124]⟩ : ByteArray) ++ t136) ++ (⟨#[124]⟩ : ByteArray)) ++ t137) ++ (⟨#[124]⟩ : ByteArray)) ++ t139).size + 1 ≤ 9223372036854775807 then (spec_WriteBank.l1 k x1 (((((((⟨#[72, 124]⟩ : ByteArray) ++ t136) ++ (⟨#[124]⟩ : ByteArray)) ++ t137) ++ (⟨#[124]⟩ : ByteArray)) ++ t139) ++ (⟨#[10]⟩ : ByteArray)) 0) else (none)) else (none)))) else (none)) else (none))) else (none)) else (none))) else (some (⟨#[]⟩ : ByteArray)))))
def spec_WriteBank.l1 : Nat → List (S140) → ByteArray → Int → Option (ByteArray)
 | 0, _, _, _ => none
 | k + 1, x1, x6, x7 => if x7 < (x1.length : Int) then (if x6.size + 2 ≤ 9223372036854775807 then (if 0 ≤ x7 then (if (x6 ++ (⟨#[80, 124]⟩ : ByteArray)).size + ((rd_T140 x1 x7).f0).size ≤ 9223372036854775807 then (if ((x6 ++ (⟨#[80, 124]⟩ : ByteArray)) ++ ((rd_T140 x1 x7).f0)).size + 1 ≤ 9223372036854775807 then (if (((x6 ++ (⟨#[80, 124]⟩ : ByteArray)) ++ ((rd_T140 x1 x7).f0)) ++ (⟨#[124]⟩ : ByteArray)).size + ((rd_T140 x1 x7).f1).size ≤ 9223372036854775807 then (if ((((x6 ++ (⟨#[80, 124]⟩ : ByteArray)) ++ ((rd_T140 x1 x7).f0)) ++ (⟨#[124]⟩ : ByteArray)) ++ ((rd_T140 x1 x7).f1)).size + 1 ≤ 9223372036854775807 then ((spec_ShowMoney.f k ((rd_T140 x1 x7).f2) 2).bind fun t143 => (if (((((x6 ++ (⟨#[80, 124]⟩ : ByteArray)) ++ ((rd_T140 x1 x7).f0)) ++ (⟨#[124]⟩ : ByteArray)) ++ ((rd_T140 x1 x7).f1)) ++ (⟨#[124]⟩ : ByteArray)).size + t143.size ≤ 9223372036854775807 then (if ((((((x6 ++ (⟨#[80, 124]⟩ : ByteArray)) ++ ((rd_T140 x1 x7).f0)) ++ (⟨#[124]⟩ : ByteArray)) ++ ((rd_T140 x1 x7).f1)) ++ (⟨#[124]⟩ : ByteArray)) ++ t143).size + 1 ≤ 9223372036854775807 then (spec_WriteBank.l1 k x1 (((((((x6 ++ (⟨#[80, 124]⟩ : ByteArray)) ++ ((rd_T140 x1 x7).f0)) ++ (⟨#[124]⟩ : ByteArray)) ++ ((rd_T140 x1 x7).f1)) ++ (⟨#[124]⟩ : ByteArray)) ++ t143) ++ (⟨#[10]⟩ : ByteArray)) (wrap64 (x7 + 1))) else (none)) else (none))) else (none)) else (none)) else (none)) else (none)) else (none)) else (none)) else (if x6.size + 2 ≤ 9223372036854775807 then ((spec_l14Check.f k x6).bind fun t144 => ((spec_l1Text.f k t144).bind fun t145 => (if (x6 ++ (⟨#[84, 124]⟩ : ByteArray)).size + t145.size ≤ 9223372036854775807 then (if ((x6 ++ (⟨#[84, 124]⟩ : ByteArray)) ++ t145).size + 1 ≤ 9223372036854775807 then (if ((((x6 ++ (⟨#[84, 124]⟩ : ByteArray)) ++ t145) ++ (⟨#[10]⟩ : ByteArray)).size : Int) > 20000 then (some (⟨#[]⟩ : ByteArray)) else (some (((x6 ++ (⟨#[84, 124]⟩ : ByteArray)) ++ t145) ++ (⟨#[10]⟩ : ByteArray)))) else (none)) else (none)))) else (none))
end
def spec_WriteBank.f (k : Nat) (a0 : Int) (l1 : List (S140)) : Option (ByteArray) := (spec_l2Day.f a0).bind fun t130 => (if t130 = true then ((spec_l1In.f (l1.length : Int) 1 100).bind fun t131 => (spec_WriteBank.j0 k a0 l1 (!t131))) else (spec_WriteBank.j0 k a0 l1 true))
theorem spec_WriteBank.mono_l : ∀ k, (∀ y0 y1 y2, LeO (spec_WriteBank.j0 k y0 y1 y2) (spec_WriteBank.j0 (k + 1) y0 y1 y2)) ∧ (∀ y0 y1 y2, LeO (spec_WriteBank.l0 k y0 y1 y2) (spec_WriteBank.l0 (k + 1) y0 y1 y2)) ∧ (∀ y0 y1 y2, LeO (spec_WriteBank.l1 k y0 y1 y2) (spec_WriteBank.l1 (k + 1) y0 y1 y2))
 | 0 => ⟨fun _ _ _ r h => by simp [spec_WriteBank.j0] at h, fun _ _ _ r h => by simp [spec_WriteBank.l0] at h, fun _ _ _ r h => by simp [spec_WriteBank.l1] at h⟩
 | k + 1 => by
  obtain ⟨ih0, ih1, ih2⟩ := spec_WriteBank.mono_l k
  refine ⟨?_, ?_, ?_⟩
  ·intro y0 y1 y2
   unfold spec_WriteBank.j0
   repeat' first
   | (with_reducible exact ih0 _ _ _)
   | (with_reducible exact ih1 _ _ _)
   | (with_reducible exact ih2 _ _ _)
   | (with_reducible exact spec_ShowMoney.mono _ _ _)
   | (with_reducible exact spec_l14Check.mono _ _)
   | (with_reducible exact spec_l14Pay.mono _ _ _ _)
   | (with_reducible exact spec_l14Sum.mono _ _)
   | (with_reducible exact spec_l1Text.mono _ _)
   | (with_reducible exact LeO.refl _)
   | (with_reducible exact LeO.none _)
   | (with_reducible refine LeO.ite ?_ ?_)
   | (with_reducible refine LeO.bind ?_ (fun _ => ?_))
   | exact ih0 _ _ _
   | exact ih1 _ _ _
   | exact ih2 _ _ _
   | exact spec_ShowMoney.mono _ _ _
   | exact spec_l14Check.mono _ _
   | exact spec_l14Pay.mono _ _ _ _
   | exact spec_l14Sum.mono _ _
   | exact spec_l1Text.mono _ _
   | exact LeO.none _
   | refine LeO.ite ?_ ?_
   | refine LeO.bind ?_ (fun _ => ?_)
  ·intro y0 y1 y2
   unfold spec_WriteBank.l0
   repeat' first
   | (with_reducible exact ih0 _ _ _)
   | (with_reducible exact ih1 _ _ _)
   | (with_reducible exact ih2 _ _ _)
   | (with_reducible exact spec_ShowMoney.mono _ _ _)
   | (with_reducible exact spec_l14Check.mono _ _)
   | (with_reducible exact spec_l14Pay.mono _ _ _ _)
   | (with_reducible exact spec_l14Sum.mono _ _)
   | (with_reducible exact spec_l1Text.mono _ _)
   | (with_reducible exact LeO.refl _)
   | (with_reducible exact LeO.none _)
   | (with_reducible refine LeO.ite ?_ ?_)
   | (with_reducible refine LeO.bind ?_ (fun _ => ?_))
   | exact ih0 _ _ _
   | exact ih1 _ _ _
   | exact ih2 _ _ _
   | exact spec_ShowMoney.mono _ _ _
   | exact spec_l14Check.mono _ _
   | exact spec_l14Pay.mono _ _ _ _
   | exact spec_l14Sum.mono _ _
   | exact spec_l1Text.mono _ _
   | exact LeO.none _
   | refine LeO.ite ?_ ?_
   | refine LeO.bind ?_ (fun _ => ?_)
  ·intro y0 y1 y2
   unfold spec_WriteBank.l1
   repeat' first
   | (with_reducible exact ih0 _ _ _)
   | (with_reducible exact ih1 _ _ _)
   | (with_reducible exact ih2 _ _ _)
   | (with_reducible exact spec_ShowMoney.mono _ _ _)
   | (with_reducible exact spec_l14Check.mono _ _)
   | (with_reducible exact spec_l14Pay.mono _ _ _ _)
   | (with_reducible exact spec_l14Sum.mono _ _)
   | (with_reducible exact spec_l1Text.mono _ _)
   | (with_reducible exact LeO.refl _)
   | (with_reducible exact LeO.none _)
   | (with_reducible refine LeO.ite ?_ ?_)
   | (with_reducible refine LeO.bind ?_ (fun _ => ?_))
   | exact ih0 _ _ _
   | exact ih1 _ _ _
   | exact ih2 _ _ _
   | exact spec_ShowMoney.mono _ _ _
   | exact spec_l14Check.mono _ _
   | exact spec_l14Pay.mono _ _ _ _
   | exact spec_l14Sum.mono _ _
   | exact spec_l1Text.mono _ _
   | exact LeO.none _
   | refine LeO.ite ?_ ?_
   | refine LeO.bind ?_ (fun _ => ?_)
theorem spec_WriteBank.mono : ∀ a0 a1 k, LeO (spec_WriteBank.f k a0 a1) (spec_WriteBank.f (k + 1) a0 a1) := by
 intro a0 a1 k
 obtain ⟨ih0, ih1, ih2⟩ := spec_WriteBank.mono_l k
 unfold spec_WriteBank.f
 repeat' first
   | (with_reducible exact ih0 _ _ _)
   | (with_reducible exact ih1 _ _ _)
   | (with_reducible exact ih2 _ _ _)
   | (with_reducible exact spec_ShowMoney.mono _ _ _)
   | (with_reducible exact spec_l14Check.mono _ _)
   | (with_reducible exact spec_l14Pay.mono _ _ _ _)
   | (with_reducible exact spec_l14Sum.mono _ _)
   | (with_reducible exact spec_l1Text.mono _ _)
   | (with_reducible exact LeO.refl _)
   | (with_reducible exact LeO.none _)
   | (with_reducible refine LeO.ite ?_ ?_)
   | (with_reducible refine LeO.bind ?_ (fun _ => ?_))
   | exact ih0 _ _ _
   | exact ih1 _ _ _
   | exact ih2 _ _ _
   | exact spec_ShowMoney.mono _ _ _
   | exact spec_l14Check.mono _ _
   | exact spec_l14Pay.mono _ _ _ _
   | exact spec_l14Sum.mono _ _
   | exact spec_l1Text.mono _ _
   | exact LeO.none _
   | refine LeO.ite ?_ ?_
   | refine LeO.bind ?_ (fun _ => ?_)
def spec_WriteBank.T14 : Bool × List (List Nat × List Nat) := (true, [([], []), ([0], [0]), ([], []), ([], []), ([2, 3], [2, 3]), ([4], [4]), ([5], [5]), ([1, 6], [1, 6]), ([7], [7]), ([], []), ([], []), ([9, 10], [9, 10]), ([11], [11]), ([12], [12]), ([8, 13], [8, 13]), ([14], [14]), ([], []), ([], []), ([16, 17], [16, 17]), ([18], [18]), ([19], [19]), ([20], [20]), ([15, 21], [15, 21]), ([22], [22]), ([23, 21, 0, 1, 2, 3, 4, 5, 6, 7, 8, 9, 10, 11, 12, 13, 14, 15, 16, 17, 18, 19, 20, 21, 22, 23], [0, 23])])
def spec_WriteBank.B14 : List Nat := [0, 1, 0, 0, 12, 28, 60, 127, 255, 0, 0, 1536, 3584, 7680, 16383, 32767, 0, 0, 196608, 458752, 983040, 2031616, 4194303, 8388607, 16777215]
theorem spec_WriteBank.tab14 : rtab .any (opsOf Try.f33 14) = spec_WriteBank.T14 := by kernel_rfl
theorem spec_WriteBank.bits14 : waitsOk spec_WriteBank.T14.2 spec_WriteBank.B14 = true := by kernel_rfl
set_option maxHeartbeats 8000000 in
set_option maxRecDepth 100000 in
theorem spec_WriteBank.calls (k : Nat) (a0 : Int) (A1 : Option Addr) (c1 : Nat) (l1 : List (S140)) (r : ByteArray) (w : World) (hr1 : Kd.C k140 w A1 l1.length l1) (hc1 : l1.length ≤ c1) (h : spec_WriteBank.f k a0 l1 = some r) :
  Calls Try.prog 33 #[.int .i64 a0, .slice A1 l1.length c1] w fun e w' => e = .returned (.string r) ∧ Below w.heap.size w w' := by
 have hu140 := Try.underlying140
 have HR1 := Aside0.mk hr1
 have HC1 := Aside0.mk hc1
 clear hr1 hc1
 have HB := Aside0.mk (Below.refl w.heap.size w)
 have H : ((spec_l2Day.f a0).bind fun t130 => (if t130 = true then ((spec_l1In.f (l1.length : Int) 1 100).bind fun t131 => (spec_WriteBank.j0 k a0 l1 (!t131))) else (spec_WriteBank.j0 k a0 l1 true))) = some r := h
 clear h
 have HC3 := Aside0.mk H
 clear H
 go_enter Try.func33, Try.ntmps33
 go_upto_region 1 with (fail)
 go_cut [16] (fun v16 wc => ∃ (kq : Nat) (x16_2 : Bool), v16 = .bool x16_2 ∧ Aside0 (spec_WriteBank.j0 kq a0 l1 x16_2 = some r) ∧ Aside0 (kq ≤ k) ∧ Aside0 (Below w.heap.size w wc))
 case first =>
  have H := HC3.out
  clear HC3
  replace H := Option.bind_eq_some_iff.mp H
  obtain ⟨t130, A40, H⟩ := H
  replace H : (if t130 = true then ((spec_l1In.f (l1.length : Int) 1 100).bind fun t131 => (spec_WriteBank.j0 k a0 l1 (!t131))) else (spec_WriteBank.j0 k a0 l1 true)) = some r := H
  have A4 := Aside0.mk A40
  clear A40
  by_cases c5 : t130 = true
  ·subst c5
   have H1 : ((spec_l1In.f (l1.length : Int) 1 100).bind fun t131 => (spec_WriteBank.j0 k a0 l1 (!t131))) = some r := by rw [if_pos rfl] at H; exact H
   clear H
   have H := H1
   clear H1
   replace H := Option.bind_eq_some_iff.mp H
   obtain ⟨t131, A60, H⟩ := H
   replace H : (spec_WriteBank.j0 k a0 l1 (!t131)) = some r := H
   have A6 := Aside0.mk A60
   clear A60
   have H' := Aside0.mk H
   clear H
   go_wp2_with (first | ((with_reducible refine qf0 (f := 90) rfl ?_); refine qn0 (some 9) rfl rfl Try.func90 (by kernel_rfl) rfl #[.int .i64 a0] rfl (by (try simp only [List.map_toArray, List.map_cons, List.map_nil]); first | done | rfl | (simp only [List.length_drop, List.length_take]; rfl)) ?_; (with_reducible refine (spec_l2Day.calls a0 true _ A4.out).mono ?_); rintro e w' ⟨rfl, ⟨nd, rfl⟩⟩; refine ⟨_, rfl, ?_⟩) | (go_at_call 79; (with_reducible refine (spec_l1In.calls (l1.length : Int) 1 100 t131 _ A6.out).mono ?_); rintro e w' ⟨rfl, ⟨nd, rfl⟩⟩))
   go_meet
   case rel => exact ⟨_, (!t131), (by first | rfl | (simp; done) | (simp [*]; done)), H', ⟨by first | omega | exact Nat.le_refl _⟩, ⟨by repeat (first | (with_reducible first | exact HB.out | apply qc0 | apply qa0 | apply qb0) | exact HB.out)⟩⟩
  replace c5 := Bool.eq_false_iff.mpr c5
  subst c5
  have H1 : (spec_WriteBank.j0 k a0 l1 true) = some r := by rw [if_neg (show ¬ (false = true) by decide)] at H; exact H
  clear H
  have H := H1
  clear H1
  have H' := Aside0.mk H
  clear H
  go_wp2_with (first | ((with_reducible refine qf0 (f := 90) rfl ?_); refine qn0 (some 9) rfl rfl Try.func90 (by kernel_rfl) rfl #[.int .i64 a0] rfl (by (try simp only [List.map_toArray, List.map_cons, List.map_nil]); first | done | rfl | (simp only [List.length_drop, List.length_take]; rfl)) ?_; (with_reducible refine (spec_l2Day.calls a0 false _ A4.out).mono ?_); rintro e w' ⟨rfl, ⟨nd, rfl⟩⟩; refine ⟨_, rfl, ?_⟩))
  go_meet
  case rel => exact ⟨_, (true), (by first | rfl | (simp; done) | (simp [*]; done)), H', ⟨by first | omega | exact Nat.le_refl _⟩, ⟨by repeat (first | (with_reducible first | exact HB.out | apply qc0 | apply qa0 | apply qb0) | exact HB.out)⟩⟩
 case rest =>
  clear HC3
  try clear c1
  try clear p2
  try clear c3
  try clear c5
  obtain ⟨kq, x16_2, rfl, HA, HJ2, HB⟩ := hcut
  cases kq with
  | zero => exact absurd HA.out (by simp [spec_WriteBank.j0])
  | succ kj2 =>
   have H := HA.out
   clear HA
   simp only [spec_WriteBank.j0] at H
   by_cases c7 : x16_2 = true
   ·subst c7
    have H1 : (some (⟨#[]⟩ : ByteArray)) = some r := by rw [if_pos rfl] at H; exact H
    clear H
    have H := H1
    clear H1
    obtain rfl := Option.some.inj H
    go_wp2
    go_ret
    exact ⟨by first | rfl | (simp [errW_none, errW_some] <;> rfl) | (simp [*, errW_none, errW_some] <;> rfl), by repeat (first | (with_reducible first | exact HB.out | apply qc0 | apply qa0 | apply qb0) | exact HB.out)⟩
   replace c7 := Bool.eq_false_iff.mpr c7
   subst c7
   have H1 : (spec_WriteBank.l0 kj2 a0 l1 0) = some r := by rw [if_neg (show ¬ (false = true) by decide)] at H; exact H
   clear H
   have H := H1
   clear H1
   have H' := Aside0.mk H
   clear H
   go_wp2
   go_loopg [5] kj2 (fun kq v5 w' => ∃ (x5_2 : Int), v5 = .int .i64 x5_2 ∧ Aside0 (spec_WriteBank.l0 kq a0 l1 x5_2 = some r) ∧ Aside0 (kq ≤ kj2) ∧ Aside0 (Below w.heap.size w w'))
   case atStart => exact ⟨(0), (by first | rfl | (simp; done) | (simp [*]; done)), H', ⟨Nat.le_refl _⟩, ⟨by repeat (first | (with_reducible first | exact HB.out | apply qc0 | apply qa0 | apply qb0) | exact HB.out)⟩⟩
   case round =>
    clear H'
    try clear c1
    try clear p2
    try clear c3
    try clear c5
    try clear c7
    try clear p2
    obtain ⟨x5_2, rfl, HA, HK2, HB⟩ := hrel
    cases gk with
    | zero => exact absurd HA.out (by simp [spec_WriteBank.l0])
    | succ k2 =>
     have H := HA.out
     clear HA
     simp only [spec_WriteBank.l0] at H
     by_cases c8 : x5_2 < (l1.length : Int)
     ·rw [if_pos c8] at H
      have c8b0 : decide (x5_2 < (l1.length : Int)) = true := decide_eq_true c8
      clear c8
      by_cases c9 : 0 ≤ x5_2
      case neg => rw [if_neg c9] at H; exact absurd H (by simp)
      rw [if_pos c9] at H
      have c9b0 : decide (0 ≤ x5_2) = true := decide_eq_true c9
      clear c9
      replace H := Option.bind_eq_some_iff.mp H
      obtain ⟨t133, A100, H⟩ := H
      replace H : (if t133 = true then (spec_WriteBank.l0 k2 a0 l1 (wrap64 (x5_2 + 1))) else (some (⟨#[]⟩ : ByteArray))) = some r := H
      have A10 := Aside0.mk A100
      clear A100
      by_cases c11 : t133 = true
      ·subst c11
       have H1 : (spec_WriteBank.l0 k2 a0 l1 (wrap64 (x5_2 + 1))) = some r := by rw [if_pos rfl] at H; exact H
       clear H
       have H := H1
       clear H1
       have H' := Aside0.mk H
       clear H
       have p132 : 0 ≤ (x5_2 : Int) := of_decide_eq_true (by first | (with_reducible assumption) | assumption)
       have q132 : x5_2 < (l1.length : Int) := of_decide_eq_true (by first | (with_reducible assumption) | assumption)
       obtain ⟨ad132, e132, hx132_0, hx132_1, hx132_2⟩ := at_T140 HR1.out x5_2 p132 q132
       cases e132
       replace hx132_0 := (HB.out.cell (World.block_lt_of_cell? w _ hx132_0)).trans hx132_0
       replace hx132_1 := (HB.out.cell (World.block_lt_of_cell? w _ hx132_1)).trans hx132_1
       replace hx132_2 := (HB.out.cell (World.block_lt_of_cell? w _ hx132_2)).trans hx132_2
       replace p132 := eq_true p132
       replace q132 := eq_true q132
       go_wp2_with (first | ((with_reducible refine qf0 (f := 91) rfl ?_); refine qn0 (some 27) rfl rfl Try.func91 (by kernel_rfl) rfl #[.agg #[.string ((rd_T140 l1 x5_2).f0), .string ((rd_T140 l1 x5_2).f1), .int .i64 ((rd_T140 l1 x5_2).f2)]] rfl (by (try simp only [List.map_toArray, List.map_cons, List.map_nil]); first | done | rfl | (simp only [List.length_drop, List.length_take]; rfl)) ?_; (with_reducible refine (spec_l14Pay.calls k2 ((rd_T140 l1 x5_2).f0) ((rd_T140 l1 x5_2).f1) ((rd_T140 l1 x5_2).f2) true _ A10.out).mono ?_); rintro e w12 ⟨rfl, hb⟩; refine ⟨_, rfl, ?_⟩; have n0_ := Aside0.mk (qg0 (by repeat (first | (with_reducible first | exact HB.out | apply qc0 | apply qa0 | apply qb0) | exact HB.out)) hb); clear HB; have HB := n0_; clear n0_; (try clear hb); (try clear hb2); (try clear hk); (try clear hi)))
       go_roundg k2
       case measure => have := HJ2.out; have := HK2.out; omega
       case rel => exact ⟨(wrap64 (x5_2 + 1)), (by first | rfl | (simp; done) | (simp [*]; done)), H', ⟨by have := HJ2.out; have := HK2.out; omega⟩, ⟨by repeat (first | (with_reducible first | exact HB.out | apply qc0 | apply qa0 | apply qb0) | exact HB.out)⟩⟩
      replace c11 := Bool.eq_false_iff.mpr c11
      subst c11
      have H1 : (some (⟨#[]⟩ : ByteArray)) = some r := by rw [if_neg (show ¬ (false = true) by decide)] at H; exact H
      clear H
      have H := H1
      clear H1
      obtain rfl := Option.some.inj H
      have p132 : 0 ≤ (x5_2 : Int) := of_decide_eq_true (by first | (with_reducible assumption) | assumption)
      have q132 : x5_2 < (l1.length : Int) := of_decide_eq_true (by first | (with_reducible assumption) | assumption)
      obtain ⟨ad132, e132, hx132_0, hx132_1, hx132_2⟩ := at_T140 HR1.out x5_2 p132 q132
      cases e132
      replace hx132_0 := (HB.out.cell (World.block_lt_of_cell? w _ hx132_0)).trans hx132_0
      replace hx132_1 := (HB.out.cell (World.block_lt_of_cell? w _ hx132_1)).trans hx132_1
      replace hx132_2 := (HB.out.cell (World.block_lt_of_cell? w _ hx132_2)).trans hx132_2
      replace p132 := eq_true p132
      replace q132 := eq_true q132
      go_wp2_with (first | ((with_reducible refine qf0 (f := 91) rfl ?_); refine qn0 (some 27) rfl rfl Try.func91 (by kernel_rfl) rfl #[.agg #[.string ((rd_T140 l1 x5_2).f0), .string ((rd_T140 l1 x5_2).f1), .int .i64 ((rd_T140 l1 x5_2).f2)]] rfl (by (try simp only [List.map_toArray, List.map_cons, List.map_nil]); first | done | rfl | (simp only [List.length_drop, List.length_take]; rfl)) ?_; (with_reducible refine (spec_l14Pay.calls k2 ((rd_T140 l1 x5_2).f0) ((rd_T140 l1 x5_2).f1) ((rd_T140 l1 x5_2).f2) false _ A10.out).mono ?_); rintro e w13 ⟨rfl, hb⟩; refine ⟨_, rfl, ?_⟩; have n0_ := Aside0.mk (qg0 (by repeat (first | (with_reducible first | exact HB.out | apply qc0 | apply qa0 | apply qb0) | exact HB.out)) hb); clear HB; have HB := n0_; clear n0_; (try clear hb); (try clear hb2); (try clear hk); (try clear hi)))
      go_ret
      exact ⟨by first | rfl | (simp [errW_none, errW_some] <;> rfl) | (simp [*, errW_none, errW_some] <;> rfl), by repeat (first | (with_reducible first | exact HB.out | apply qc0 | apply qa0 | apply qb0) | exact HB.out)⟩
     rw [if_neg c8] at H
     have c8b0 : decide (x5_2 < (l1.length : Int)) = false := decide_eq_false c8
     clear c8
     replace H := Option.bind_eq_some_iff.mp H
     obtain ⟨t134, A140, H⟩ := H
     replace H : ((spec_l1Amount.f t134).bind fun t135 => (if t135 = true then ((spec_l1Text.f k2 a0).bind fun t136 => (if 2 + t136.size ≤ 9223372036854775807 then (if ((⟨#[72, 124]⟩ : ByteArray) ++ t136).size + 1 ≤ 9223372036854775807 then ((spec_l1Text.f k2 (l1.length : Int)).bind fun t137 => (if (((⟨#[72, 124]⟩ : ByteArray) ++ t136) ++ (⟨#[124]⟩ : ByteArray)).size + t137.size ≤ 9223372036854775807 then (if ((((⟨#[72, 124]⟩ : ByteArray) ++ t136) ++ (⟨#[124]⟩ : ByteArray)) ++ t137).size + 1 ≤ 9223372036854775807 then ((spec_l14Sum.f k2 l1).bind fun t138 => ((spec_ShowMoney.f k2 t138 2).bind fun t139 => (if (((((⟨#[72, 124]⟩ : ByteArray) ++ t136) ++ (⟨#[124]⟩ : ByteArray)) ++ t137) ++ (⟨#[124]⟩ : ByteArray)).size + t139.size ≤ 9223372036854775807 then (if ((((((⟨#[72, 124]⟩ : ByteArray) ++ t136) ++ (⟨#[124]⟩ : ByteArray)) ++ t137) ++ (⟨#[124]⟩ : ByteArray)) ++ t139).size + 1 ≤ 9223372036854775807 then (spec_WriteBank.l1 k2 l1 (((((((⟨#[72, 124]⟩ : ByteArray) ++ t136) ++ (⟨#[124]⟩ : ByteArray)) ++ t137) ++ (⟨#[124]⟩ : ByteArray)) ++ t139) ++ (⟨#[10]⟩ : ByteArray)) 0) else (none)) else (none)))) else (none)) else (none))) else (none)) else (none))) else (some (⟨#[]⟩ : ByteArray)))) = some r := H
     have A14 := Aside0.mk A140
     clear A140
     replace H := Option.bind_eq_some_iff.mp H
     obtain ⟨t135, A150, H⟩ := H
     replace H : (if t135 = true then ((spec_l1Text.f k2 a0).bind fun t136 => (if 2 + t136.size ≤ 9223372036854775807 then (if ((⟨#[72, 124]⟩ : ByteArray) ++ t136).size + 1 ≤ 9223372036854775807 then ((spec_l1Text.f k2 (l1.length : Int)).bind fun t137 => (if (((⟨#[72, 124]⟩ : ByteArray) ++ t136) ++ (⟨#[124]⟩ : ByteArray)).size + t137.size ≤ 9223372036854775807 then (if ((((⟨#[72, 124]⟩ : ByteArray) ++ t136) ++ (⟨#[124]⟩ : ByteArray)) ++ t137).size + 1 ≤ 9223372036854775807 then ((spec_l14Sum.f k2 l1).bind fun t138 => ((spec_ShowMoney.f k2 t138 2).bind fun t139 => (if (((((⟨#[72, 124]⟩ : ByteArray) ++ t136) ++ (⟨#[124]⟩ : ByteArray)) ++ t137) ++ (⟨#[124]⟩ : ByteArray)).size + t139.size ≤ 9223372036854775807 then (if ((((((⟨#[72, 124]⟩ : ByteArray) ++ t136) ++ (⟨#[124]⟩ : ByteArray)) ++ t137) ++ (⟨#[124]⟩ : ByteArray)) ++ t139).size + 1 ≤ 9223372036854775807 then (spec_WriteBank.l1 k2 l1 (((((((⟨#[72, 124]⟩ : ByteArray) ++ t136) ++ (⟨#[124]⟩ : ByteArray)) ++ t137) ++ (⟨#[124]⟩ : ByteArray)) ++ t139) ++ (⟨#[10]⟩ : ByteArray)) 0) else (none)) else (none)))) else (none)) else (none))) else (none)) else (none))) else (some (⟨#[]⟩ : ByteArray))) = some r := H
     have A15 := Aside0.mk A150
     clear A150
     by_cases c16 : t135 = true
     ·subst c16
      have H1 : ((spec_l1Text.f k2 a0).bind fun t136 => (if 2 + t136.size ≤ 9223372036854775807 then (if ((⟨#[72, 124]⟩ : ByteArray) ++ t136).size + 1 ≤ 9223372036854775807 then ((spec_l1Text.f k2 (l1.length : Int)).bind fun t137 => (if (((⟨#[72, 124]⟩ : ByteArray) ++ t136) ++ (⟨#[124]⟩ : ByteArray)).size + t137.size ≤ 9223372036854775807 then (if ((((⟨#[72, 124]⟩ : ByteArray) ++ t136) ++ (⟨#[124]⟩ : ByteArray)) ++ t137).size + 1 ≤ 9223372036854775807 then ((spec_l14Sum.f k2 l1).bind fun t138 => ((spec_ShowMoney.f k2 t138 2).bind fun t139 => (if (((((⟨#[72, 124]⟩ : ByteArray) ++ t136) ++ (⟨#[124]⟩ : ByteArray)) ++ t137) ++ (⟨#[124]⟩ : ByteArray)).size + t139.size ≤ 9223372036854775807 then (if ((((((⟨#[72, 124]⟩ : ByteArray) ++ t136) ++ (⟨#[124]⟩ : ByteArray)) ++ t137) ++ (⟨#[124]⟩ : ByteArray)) ++ t139).size + 1 ≤ 9223372036854775807 then (spec_WriteBank.l1 k2 l1 (((((((⟨#[72, 124]⟩ : ByteArray) ++ t136) ++ (⟨#[124]⟩ : ByteArray)) ++ t137) ++ (⟨#[124]⟩ : ByteArray)) ++ t139) ++ (⟨#[10]⟩ : ByteArray)) 0) else (none)) else (none)))) else (none)) else (none))) else (none)) else (none))) = some r := by rw [if_pos rfl] at H; exact H
      clear H
      have H := H1
      clear H1
      replace H := Option.bind_eq_some_iff.mp H
      obtain ⟨t136, A170, H⟩ := H
      replace H : (if 2 + t136.size ≤ 9223372036854775807 then (if ((⟨#[72, 124]⟩ : ByteArray) ++ t136).size + 1 ≤ 9223372036854775807 then ((spec_l1Text.f k2 (l1.length : Int)).bind fun t137 => (if (((⟨#[72, 124]⟩ : ByteArray) ++ t136) ++ (⟨#[124]⟩ : ByteArray)).size + t137.size ≤ 9223372036854775807 then (if ((((⟨#[72, 124]⟩ : ByteArray) ++ t136) ++ (⟨#[124]⟩ : ByteArray)) ++ t137).size + 1 ≤ 9223372036854775807 then ((spec_l14Sum.f k2 l1).bind fun t138 => ((spec_ShowMoney.f k2 t138 2).bind fun t139 => (if (((((⟨#[72, 124]⟩ : ByteArray) ++ t136) ++ (⟨#[124]⟩ : ByteArray)) ++ t137) ++ (⟨#[124]⟩ : ByteArray)).size + t139.size ≤ 9223372036854775807 then (if ((((((⟨#[72, 124]⟩ : ByteArray) ++ t136) ++ (⟨#[124]⟩ : ByteArray)) ++ t137) ++ (⟨#[124]⟩ : ByteArray)) ++ t139).size + 1 ≤ 9223372036854775807 then (spec_WriteBank.l1 k2 l1 (((((((⟨#[72, 124]⟩ : ByteArray) ++ t136) ++ (⟨#[124]⟩ : ByteArray)) ++ t137) ++ (⟨#[124]⟩ : ByteArray)) ++ t139) ++ (⟨#[10]⟩ : ByteArray)) 0) else (none)) else (none)))) else (none)) else (none))) else (none)) else (none)) = some r := H
      have A17 := Aside0.mk A170
      clear A170
      by_cases c18 : 2 + t136.size ≤ 9223372036854775807
      case neg => rw [if_neg c18] at H; exact absurd H (by simp)
      rw [if_pos c18] at H
      have c18b0 := eq_true c18
      have c18b1 : decide (2 + t136.size ≤ 9223372036854775807) = true := decide_eq_true c18
      try have c18b2 : (9223372036854775807 < 2 + t136.size) = False := eq_false (Nat.not_lt.2 c18)
      by_cases c19 : ((⟨#[72, 124]⟩ : ByteArray) ++ t136).size + 1 ≤ 9223372036854775807
      case neg => rw [if_neg c19] at H; exact absurd H (by simp)
      rw [if_pos c19] at H
      have c19b0 := eq_true c19
      have c19b1 : decide (((⟨#[72, 124]⟩ : ByteArray) ++ t136).size + 1 ≤ 9223372036854775807) = true := decide_eq_true c19
      try have c19b2 : (9223372036854775807 < ((⟨#[72, 124]⟩ : ByteArray) ++ t136).size + 1) = False := eq_false (Nat.not_lt.2 c19)
      have c19b3 : (9223372036854775807 < 2 + t136.size + 1) = False := eq_false (by have h_ := c19; simp only [ByteArray.size_append] at h_; have l0_ : (⟨#[72, 124]⟩ : ByteArray).size = 2 := rfl; omega)
      replace H := Option.bind_eq_some_iff.mp H
      obtain ⟨t137, A200, H⟩ := H
      replace H : (if (((⟨#[72, 124]⟩ : ByteArray) ++ t136) ++ (⟨#[124]⟩ : ByteArray)).size + t137.size ≤ 9223372036854775807 then (if ((((⟨#[72, 124]⟩ : ByteArray) ++ t136) ++ (⟨#[124]⟩ : ByteArray)) ++ t137).size + 1 ≤ 9223372036854775807 then ((spec_l14Sum.f k2 l1).bind fun t138 => ((spec_ShowMoney.f k2 t138 2).bind fun t139 => (if (((((⟨#[72, 124]⟩ : ByteArray) ++ t136) ++ (⟨#[124]⟩ : ByteArray)) ++ t137) ++ (⟨#[124]⟩ : ByteArray)).size + t139.size ≤ 9223372036854775807 then (if ((((((⟨#[72, 124]⟩ : ByteArray) ++ t136) ++ (⟨#[124]⟩ : ByteArray)) ++ t137) ++ (⟨#[124]⟩ : ByteArray)) ++ t139).size + 1 ≤ 9223372036854775807 then (spec_WriteBank.l1 k2 l1 (((((((⟨#[72, 124]⟩ : ByteArray) ++ t136) ++ (⟨#[124]⟩ : ByteArray)) ++ t137) ++ (⟨#[124]⟩ : ByteArray)) ++ t139) ++ (⟨#[10]⟩ : ByteArray)) 0) else (none)) else (none)))) else (none)) else (none)) = some r := H
      have A20 := Aside0.mk A200
      clear A200
      by_cases c21 : (((⟨#[72, 124]⟩ : ByteArray) ++ t136) ++ (⟨#[124]⟩ : ByteArray)).size + t137.size ≤ 9223372036854775807
      case neg => rw [if_neg c21] at H; exact absurd H (by simp)
      rw [if_pos c21] at H
      have c21b0 := eq_true c21
      have c21b1 : decide ((((⟨#[72, 124]⟩ : ByteArray) ++ t136) ++ (⟨#[124]⟩ : ByteArray)).size + t137.size ≤ 9223372036854775807) = true := decide_eq_true c21
      try have c21b2 : (9223372036854775807 < (((⟨#[72, 124]⟩ : ByteArray) ++ t136) ++ (⟨#[124]⟩ : ByteArray)).size + t137.size) = False := eq_false (Nat.not_lt.2 c21)
      have c21b3 : (9223372036854775807 < 2 + t136.size + 1 + t137.size) = False := eq_false (by have h_ := c21; simp only [ByteArray.size_append] at h_; have l0_ : (⟨#[72, 124]⟩ : ByteArray).size = 2 := rfl; have l1_ : (⟨#[124]⟩ : ByteArray).size = 1 := rfl; omega)
      by_cases c22 : ((((⟨#[72, 124]⟩ : ByteArray) ++ t136) ++ (⟨#[124]⟩ : ByteArray)) ++ t137).size + 1 ≤ 9223372036854775807
      case neg => rw [if_neg c22] at H; exact absurd H (by simp)
      rw [if_pos c22] at H
      have c22b0 := eq_true c22
      have c22b1 : decide (((((⟨#[72, 124]⟩ : ByteArray) ++ t136) ++ (⟨#[124]⟩ : ByteArray)) ++ t137).size + 1 ≤ 9223372036854775807) = true := decide_eq_true c22
      try have c22b2 : (9223372036854775807 < ((((⟨#[72, 124]⟩ : ByteArray) ++ t136) ++ (⟨#[124]⟩ : ByteArray)) ++ t137).size + 1) = False := eq_false (Nat.not_lt.2 c22)
      have c22b3 : (9223372036854775807 < 2 + t136.size + 1 + t137.size + 1) = False := eq_false (by have h_ := c22; simp only [ByteArray.size_append] at h_; have l0_ : (⟨#[72, 124]⟩ : ByteArray).size = 2 := rfl; have l1_ : (⟨#[124]⟩ : ByteArray).size = 1 := rfl; omega)
      replace H := Option.bind_eq_some_iff.mp H
      obtain ⟨t138, A230, H⟩ := H
      replace H : ((spec_ShowMoney.f k2 t138 2).bind fun t139 => (if (((((⟨#[72, 124]⟩ : ByteArray) ++ t136) ++ (⟨#[124]⟩ : ByteArray)) ++ t137) ++ (⟨#[124]⟩ : ByteArray)).size + t139.size ≤ 9223372036854775807 then (if ((((((⟨#[72, 124]⟩ : ByteArray) ++ t136) ++ (⟨#[124]⟩ : ByteArray)) ++ t137) ++ (⟨#[124]⟩ : ByteArray)) ++ t139).size + 1 ≤ 9223372036854775807 then (spec_WriteBank.l1 k2 l1 (((((((⟨#[72, 124]⟩ : ByteArray) ++ t136) ++ (⟨#[124]⟩ : ByteArray)) ++ t137) ++ (⟨#[124]⟩ : ByteArray)) ++ t139) ++ (⟨#[10]⟩ : ByteArray)) 0) else (none)) else (none))) = some r := H
      have A23 := Aside0.mk A230
      clear A230
      replace H := Option.bind_eq_some_iff.mp H
      obtain ⟨t139, A240, H⟩ := H
      replace H : (if (((((⟨#[72, 124]⟩ : ByteArray) ++ t136) ++ (⟨#[124]⟩ : ByteArray)) ++ t137) ++ (⟨#[124]⟩ : ByteArray)).size + t139.size ≤ 9223372036854775807 then (if ((((((⟨#[72, 124]⟩ : ByteArray) ++ t136) ++ (⟨#[124]⟩ : ByteArray)) ++ t137) ++ (⟨#[124]⟩ : ByteArray)) ++ t139).size + 1 ≤ 9223372036854775807 then (spec_WriteBank.l1 k2 l1 (((((((⟨#[72, 124]⟩ : ByteArray) ++ t136) ++ (⟨#[124]⟩ : ByteArray)) ++ t137) ++ (⟨#[124]⟩ : ByteArray)) ++ t139) ++ (⟨#[10]⟩ : ByteArray)) 0) else (none)) else (none)) = some r := H
      have A24 := Aside0.mk A240
      clear A240
      by_cases c25 : (((((⟨#[72, 124]⟩ : ByteArray) ++ t136) ++ (⟨#[124]⟩ : ByteArray)) ++ t137) ++ (⟨#[124]⟩ : ByteArray)).size + t139.size ≤ 9223372036854775807
      case neg => rw [if_neg c25] at H; exact absurd H (by simp)
      rw [if_pos c25] at H
      have c25b0 := eq_true c25
      have c25b1 : decide ((((((⟨#[72, 124]⟩ : ByteArray) ++ t136) ++ (⟨#[124]⟩ : ByteArray)) ++ t137) ++ (⟨#[124]⟩ : ByteArray)).size + t139.size ≤ 9223372036854775807) = true := decide_eq_true c25
      try have c25b2 : (9223372036854775807 < (((((⟨#[72, 124]⟩ : ByteArray) ++ t136) ++ (⟨#[124]⟩ : ByteArray)) ++ t137) ++ (⟨#[124]⟩ : ByteArray)).size + t139.size) = False := eq_false (Nat.not_lt.2 c25)
      have c25b3 : (9223372036854775807 < 2 + t136.size + 1 + t137.size + 1 + t139.size) = False := eq_false (by have h_ := c25; simp only [ByteArray.size_append] at h_; have l0_ : (⟨#[72, 124]⟩ : ByteArray).size = 2 := rfl; have l1_ : (⟨#[124]⟩ : ByteArray).size = 1 := rfl; omega)
      by_cases c26 : ((((((⟨#[72, 124]⟩ : ByteArray) ++ t136) ++ (⟨#[124]⟩ : ByteArray)) ++ t137) ++ (⟨#[124]⟩ : ByteArray)) ++ t139).size + 1 ≤ 9223372036854775807
      case neg => rw [if_neg c26] at H; exact absurd H (by simp)
      rw [if_pos c26] at H
      have c26b0 := eq_true c26
      have c26b1 : decide (((((((⟨#[72, 124]⟩ : ByteArray) ++ t136) ++ (⟨#[124]⟩ : ByteArray)) ++ t137) ++ (⟨#[124]⟩ : ByteArray)) ++ t139).size + 1 ≤ 9223372036854775807) = true := decide_eq_true c26
      try have c26b2 : (9223372036854775807 < ((((((⟨#[72, 124]⟩ : ByteArray) ++ t136) ++ (⟨#[124]⟩ : ByteArray)) ++ t137) ++ (⟨#[124]⟩ : ByteArray)) ++ t139).size + 1) = False := eq_false (Nat.not_lt.2 c26)
      have c26b3 : (9223372036854775807 < 2 + t136.size + 1 + t137.size + 1 + t139.size + 1) = False := eq_false (by have h_ := c26; simp only [ByteArray.size_append] at h_; have l0_ : (⟨#[72, 124]⟩ : ByteArray).size = 2 := rfl; have l1_ : (⟨#[124]⟩ : ByteArray).size = 1 := rfl; omega)
      have H' := Aside0.mk H
      clear H
      go_wp2_with (first | ((with_reducible refine qf0 (f := 93) rfl ?_); refine qn0 (some 30) rfl rfl Try.func93 (by kernel_rfl) rfl #[.slice A1 l1.length c1] rfl (by (try simp only [List.map_toArray, List.map_cons, List.map_nil]); first | done | rfl | (simp only [List.length_drop, List.length_take]; rfl)) ?_; (with_reducible refine (spec_l14Sum.calls k2 _ _ l1 t134 _ ?side1 ?side2 A14.out).mono ?_); (case side1 => repeat (first | exact (Kd.C_below HR1.out HB.out) | (with_reducible refine Kd.qz0 ?_ _) | (with_reducible refine Kd.qy0 ?_ _) | (with_reducible refine Kd.qd1 ?_))); (case side2 => exact HC1.out); rintro e w' ⟨rfl, ⟨nd, rfl⟩⟩; refine ⟨_, rfl, ?_⟩) | ((with_reducible refine qf0 (f := 92) rfl ?_); refine qn0 (some 31) rfl rfl Try.func92 (by kernel_rfl) rfl #[.int .i64 t134] rfl (by (try simp only [List.map_toArray, List.map_cons, List.map_nil]); first | done | rfl | (simp only [List.length_drop, List.length_take]; rfl)) ?_; (with_reducible refine (spec_l1Amount.calls t134 true _ A15.out).mono ?_); rintro e w' ⟨rfl, ⟨nd, rfl⟩⟩; refine ⟨_, rfl, ?_⟩) | ((with_reducible refine qf0 (f := 94) rfl ?_); refine qn0 (some 34) rfl rfl Try.func94 (by kernel_rfl) rfl #[.int .i64 a0] rfl (by (try simp only [List.map_toArray, List.map_cons, List.map_nil]); first | done | rfl | (simp only [List.length_drop, List.length_take]; rfl)) ?_; (with_reducible refine (spec_l1Text.calls k2 a0 t136 _ A17.out).mono ?_); rintro e w27 ⟨rfl, hb⟩; refine ⟨_, rfl, ?_⟩; have n0_ := Aside0.mk (qg0 (by repeat (first | (with_reducible first | exact HB.out | apply qc0 | apply qa0 | apply qb0) | exact HB.out)) hb); clear HB; have HB := n0_; clear n0_; (try clear hb); (try clear hb2); (try clear hk); (try clear hi)) | ((with_reducible refine qf0 (f := 94) rfl ?_); refine qn0 (some 39) rfl rfl Try.func94 (by kernel_rfl) rfl #[.int .i64 (l1.length : Int)] rfl (by (try simp only [List.map_toArray, List.map_cons, List.map_nil]); first | done | rfl | (simp only [List.length_drop, List.length_take]; rfl)) ?_; (with_reducible refine (spec_l1Text.calls k2 (l1.length : Int) t137 _ A20.out).mono ?_); rintro e w28 ⟨rfl, hb⟩; refine ⟨_, rfl, ?_⟩; have n0_ := Aside0.mk (qg0 (by repeat (first | (with_reducible first | exact HB.out | apply qc0 | apply qa0 | apply qb0) | exact HB.out)) hb); clear HB; have HB := n0_; clear n0_; (try clear hb); (try clear hb2); (try clear hk); (try clear hi)) | ((with_reducible refine qf0 (f := 93) rfl ?_); refine qn0 (some 43) rfl rfl Try.func93 (by kernel_rfl) rfl #[.slice A1 l1.length c1] rfl (by (try simp only [List.map_toArray, List.map_cons, List.map_nil]); first | done | rfl | (simp only [List.length_drop, List.length_take]; rfl)) ?_; (with_reducible refine (spec_l14Sum.calls k2 _ _ l1 t138 _ ?side1 ?side2 A23.out).mono ?_); (case side1 => repeat (first | exact (Kd.C_below HR1.out HB.out) | (with_reducible refine Kd.qz0 ?_ _) | (with_reducible refine Kd.qy0 ?_ _) | (with_reducible refine Kd.qd1 ?_))); (case side2 => exact HC1.out); rintro e w' ⟨rfl, ⟨nd, rfl⟩⟩; refine ⟨_, rfl, ?_⟩) | ((with_reducible refine qf0 (f := 95) rfl ?_); refine qn0 (some 44) rfl rfl Try.func95 (by kernel_rfl) rfl #[.int .i64 t138, .int .i64 2] rfl (by (try simp only [List.map_toArray, List.map_cons, List.map_nil]); first | done | rfl | (simp only [List.length_drop, List.length_take]; rfl)) ?_; (with_reducible refine (spec_ShowMoney.calls k2 t138 2 t139 _ A24.out).mono ?_); rintro e w29 ⟨rfl, hb⟩; refine ⟨_, rfl, ?_⟩; have n0_ := Aside0.mk (qg0 (by repeat (first | (with_reducible first | exact HB.out | apply qc0 | apply qa0 | apply qb0) | exact HB.out)) hb); clear HB; have HB := n0_; clear n0_; (try clear hb); (try clear hb2); (try clear hk); (try clear hi)))
      go_loopg [6, 7] k2 (fun kq v6 v7 w' => ∃ (x6_3 : ByteArray) (x7_3 : Int), v6 = .string x6_3 ∧ v7 = .int .i64 x7_3 ∧ Aside0 (spec_WriteBank.l1 kq l1 x6_3 x7_3 = some r) ∧ Aside0 (kq ≤ k2) ∧ Aside0 (Below w.heap.size w w'))
      case atStart => exact ⟨(((((((⟨#[72, 124]⟩ : ByteArray) ++ t136) ++ (⟨#[124]⟩ : ByteArray)) ++ t137) ++ (⟨#[124]⟩ : ByteArray)) ++ t139) ++ (⟨#[10]⟩ : ByteArray)), (0), (by first | rfl | (simp; done) | (simp [*]; done)), (by first | rfl | (simp; done) | (simp [*]; done)), H', ⟨Nat.le_refl _⟩, ⟨by repeat (first | (with_reducible first | exact HB.out | apply qc0 | apply qa0 | apply qb0) | exact HB.out)⟩⟩
      case round =>
       clear H'
       try clear c1
       try clear p1
       try clear q1
       try clear hx1
       try clear c2
       try clear p2
       try clear c3
       try clear c5
       try clear p6
       try clear c7
       try clear c8
       try clear c8b0
       try clear c9
       try clear c9b0
       try clear c11
       try clear p13
       try clear q13
       try clear hx13
       try clear c16
       try clear c18
       try clear c18b0
       try clear c18b1
       try clear c18b2
       try clear c19
       try clear c19b0
       try clear c19b1
       try clear c19b2
       try clear c21
       try clear c21b0
       try clear c21b1
       try clear c21b2
       try clear c22
       try clear c22b0
       try clear c22b1
       try clear c22b2
       try clear c25
       try clear c25b0
       try clear c25b1
       try clear c25b2
       try clear c26
       try clear c26b0
       try clear c26b1
       try clear c26b2
       try clear hx132_0
       try clear hx132_1
       try clear hx132_2
       try clear p132
       try clear p2
       try clear q132
       obtain ⟨x6_3, x7_3, rfl, rfl, HA, HK3, HB⟩ := hrel
       cases gk with
       | zero => exact absurd HA.out (by simp [spec_WriteBank.l1])
       | succ k3 =>
        have H := HA.out
        clear HA
        simp only [spec_WriteBank.l1] at H
        by_cases c30 : x7_3 < (l1.length : Int)
        ·rw [if_pos c30] at H
         have c30b0 : decide (x7_3 < (l1.length : Int)) = true := decide_eq_true c30
         clear c30
         by_cases c31 : x6_3.size + 2 ≤ 9223372036854775807
         case neg => rw [if_neg c31] at H; exact absurd H (by simp)
         rw [if_pos c31] at H
         have c31b0 := eq_true c31
         have c31b1 : decide (x6_3.size + 2 ≤ 9223372036854775807) = true := decide_eq_true c31
         try have c31b2 : (9223372036854775807 < x6_3.size + 2) = False := eq_false (Nat.not_lt.2 c31)
         by_cases c32 : 0 ≤ x7_3
         case neg => rw [if_neg c32] at H; exact absurd H (by simp)
         rw [if_pos c32] at H
         have c32b0 : decide (0 ≤ x7_3) = true := decide_eq_true c32
         clear c32
         by_cases c33 : (x6_3 ++ (⟨#[80, 124]⟩ : ByteArray)).size + ((rd_T140 l1 x7_3).f0).size ≤ 9223372036854775807
         case neg => rw [if_neg c33] at H; exact absurd H (by simp)
         rw [if_pos c33] at H
         have c33b0 := eq_true c33
         have c33b1 : decide ((x6_3 ++ (⟨#[80, 124]⟩ : ByteArray)).size + ((rd_T140 l1 x7_3).f0).size ≤ 9223372036854775807) = true := decide_eq_true c33
         try have c33b2 : (9223372036854775807 < (x6_3 ++ (⟨#[80, 124]⟩ : ByteArray)).size + ((rd_T140 l1 x7_3).f0).size) = False := eq_false (Nat.not_lt.2 c33)
         have c33b3 : (9223372036854775807 < x6_3.size + 2 + ((rd_T140 l1 x7_3).f0).size) = False := eq_false (by have h_ := c33; simp only [ByteArray.size_append] at h_; have l0_ : (⟨#[80, 124]⟩ : ByteArray).size = 2 := rfl; omega)
         by_cases c34 : ((x6_3 ++ (⟨#[80, 124]⟩ : ByteArray)) ++ ((rd_T140 l1 x7_3).f0)).size + 1 ≤ 9223372036854775807
         case neg => rw [if_neg c34] at H; exact absurd H (by simp)
         rw [if_pos c34] at H
         have c34b0 := eq_true c34
         have c34b1 : decide (((x6_3 ++ (⟨#[80, 124]⟩ : ByteArray)) ++ ((rd_T140 l1 x7_3).f0)).size + 1 ≤ 9223372036854775807) = true := decide_eq_true c34
         try have c34b2 : (9223372036854775807 < ((x6_3 ++ (⟨#[80, 124]⟩ : ByteArray)) ++ ((rd_T140 l1 x7_3).f0)).size + 1) = False := eq_false (Nat.not_lt.2 c34)
         have c34b3 : (9223372036854775807 < x6_3.size + 2 + (rd_T140 l1 x7_3).f0.size + 1) = False := eq_false (by have h_ := c34; simp only [ByteArray.size_append] at h_; have l0_ : (⟨#[80, 124]⟩ : ByteArray).size = 2 := rfl; omega)
         by_cases c35 : (((x6_3 ++ (⟨#[80, 124]⟩ : ByteArray)) ++ ((rd_T140 l1 x7_3).f0)) ++ (⟨#[124]⟩ : ByteArray)).size + ((rd_T140 l1 x7_3).f1).size ≤ 9223372036854775807
         case neg => rw [if_neg c35] at H; exact absurd H (by simp)
         rw [if_pos c35] at H
         have c35b0 := eq_true c35
         have c35b1 : decide ((((x6_3 ++ (⟨#[80, 124]⟩ : ByteArray)) ++ ((rd_T140 l1 x7_3).f0)) ++ (⟨#[124]⟩ : ByteArray)).size + ((rd_T140 l1 x7_3).f1).size ≤ 9223372036854775807) = true := decide_eq_true c35
         try have c35b2 : (9223372036854775807 < (((x6_3 ++ (⟨#[80, 124]⟩ : ByteArray)) ++ ((rd_T140 l1 x7_3).f0)) ++ (⟨#[124]⟩ : ByteArray)).size + ((rd_T140 l1 x7_3).f1).size) = False := eq_false (Nat.not_lt.2 c35)
         have c35b3 : (9223372036854775807 < x6_3.size + 2 + (rd_T140 l1 x7_3).f0.size + 1 + ((rd_T140 l1 x7_3).f1).size) = False := eq_false (by have h_ := c35; simp only [ByteArray.size_append] at h_; have l0_ : (⟨#[80, 124]⟩ : ByteArray).size = 2 := rfl; have l1_ : (⟨#[124]⟩ : ByteArray).size = 1 := rfl; omega)
         by_cases c36 : ((((x6_3 ++ (⟨#[80, 124]⟩ : ByteArray)) ++ ((rd_T140 l1 x7_3).f0)) ++ (⟨#[124]⟩ : ByteArray)) ++ ((rd_T140 l1 x7_3).f1)).size + 1 ≤ 9223372036854775807
         case neg => rw [if_neg c36] at H; exact absurd H (by simp)
         rw [if_pos c36] at H
         have c36b0 := eq_true c36
         have c36b1 : decide (((((x6_3 ++ (⟨#[80, 124]⟩ : ByteArray)) ++ ((rd_T140 l1 x7_3).f0)) ++ (⟨#[124]⟩ : ByteArray)) ++ ((rd_T140 l1 x7_3).f1)).size + 1 ≤ 9223372036854775807) = true := decide_eq_true c36
         try have c36b2 : (9223372036854775807 < ((((x6_3 ++ (⟨#[80, 124]⟩ : ByteArray)) ++ ((rd_T140 l1 x7_3).f0)) ++ (⟨#[124]⟩ : ByteArray)) ++ ((rd_T140 l1 x7_3).f1)).size + 1) = False := eq_false (Nat.not_lt.2 c36)
         have c36b3 : (9223372036854775807 < x6_3.size + 2 + (rd_T140 l1 x7_3).f0.size + 1 + (rd_T140 l1 x7_3).f1.size + 1) = False := eq_false (by have h_ := c36; simp only [ByteArray.size_append] at h_; have l0_ : (⟨#[80, 124]⟩ : ByteArray).size = 2 := rfl; have l1_ : (⟨#[124]⟩ : ByteArray).size = 1 := rfl; omega)
         replace H := Option.bind_eq_some_iff.mp H
         obtain ⟨t143, A370, H⟩ := H
         replace H : (if (((((x6_3 ++ (⟨#[80, 124]⟩ : ByteArray)) ++ ((rd_T140 l1 x7_3).f0)) ++ (⟨#[124]⟩ : ByteArray)) ++ ((rd_T140 l1 x7_3).f1)) ++ (⟨#[124]⟩ : ByteArray)).size + t143.size ≤ 9223372036854775807 then (if ((((((x6_3 ++ (⟨#[80, 124]⟩ : ByteArray)) ++ ((rd_T140 l1 x7_3).f0)) ++ (⟨#[124]⟩ : ByteArray)) ++ ((rd_T140 l1 x7_3).f1)) ++ (⟨#[124]⟩ : ByteArray)) ++ t143).size + 1 ≤ 9223372036854775807 then (spec_WriteBank.l1 k3 l1 (((((((x6_3 ++ (⟨#[80, 124]⟩ : ByteArray)) ++ ((rd_T140 l1 x7_3).f0)) ++ (⟨#[124]⟩ : ByteArray)) ++ ((rd_T140 l1 x7_3).f1)) ++ (⟨#[124]⟩ : ByteArray)) ++ t143) ++ (⟨#[10]⟩ : ByteArray)) (wrap64 (x7_3 + 1))) else (none)) else (none)) = some r := H
         have A37 := Aside0.mk A370
         clear A370
         by_cases c38 : (((((x6_3 ++ (⟨#[80, 124]⟩ : ByteArray)) ++ ((rd_T140 l1 x7_3).f0)) ++ (⟨#[124]⟩ : ByteArray)) ++ ((rd_T140 l1 x7_3).f1)) ++ (⟨#[124]⟩ : ByteArray)).size + t143.size ≤ 9223372036854775807
         case neg => rw [if_neg c38] at H; exact absurd H (by simp)
         rw [if_pos c38] at H
         have c38b0 := eq_true c38
         have c38b1 : decide ((((((x6_3 ++ (⟨#[80, 124]⟩ : ByteArray)) ++ ((rd_T140 l1 x7_3).f0)) ++ (⟨#[124]⟩ : ByteArray)) ++ ((rd_T140 l1 x7_3).f1)) ++ (⟨#[124]⟩ : ByteArray)).size + t143.size ≤ 9223372036854775807) = true := decide_eq_true c38
         try have c38b2 : (9223372036854775807 < (((((x6_3 ++ (⟨#[80, 124]⟩ : ByteArray)) ++ ((rd_T140 l1 x7_3).f0)) ++ (⟨#[124]⟩ : ByteArray)) ++ ((rd_T140 l1 x7_3).f1)) ++ (⟨#[124]⟩ : ByteArray)).size + t143.size) = False := eq_false (Nat.not_lt.2 c38)
         have c38b3 : (9223372036854775807 < x6_3.size + 2 + (rd_T140 l1 x7_3).f0.size + 1 + (rd_T140 l1 x7_3).f1.size + 1 + t143.size) = False := eq_false (by have h_ := c38; simp only [ByteArray.size_append] at h_; have l0_ : (⟨#[80, 124]⟩ : ByteArray).size = 2 := rfl; have l1_ : (⟨#[124]⟩ : ByteArray).size = 1 := rfl; omega)
         by_cases c39 : ((((((x6_3 ++ (⟨#[80, 124]⟩ : ByteArray)) ++ ((rd_T140 l1 x7_3).f0)) ++ (⟨#[124]⟩ : ByteArray)) ++ ((rd_T140 l1 x7_3).f1)) ++ (⟨#[124]⟩ : ByteArray)) ++ t143).size + 1 ≤ 9223372036854775807
         case neg => rw [if_neg c39] at H; exact absurd H (by simp)
         rw [if_pos c39] at H
         have c39b0 := eq_true c39
         have c39b1 : decide (((((((x6_3 ++ (⟨#[80, 124]⟩ : ByteArray)) ++ ((rd_T140 l1 x7_3).f0)) ++ (⟨#[124]⟩ : ByteArray)) ++ ((rd_T140 l1 x7_3).f1)) ++ (⟨#[124]⟩ : ByteArray)) ++ t143).size + 1 ≤ 9223372036854775807) = true := decide_eq_true c39
         try have c39b2 : (9223372036854775807 < ((((((x6_3 ++ (⟨#[80, 124]⟩ : ByteArray)) ++ ((rd_T140 l1 x7_3).f0)) ++ (⟨#[124]⟩ : ByteArray)) ++ ((rd_T140 l1 x7_3).f1)) ++ (⟨#[124]⟩ : ByteArray)) ++ t143).size + 1) = False := eq_false (Nat.not_lt.2 c39)
         have c39b3 : (9223372036854775807 < x6_3.size + 2 + (rd_T140 l1 x7_3).f0.size + 1 + (rd_T140 l1 x7_3).f1.size + 1 + t143.size + 1) = False := eq_false (by have h_ := c39; simp only [ByteArray.size_append] at h_; have l0_ : (⟨#[80, 124]⟩ : ByteArray).size = 2 := rfl; have l1_ : (⟨#[124]⟩ : ByteArray).size = 1 := rfl; omega)
         have H' := Aside0.mk H
         clear H
         try go_wp2
         have n0_ := Aside0.mk (qb0 HB.out)
         clear HB
         have HB := n0_
         clear n0_
         have p140 : 0 ≤ (x7_3 : Int) := of_decide_eq_true (by first | (with_reducible assumption) | assumption)
         have q140 : x7_3 < (l1.length : Int) := of_decide_eq_true (by first | (with_reducible assumption) | assumption)
         obtain ⟨ad140, e140, hx140_0, hx140_1, hx140_2⟩ := at_T140 HR1.out x7_3 p140 q140
         have hw140_2 := hx140_2
         have hw140_1 := hx140_1
         have hw140_0 := hx140_0
         cases e140
         replace hx140_0 := (HB.out.cell (World.block_lt_of_cell? w _ hx140_0)).trans hx140_0
         replace hx140_1 := (HB.out.cell (World.block_lt_of_cell? w _ hx140_1)).trans hx140_1
         replace hx140_2 := (HB.out.cell (World.block_lt_of_cell? w _ hx140_2)).trans hx140_2
         replace p140 := eq_true p140
         replace q140 := eq_true q140
         have p141 : 0 ≤ (x7_3 : Int) := of_decide_eq_true (by first | (with_reducible assumption) | assumption)
         have q141 : x7_3 < (l1.length : Int) := of_decide_eq_true (by first | (with_reducible assumption) | assumption)
         obtain ⟨ad141, e141, hx141_0, hx141_1, hx141_2⟩ := at_T140 HR1.out x7_3 p141 q141
         have hw141_2 := hx141_2
         have hw141_1 := hx141_1
         have hw141_0 := hx141_0
         obtain rfl : ad140 = ad141 := (by injection e141)
         replace hx141_0 := (HB.out.cell (World.block_lt_of_cell? w _ hx141_0)).trans hx141_0
         replace hx141_1 := (HB.out.cell (World.block_lt_of_cell? w _ hx141_1)).trans hx141_1
         replace hx141_2 := (HB.out.cell (World.block_lt_of_cell? w _ hx141_2)).trans hx141_2
         replace p141 := eq_true p141
         replace q141 := eq_true q141
         have p142 : 0 ≤ (x7_3 : Int) := of_decide_eq_true (by first | (with_reducible assumption) | assumption)
         have q142 : x7_3 < (l1.length : Int) := of_decide_eq_true (by first | (with_reducible assumption) | assumption)
         obtain ⟨ad142, e142, hx142_0, hx142_1, hx142_2⟩ := at_T140 HR1.out x7_3 p142 q142
         have hw142_2 := hx142_2
         have hw142_1 := hx142_1
         have hw142_0 := hx142_0
         obtain rfl : ad140 = ad142 := (by injection e142)
         replace hx142_0 := (HB.out.cell (World.block_lt_of_cell? w _ hx142_0)).trans hx142_0
         replace hx142_1 := (HB.out.cell (World.block_lt_of_cell? w _ hx142_1)).trans hx142_1
         replace hx142_2 := (HB.out.cell (World.block_lt_of_cell? w _ hx142_2)).trans hx142_2
         replace p142 := eq_true p142
         replace q142 := eq_true q142
         refine start_ (n := 25) (S := fun w' => w'.cell? (ad140.add ((x7_3).toNat * 3)) = some (.string ((rd_T140 l1 x7_3).f0)) ∧ w'.cell? ⟨(ad140.add ((x7_3).toNat * 3)).block, (ad140.add ((x7_3).toNat * 3)).off + 1, none⟩ = some (.string ((rd_T140 l1 x7_3).f1)) ∧ w'.cell? ⟨(ad140.add ((x7_3).toNat * 3)).block, (ad140.add ((x7_3).toNat * 3)).off + 2, none⟩ = some (.int .i64 ((rd_T140 l1 x7_3).f2)) ∧ w'.cell? (ad140.add ((x7_3).toNat * 3)) = some (.string ((rd_T140 l1 x7_3).f0)) ∧ w'.cell? ⟨(ad140.add ((x7_3).toNat * 3)).block, (ad140.add ((x7_3).toNat * 3)).off + 1, none⟩ = some (.string ((rd_T140 l1 x7_3).f1)) ∧ w'.cell? ⟨(ad140.add ((x7_3).toNat * 3)).block, (ad140.add ((x7_3).toNat * 3)).off + 2, none⟩ = some (.int .i64 ((rd_T140 l1 x7_3).f2)) ∧ w'.cell? (ad140.add ((x7_3).toNat * 3)) = some (.string ((rd_T140 l1 x7_3).f0)) ∧ w'.cell? ⟨(ad140.add ((x7_3).toNat * 3)).block, (ad140.add ((x7_3).toNat * 3)).off + 1, none⟩ = some (.string ((rd_T140 l1 x7_3).f1)) ∧ w'.cell? ⟨(ad140.add ((x7_3).toNat * 3)).block, (ad140.add ((x7_3).toNat * 3)).off + 2, none⟩ = some (.int .i64 ((rd_T140 l1 x7_3).f2))) (ds := []) #[false, false, false, false, false, false, false, false, false, false, false, false, false, false, false, false, false, false, false, false, false, false, false, false, false] (by kernel_rfl) rfl rfl ⟨((HB.out.cell (World.block_lt_of_cell? w _ hw140_0)).trans hw140_0), ((HB.out.cell (World.block_lt_of_cell? w _ hw140_1)).trans hw140_1), ((HB.out.cell (World.block_lt_of_cell? w _ hw140_2)).trans hw140_2), ((HB.out.cell (World.block_lt_of_cell? w _ hw141_0)).trans hw141_0), ((HB.out.cell (World.block_lt_of_cell? w _ hw141_1)).trans hw141_1), ((HB.out.cell (World.block_lt_of_cell? w _ hw141_2)).trans hw141_2), ((HB.out.cell (World.block_lt_of_cell? w _ hw142_0)).trans hw142_0), ((HB.out.cell (World.block_lt_of_cell? w _ hw142_1)).trans hw142_1), ((HB.out.cell (World.block_lt_of_cell? w _ hw142_2)).trans hw142_2)⟩ (fun hHeld => ?_); refine with_tabW spec_WriteBank.tab14 spec_WriteBank.bits14 (fun HT_ HW_ => ?_)
         generalize wr.drew = w40 at HB hx140_0 hx140_1 hx140_2 hx141_0 hx141_1 hx141_2 hx142_0 hx142_1 hx142_2 hHeld ⊢
         refine pure_ (i := 0) (N := some 53) (v := ?_) (a' := ?_) #[true, false, false, false, false, false, false, false, false, false, false, false, false, false, false, false, false, false, false, false, false, false, false, false, false] rfl rfl (qd0 HT_.out (by kernel_rfl)) (fun _ _ _ h => h) (Or.inl ⟨by rfl, ?_⟩) ?_ ?_
         rotate_left
         ·intro w'
          go_simp
          with_reducible rfl
         rotate_left
         ·simp only [Act.put, List.setIfInBounds_toArray, List.set_cons_zero, List.set_cons_succ, i64_w, i32_w]
          rfl
         refine pure_ (i := 1) (N := some 54) (v := ?_) (a' := ?_) #[true, true, false, false, false, false, false, false, false, false, false, false, false, false, false, false, false, false, false, false, false, false, false, false, false] rfl rfl (qd0 HT_.out (by kernel_rfl)) (fun _ _ _ h => h) (Or.inl ⟨by rfl, ?_⟩) ?_ ?_
         rotate_left
         ·intro w'
          go_simp
          with_reducible rfl
         rotate_left
         ·simp only [Act.put, List.setIfInBounds_toArray, List.set_cons_zero, List.set_cons_succ, i64_w, i32_w]
          rfl
         refine pure_ (i := 2) (N := some 55) (v := ?_) (a' := ?_) #[true, true, true, false, false, false, false, false, false, false, false, false, false, false, false, false, false, false, false, false, false, false, false, false, false] rfl rfl (qd0 HT_.out (by kernel_rfl)) (fun _ _ _ h => h) (Or.inl ⟨by rfl, ?_⟩) ?_ ?_
         rotate_left
         ·intro w'
          go_simp
          with_reducible rfl
         rotate_left
         ·simp only [Act.put, List.setIfInBounds_toArray, List.set_cons_zero, List.set_cons_succ, i64_w, i32_w]
          rfl
         refine pure_ (i := 3) (N := some 56) (v := ?_) (a' := ?_) #[true, true, true, true, false, false, false, false, false, false, false, false, false, false, false, false, false, false, false, false, false, false, false, false, false] rfl rfl (qd0 HT_.out (by kernel_rfl)) (fun _ _ _ h => h) (Or.inl ⟨by rfl, ?_⟩) ?_ ?_
         rotate_left
         ·intro w'
          go_simp
          with_reducible rfl
         rotate_left
         ·simp only [Act.put, List.setIfInBounds_toArray, List.set_cons_zero, List.set_cons_succ, i64_w, i32_w]
          rfl
         refine pure_ (i := 4) (N := some 57) (v := ?_) (a' := ?_) #[true, true, true, true, true, false, false, false, false, false, false, false, false, false, false, false, false, false, false, false, false, false, false, false, false] rfl rfl (qd0 HT_.out (by kernel_rfl)) (fun _ _ _ h => h) (Or.inl ⟨by rfl, ?_⟩) ?_ ?_
         rotate_left
         ·intro w'
          go_simp
          with_reducible rfl
         rotate_left
         ·simp only [Act.put, List.setIfInBounds_toArray, List.set_cons_zero, List.set_cons_succ, i64_w, i32_w]
          rfl
         refine pure_ (i := 5) (N := some 58) (v := ?_) (a' := ?_) #[true, true, true, true, true, true, false, false, false, false, false, false, false, false, false, false, false, false, false, false, false, false, false, false, false] rfl rfl (qd0 HT_.out (by kernel_rfl)) (fun _ _ _ h => h) (Or.inl ⟨by rfl, ?_⟩) ?_ ?_
         rotate_left
         ·intro w'
          go_simp
          with_reducible rfl
         rotate_left
         ·simp only [Act.put, List.setIfInBounds_toArray, List.set_cons_zero, List.set_cons_succ, i64_w, i32_w]
          rfl
         refine pure_ (i := 9) (N := some 62) (v := ?_) (a' := ?_) #[true, true, true, true, true, true, false, false, false, true, false, false, false, false, false, false, false, false, false, false, false, false, false, false, false] rfl rfl (qd0 HT_.out (by kernel_rfl)) (fun _ _ _ h => h) (Or.inl ⟨by rfl, ?_⟩) ?_ ?_
         rotate_left
         ·intro w'
          go_simp
          with_reducible rfl
         rotate_left
         ·simp only [Act.put, List.setIfInBounds_toArray, List.set_cons_zero, List.set_cons_succ, i64_w, i32_w]
          rfl
         refine pure_ (i := 10) (N := some 63) (v := ?_) (a' := ?_) #[true, true, true, true, true, true, false, false, false, true, true, false, false, false, false, false, false, false, false, false, false, false, false, false, false] rfl rfl (qd0 HT_.out (by kernel_rfl)) (fun _ _ _ h => h) (Or.inl ⟨by rfl, ?_⟩) ?_ ?_
         rotate_left
         ·intro w'
          go_simp
          with_reducible rfl
         rotate_left
         ·simp only [Act.put, List.setIfInBounds_toArray, List.set_cons_zero, List.set_cons_succ, i64_w, i32_w]
          rfl
         refine pure_ (i := 11) (N := some 64) (v := ?_) (a' := ?_) #[true, true, true, true, true, true, false, false, false, true, true, true, false, false, false, false, false, false, false, false, false, false, false, false, false] rfl rfl (qd0 HT_.out (by kernel_rfl)) (fun _ _ _ h => h) (Or.inl ⟨by rfl, ?_⟩) ?_ ?_
         rotate_left
         ·intro w'
          go_simp
          with_reducible rfl
         rotate_left
         ·simp only [Act.put, List.setIfInBounds_toArray, List.set_cons_zero, List.set_cons_succ, i64_w, i32_w]
          rfl
         refine pure_ (i := 12) (N := some 65) (v := ?_) (a' := ?_) #[true, true, true, true, true, true, false, false, false, true, true, true, true, false, false, false, false, false, false, false, false, false, false, false, false] rfl rfl (qd0 HT_.out (by kernel_rfl)) (fun _ _ _ h => h) (Or.inl ⟨by rfl, ?_⟩) ?_ ?_
         rotate_left
         ·intro w'
          go_simp
          with_reducible rfl
         rotate_left
         ·simp only [Act.put, List.setIfInBounds_toArray, List.set_cons_zero, List.set_cons_succ, i64_w, i32_w]
          rfl
         refine pure_ (i := 16) (N := some 69) (v := ?_) (a' := ?_) #[true, true, true, true, true, true, false, false, false, true, true, true, true, false, false, false, true, false, false, false, false, false, false, false, false] rfl rfl (qd0 HT_.out (by kernel_rfl)) (fun _ _ _ h => h) (Or.inl ⟨by rfl, ?_⟩) ?_ ?_
         rotate_left
         ·intro w'
          go_simp
          with_reducible rfl
         rotate_left
         ·simp only [Act.put, List.setIfInBounds_toArray, List.set_cons_zero, List.set_cons_succ, i64_w, i32_w]
          rfl
         refine pure_ (i := 17) (N := some 70) (v := ?_) (a' := ?_) #[true, true, true, true, true, true, false, false, false, true, true, true, true, false, false, false, true, true, false, false, false, false, false, false, false] rfl rfl (qd0 HT_.out (by kernel_rfl)) (fun _ _ _ h => h) (Or.inl ⟨by rfl, ?_⟩) ?_ ?_
         rotate_left
         ·intro w'
          go_simp
          with_reducible rfl
         rotate_left
         ·simp only [Act.put, List.setIfInBounds_toArray, List.set_cons_zero, List.set_cons_succ, i64_w, i32_w]
          rfl
         refine pure_ (i := 18) (N := some 71) (v := ?_) (a' := ?_) #[true, true, true, true, true, true, false, false, false, true, true, true, true, false, false, false, true, true, true, false, false, false, false, false, false] rfl rfl (qd0 HT_.out (by kernel_rfl)) (fun _ _ _ h => h) (Or.inl ⟨by rfl, ?_⟩) ?_ ?_
         rotate_left
         ·intro w'
          go_simp
          with_reducible rfl
         rotate_left
         ·simp only [Act.put, List.setIfInBounds_toArray, List.set_cons_zero, List.set_cons_succ, i64_w, i32_w]
          rfl
         refine pure_ (i := 19) (N := some 72) (v := ?_) (a' := ?_) #[true, true, true, true, true, true, false, false, false, true, true, true, true, false, false, false, true, true, true, true, false, false, false, false, false] rfl rfl (qd0 HT_.out (by kernel_rfl)) (fun _ _ _ h => h) (Or.inl ⟨by rfl, ?_⟩) ?_ ?_
         rotate_left
         ·intro w'
          go_simp
          with_reducible rfl
         rotate_left
         ·simp only [Act.put, List.setIfInBounds_toArray, List.set_cons_zero, List.set_cons_succ, i64_w, i32_w]
          rfl
         refine take_ (i := 6) (N := some 59) (v := ?_) (a' := ?_) #[true, true, true, true, true, true, true, false, false, true, true, true, true, false, false, false, true, true, true, true, false, false, false, false, false] rfl rfl (qt0 HT_.out HW_.out (by kernel_rfl)) (fun _ _ _ h => h) (Or.inl ⟨by rfl, ?_⟩) hHeld ?_ ?_
         rotate_left
         ·rintro w' ⟨s0, s1, s2, s3, s4, s5, s6, s7, s8⟩
          go_simp
          with_reducible rfl
         rotate_left
         ·simp only [Act.put, List.setIfInBounds_toArray, List.set_cons_zero, List.set_cons_succ, i64_w, i32_w]
          rfl
         refine pure_ (i := 7) (N := some 60) (v := ?_) (a' := ?_) #[true, true, true, true, true, true, true, true, false, true, true, true, true, false, false, false, true, true, true, true, false, false, false, false, false] rfl rfl (qd0 HT_.out (by kernel_rfl)) (fun _ _ _ h => h) (Or.inl ⟨by rfl, ?_⟩) ?_ ?_
         rotate_left
         ·intro w'
          go_simp
          with_reducible rfl
         rotate_left
         ·simp only [Act.put, List.setIfInBounds_toArray, List.set_cons_zero, List.set_cons_succ, i64_w, i32_w]
          rfl
         refine pure_ (i := 8) (N := some 61) (v := ?_) (a' := ?_) #[true, true, true, true, true, true, true, true, true, true, true, true, true, false, false, false, true, true, true, true, false, false, false, false, false] rfl rfl (qd0 HT_.out (by kernel_rfl)) (fun _ _ _ h => h) (Or.inl ⟨by rfl, ?_⟩) ?_ ?_
         rotate_left
         ·intro w'
          go_simp
          with_reducible rfl
         rotate_left
         ·simp only [Act.put, List.setIfInBounds_toArray, List.set_cons_zero, List.set_cons_succ, i64_w, i32_w]
          rfl
         refine take_ (i := 13) (N := some 66) (v := ?_) (a' := ?_) #[true, true, true, true, true, true, true, true, true, true, true, true, true, true, false, false, true, true, true, true, false, false, false, false, false] rfl rfl (qt0 HT_.out HW_.out (by kernel_rfl)) (fun _ _ _ h => h) (Or.inl ⟨by rfl, ?_⟩) hHeld ?_ ?_
         rotate_left
         ·rintro w' ⟨s0, s1, s2, s3, s4, s5, s6, s7, s8⟩
          go_simp
          with_reducible rfl
         rotate_left
         ·simp only [Act.put, List.setIfInBounds_toArray, List.set_cons_zero, List.set_cons_succ, i64_w, i32_w]
          rfl
         refine pure_ (i := 14) (N := some 67) (v := ?_) (a' := ?_) #[true, true, true, true, true, true, true, true, true, true, true, true, true, true, true, false, true, true, true, true, false, false, false, false, false] rfl rfl (qd0 HT_.out (by kernel_rfl)) (fun _ _ _ h => h) (Or.inl ⟨by rfl, ?_⟩) ?_ ?_
         rotate_left
         ·intro w'
          go_simp
          with_reducible rfl
         rotate_left
         ·simp only [Act.put, List.setIfInBounds_toArray, List.set_cons_zero, List.set_cons_succ, i64_w, i32_w]
          rfl
         refine pure_ (i := 15) (N := some 68) (v := ?_) (a' := ?_) #[true, true, true, true, true, true, true, true, true, true, true, true, true, true, true, true, true, true, true, true, false, false, false, false, false] rfl rfl (qd0 HT_.out (by kernel_rfl)) (fun _ _ _ h => h) (Or.inl ⟨by rfl, ?_⟩) ?_ ?_
         rotate_left
         ·intro w'
          go_simp
          with_reducible rfl
         rotate_left
         ·simp only [Act.put, List.setIfInBounds_toArray, List.set_cons_zero, List.set_cons_succ, i64_w, i32_w]
          rfl
         refine take_ (i := 20) (N := some 73) (v := ?_) (a' := ?_) #[true, true, true, true, true, true, true, true, true, true, true, true, true, true, true, true, true, true, true, true, true, false, false, false, false] rfl rfl (qt0 HT_.out HW_.out (by kernel_rfl)) (fun _ _ _ h => h) (Or.inl ⟨by rfl, ?_⟩) hHeld ?_ ?_
         rotate_left
         ·rintro w' ⟨s0, s1, s2, s3, s4, s5, s6, s7, s8⟩
          go_simp
          with_reducible rfl
         rotate_left
         ·simp only [Act.put, List.setIfInBounds_toArray, List.set_cons_zero, List.set_cons_succ, i64_w, i32_w]
          rfl
         refine one_ (i := 21) (N := some 74) #[true, true, true, true, true, true, true, true, true, true, true, true, true, true, true, true, true, true, true, true, true, true, false, false, false] rfl rfl (qw0 HT_.out (by kernel_rfl)) (by decide) (fun K hK => ?_)
         refine goes_ Try.func95 (by kernel_rfl) rfl #[.int .i64 ((rd_T140 l1 x7_3).f2), .int .i64 2] (by rfl) rfl rfl (by (try simp only [List.map_toArray, List.map_cons, List.map_nil]); first | done | rfl | (simp only [List.length_drop, List.length_take]; rfl)) ?_
         with_reducible refine (spec_ShowMoney.calls k3 ((rd_T140 l1 x7_3).f2) 2 t143 _ A37.out).mono ?_
         rintro e w41 ⟨rfl, hb⟩
         refine ⟨_, rfl, ?_⟩
         have n0_ := Aside0.mk (qg0 (by repeat (first | (with_reducible first | exact HB.out | apply qc0 | apply qa0 | apply qb0) | exact HB.out)) hb)
         clear HB
         have HB := n0_
         clear n0_
         (try clear hb)
         (try clear hb2)
         (try clear hk)
         (try clear hi)
         refine hK.out _ _ ⟨((HB.out.cell (World.block_lt_of_cell? w _ hw140_0)).trans hw140_0), ((HB.out.cell (World.block_lt_of_cell? w _ hw140_1)).trans hw140_1), ((HB.out.cell (World.block_lt_of_cell? w _ hw140_2)).trans hw140_2), ((HB.out.cell (World.block_lt_of_cell? w _ hw141_0)).trans hw141_0), ((HB.out.cell (World.block_lt_of_cell? w _ hw141_1)).trans hw141_1), ((HB.out.cell (World.block_lt_of_cell? w _ hw141_2)).trans hw141_2), ((HB.out.cell (World.block_lt_of_cell? w _ hw142_0)).trans hw142_0), ((HB.out.cell (World.block_lt_of_cell? w _ hw142_1)).trans hw142_1), ((HB.out.cell (World.block_lt_of_cell? w _ hw142_2)).trans hw142_2)⟩ (fun hHeld => ?_)
         clear hK K
         refine norm_ (a' := ?_) ?_ ?_
         rotate_left
         ·show Act.put _ (some 74) _ = _
          simp only [Act.put, List.setIfInBounds_toArray, List.set_cons_zero, List.set_cons_succ, i64_w, i32_w]
          rfl
         refine pure_ (i := 22) (N := some 75) (v := ?_) (a' := ?_) #[true, true, true, true, true, true, true, true, true, true, true, true, true, true, true, true, true, true, true, true, true, true, true, false, false] rfl rfl (qd0 HT_.out (by kernel_rfl)) (fun _ _ _ h => h) (Or.inl ⟨by rfl, ?_⟩) ?_ ?_
         rotate_left
         ·intro w'
          go_simp
          with_reducible rfl
         rotate_left
         ·simp only [Act.put, List.setIfInBounds_toArray, List.set_cons_zero, List.set_cons_succ, i64_w, i32_w]
          rfl
         refine pure_ (i := 23) (N := some 76) (v := ?_) (a' := ?_) #[true, true, true, true, true, true, true, true, true, true, true, true, true, true, true, true, true, true, true, true, true, true, true, true, false] rfl rfl (qd0 HT_.out (by kernel_rfl)) (fun _ _ _ h => h) (Or.inl ⟨by rfl, ?_⟩) ?_ ?_
         rotate_left
         ·intro w'
          go_simp
          with_reducible rfl
         rotate_left
         ·simp only [Act.put, List.setIfInBounds_toArray, List.set_cons_zero, List.set_cons_succ, i64_w, i32_w]
          rfl
         refine pure_ (i := 24) (N := some 6) (v := ?_) (a' := ?_) #[true, true, true, true, true, true, true, true, true, true, true, true, true, true, true, true, true, true, true, true, true, true, true, true, true] rfl rfl (qd0 HT_.out (by kernel_rfl)) (fun _ _ _ h => h) (Or.inl ⟨by rfl, ?_⟩) ?_ ?_
         rotate_left
         ·intro w'
          go_simp
          with_reducible rfl
         rotate_left
         ·simp only [Act.put, List.setIfInBounds_toArray, List.set_cons_zero, List.set_cons_succ, i64_w, i32_w]
          rfl
         refine done_ (done_of HT_.out (by kernel_rfl)) ?_
         try go_wp2
         go_roundg k3
         case measure => have := HJ2.out; have := HK2.out; have := HK3.out; omega
         case rel => exact ⟨(((((((x6_3 ++ (⟨#[80, 124]⟩ : ByteArray)) ++ ((rd_T140 l1 x7_3).f0)) ++ (⟨#[124]⟩ : ByteArray)) ++ ((rd_T140 l1 x7_3).f1)) ++ (⟨#[124]⟩ : ByteArray)) ++ t143) ++ (⟨#[10]⟩ : ByteArray)), (wrap64 (x7_3 + 1)), (by first | rfl | (simp; done) | (simp [*]; done)), (by first | rfl | (simp; done) | (simp [*]; done)), H', ⟨by have := HJ2.out; have := HK2.out; have := HK3.out; omega⟩, ⟨by repeat (first | (with_reducible first | exact HB.out | apply qc0 | apply qa0 | apply qb0) | exact HB.out)⟩⟩
        rw [if_neg c30] at H
        have c30b0 : decide (x7_3 < (l1.length : Int)) = false := decide_eq_false c30
        clear c30
        by_cases c42 : x6_3.size + 2 ≤ 9223372036854775807
        case neg => rw [if_neg c42] at H; exact absurd H (by simp)
        rw [if_pos c42] at H
        have c42b0 := eq_true c42
        have c42b1 : decide (x6_3.size + 2 ≤ 9223372036854775807) = true := decide_eq_true c42
        try have c42b2 : (9223372036854775807 < x6_3.size + 2) = False := eq_false (Nat.not_lt.2 c42)
        replace H := Option.bind_eq_some_iff.mp H
        obtain ⟨t144, A430, H⟩ := H
        replace H : ((spec_l1Text.f k3 t144).bind fun t145 => (if (x6_3 ++ (⟨#[84, 124]⟩ : ByteArray)).size + t145.size ≤ 9223372036854775807 then (if ((x6_3 ++ (⟨#[84, 124]⟩ : ByteArray)) ++ t145).size + 1 ≤ 9223372036854775807 then (if ((((x6_3 ++ (⟨#[84, 124]⟩ : ByteArray)) ++ t145) ++ (⟨#[10]⟩ : ByteArray)).size : Int) > 20000 then (some (⟨#[]⟩ : ByteArray)) else (some (((x6_3 ++ (⟨#[84, 124]⟩ : ByteArray)) ++ t145) ++ (⟨#[10]⟩ : ByteArray)))) else (none)) else (none))) = some r := H
        have A43 := Aside0.mk A430
        clear A430
        replace H := Option.bind_eq_some_iff.mp H
        obtain ⟨t145, A440, H⟩ := H
        replace H : (if (x6_3 ++ (⟨#[84, 124]⟩ : ByteArray)).size + t145.size ≤ 9223372036854775807 then (if ((x6_3 ++ (⟨#[84, 124]⟩ : ByteArray)) ++ t145).size + 1 ≤ 9223372036854775807 then (if ((((x6_3 ++ (⟨#[84, 124]⟩ : ByteArray)) ++ t145) ++ (⟨#[10]⟩ : ByteArray)).size : Int) > 20000 then (some (⟨#[]⟩ : ByteArray)) else (some (((x6_3 ++ (⟨#[84, 124]⟩ : ByteArray)) ++ t145) ++ (⟨#[10]⟩ : ByteArray)))) else (none)) else (none)) = some r := H
        have A44 := Aside0.mk A440
        clear A440
        by_cases c45 : (x6_3 ++ (⟨#[84, 124]⟩ : ByteArray)).size + t145.size ≤ 9223372036854775807
        case neg => rw [if_neg c45] at H; exact absurd H (by simp)
        rw [if_pos c45] at H
        have c45b0 := eq_true c45
        have c45b1 : decide ((x6_3 ++ (⟨#[84, 124]⟩ : ByteArray)).size + t145.size ≤ 9223372036854775807) = true := decide_eq_true c45
        try have c45b2 : (9223372036854775807 < (x6_3 ++ (⟨#[84, 124]⟩ : ByteArray)).size + t145.size) = False := eq_false (Nat.not_lt.2 c45)
        have c45b3 : (9223372036854775807 < x6_3.size + 2 + t145.size) = False := eq_false (by have h_ := c45; simp only [ByteArray.size_append] at h_; have l0_ : (⟨#[84, 124]⟩ : ByteArray).size = 2 := rfl; omega)
        by_cases c46 : ((x6_3 ++ (⟨#[84, 124]⟩ : ByteArray)) ++ t145).size + 1 ≤ 9223372036854775807
        case neg => rw [if_neg c46] at H; exact absurd H (by simp)
        rw [if_pos c46] at H
        have c46b0 := eq_true c46
        have c46b1 : decide (((x6_3 ++ (⟨#[84, 124]⟩ : ByteArray)) ++ t145).size + 1 ≤ 9223372036854775807) = true := decide_eq_true c46
        try have c46b2 : (9223372036854775807 < ((x6_3 ++ (⟨#[84, 124]⟩ : ByteArray)) ++ t145).size + 1) = False := eq_false (Nat.not_lt.2 c46)
        have c46b3 : (9223372036854775807 < x6_3.size + 2 + t145.size + 1) = False := eq_false (by have h_ := c46; simp only [ByteArray.size_append] at h_; have l0_ : (⟨#[84, 124]⟩ : ByteArray).size = 2 := rfl; omega)
        by_cases c47 : ((((x6_3 ++ (⟨#[84, 124]⟩ : ByteArray)) ++ t145) ++ (⟨#[10]⟩ : ByteArray)).size : Int) > 20000
        ·rw [if_pos c47] at H
         have c47b0 : decide (20000 < ((((x6_3 ++ (⟨#[84, 124]⟩ : ByteArray)) ++ t145) ++ (⟨#[10]⟩ : ByteArray)).size : Int)) = true := decide_eq_true c47
         have c47b1 : decide (20000 < (((x6_3 ++ (⟨#[84, 124]⟩ : ByteArray)) ++ t145) ++ (⟨#[10]⟩ : ByteArray)).size) = true := decide_eq_true (by omega)
         have c47b3 : (20000 < (x6_3.size : Int) + 2 + (t145.size : Int) + 1) = True := eq_true (by have h_ := c47; simp only [ByteArray.size_append] at h_; have l0_ : (⟨#[84, 124]⟩ : ByteArray).size = 2 := rfl; have l1_ : (⟨#[10]⟩ : ByteArray).size = 1 := rfl; omega)
         have c47b4 : decide (20000 < (x6_3.size : Int) + 2 + (t145.size : Int) + 1) = true := decide_eq_true (by have h_ := c47; simp only [ByteArray.size_append] at h_; have l0_ : (⟨#[84, 124]⟩ : ByteArray).size = 2 := rfl; have l1_ : (⟨#[10]⟩ : ByteArray).size = 1 := rfl; omega)
         clear c47
         obtain rfl := Option.some.inj H
         go_wp2_with (first | ((with_reducible refine qf0 (f := 96) rfl ?_); refine qn0 (some 80) rfl rfl Try.func96 (by kernel_rfl) rfl #[.string x6_3] rfl (by (try simp only [List.map_toArray, List.map_cons, List.map_nil]); first | done | rfl | (simp only [List.length_drop, List.length_take]; rfl)) ?_; (with_reducible refine (spec_l14Check.calls k3 x6_3 t144 _ A43.out).mono ?_); rintro e w' ⟨rfl, ⟨nd, rfl⟩⟩; refine ⟨_, rfl, ?_⟩) | ((with_reducible refine qf0 (f := 94) rfl ?_); refine qn0 (some 81) rfl rfl Try.func94 (by kernel_rfl) rfl #[.int .i64 t144] rfl (by (try simp only [List.map_toArray, List.map_cons, List.map_nil]); first | done | rfl | (simp only [List.length_drop, List.length_take]; rfl)) ?_; (with_reducible refine (spec_l1Text.calls k3 t144 t145 _ A44.out).mono ?_); rintro e w48 ⟨rfl, hb⟩; refine ⟨_, rfl, ?_⟩; have n0_ := Aside0.mk (qg0 (by repeat (first | (with_reducible first | exact HB.out | apply qc0 | apply qa0 | apply qb0) | exact HB.out)) hb); clear HB; have HB := n0_; clear n0_; (try clear hb); (try clear hb2); (try clear hk); (try clear hi)))
         go_ret
         exact ⟨by first | rfl | (simp [errW_none, errW_some] <;> rfl) | (simp [*, errW_none, errW_some] <;> rfl), by repeat (first | (with_reducible first | exact HB.out | apply qc0 | apply qa0 | apply qb0) | exact HB.out)⟩
        rw [if_neg c47] at H
        have c47b0 : decide (20000 < ((((x6_3 ++ (⟨#[84, 124]⟩ : ByteArray)) ++ t145) ++ (⟨#[10]⟩ : ByteArray)).size : Int)) = false := decide_eq_false c47
        have c47b1 : decide (20000 < (((x6_3 ++ (⟨#[84, 124]⟩ : ByteArray)) ++ t145) ++ (⟨#[10]⟩ : ByteArray)).size) = false := decide_eq_false (by omega)
        have c47b3 : (20000 < (x6_3.size : Int) + 2 + (t145.size : Int) + 1) = False := eq_false (by have h_ := c47; simp only [ByteArray.size_append] at h_; have l0_ : (⟨#[84, 124]⟩ : ByteArray).size = 2 := rfl; have l1_ : (⟨#[10]⟩ : ByteArray).size = 1 := rfl; omega)
        have c47b4 : decide (20000 < (x6_3.size : Int) + 2 + (t145.size : Int) + 1) = false := decide_eq_false (by have h_ := c47; simp only [ByteArray.size_append] at h_; have l0_ : (⟨#[84, 124]⟩ : ByteArray).size = 2 := rfl; have l1_ : (⟨#[10]⟩ : ByteArray).size = 1 := rfl; omega)
        clear c47
        obtain rfl := Option.some.inj H
        go_wp2_with (first | ((with_reducible refine qf0 (f := 96) rfl ?_); refine qn0 (some 80) rfl rfl Try.func96 (by kernel_rfl) rfl #[.string x6_3] rfl (by (try simp only [List.map_toArray, List.map_cons, List.map_nil]); first | done | rfl | (simp only [List.length_drop, List.length_take]; rfl)) ?_; (with_reducible refine (spec_l14Check.calls k3 x6_3 t144 _ A43.out).mono ?_); rintro e w' ⟨rfl, ⟨nd, rfl⟩⟩; refine ⟨_, rfl, ?_⟩) | ((with_reducible refine qf0 (f := 94) rfl ?_); refine qn0 (some 81) rfl rfl Try.func94 (by kernel_rfl) rfl #[.int .i64 t144] rfl (by (try simp only [List.map_toArray, List.map_cons, List.map_nil]); first | done | rfl | (simp only [List.length_drop, List.length_take]; rfl)) ?_; (with_reducible refine (spec_l1Text.calls k3 t144 t145 _ A44.out).mono ?_); rintro e w49 ⟨rfl, hb⟩; refine ⟨_, rfl, ?_⟩; have n0_ := Aside0.mk (qg0 (by repeat (first | (with_reducible first | exact HB.out | apply qc0 | apply qa0 | apply qb0) | exact HB.out)) hb); clear HB; have HB := n0_; clear n0_; (try clear hb); (try clear hb2); (try clear hk); (try clear hi)))
        go_ret
        exact ⟨by first | rfl | (simp [errW_none, errW_some] <;> rfl) | (simp [*, errW_none, errW_some] <;> rfl), by repeat (first | (with_reducible first | exact HB.out | apply qc0 | apply qa0 | apply qb0) | exact HB.out)⟩
     replace c16 := Bool.eq_false_iff.mpr c16
     subst c16
     have H1 : (some (⟨#[]⟩ : ByteArray)) = some r := by rw [if_neg (show ¬ (false = true) by decide)] at H; exact H
     clear H
     have H := H1
     clear H1
     obtain rfl := Option.some.inj H
     go_wp2_with (first | ((with_reducible refine qf0 (f := 93) rfl ?_); refine qn0 (some 30) rfl rfl Try.func93 (by kernel_rfl) rfl #[.slice A1 l1.length c1] rfl (by (try simp only [List.map_toArray, List.map_cons, List.map_nil]); first | done | rfl | (simp only [List.length_drop, List.length_take]; rfl)) ?_; (with_reducible refine (spec_l14Sum.calls k2 _ _ l1 t134 _ ?side1 ?side2 A14.out).mono ?_); (case side1 => repeat (first | exact (Kd.C_below HR1.out HB.out) | (with_reducible refine Kd.qz0 ?_ _) | (with_reducible refine Kd.qy0 ?_ _) | (with_reducible refine Kd.qd1 ?_))); (case side2 => exact HC1.out); rintro e w' ⟨rfl, ⟨nd, rfl⟩⟩; refine ⟨_, rfl, ?_⟩) | ((with_reducible refine qf0 (f := 92) rfl ?_); refine qn0 (some 31) rfl rfl Try.func92 (by kernel_rfl) rfl #[.int .i64 t134] rfl (by (try simp only [List.map_toArray, List.map_cons, List.map_nil]); first | done | rfl | (simp only [List.length_drop, List.length_take]; rfl)) ?_; (with_reducible refine (spec_l1Amount.calls t134 false _ A15.out).mono ?_); rintro e w' ⟨rfl, ⟨nd, rfl⟩⟩; refine ⟨_, rfl, ?_⟩))
     go_ret
     exact ⟨by first | rfl | (simp [errW_none, errW_some] <;> rfl) | (simp [*, errW_none, errW_some] <;> rfl), by repeat (first | (with_reducible first | exact HB.out | apply qc0 | apply qa0 | apply qb0) | exact HB.out)⟩

/-! ### laws_toPayment: function 97 -/
def laws_toPayment.f (a0_0 : ByteArray) (a0_1 : ByteArray) (a0_2 : Int) : Option (ByteArray × ByteArray × Int) := some (a0_0, a0_1, a0_2)
set_option maxHeartbeats 8000000 in
set_option maxRecDepth 100000 in
theorem laws_toPayment.calls (a0_0 : ByteArray) (a0_1 : ByteArray) (a0_2 : Int) (r1 : ByteArray) (r2 : ByteArray) (r3 : Int) (w : World) (h : laws_toPayment.f a0_0 a0_1 a0_2 = some (r1, r2, r3)) :
  Calls Try.prog 97 #[.agg #[.string a0_0, .string a0_1, .int .i64 a0_2]] w fun e w' => e = .returned (.agg #[.string r1, .string r2, .int .i64 r3]) ∧ Below w.heap.size w w' := by
 have hu138 := Try.underlying138
 have hu140 := Try.underlying140
 have HB := Aside0.mk (Below.refl w.heap.size w)
 have H : (some (a0_0, a0_1, a0_2)) = some (r1, r2, r3) := h
 clear h
 simp only [Option.some.injEq, Prod.mk.injEq] at H
 obtain ⟨rfl, rfl, rfl⟩ := H
 go_enter Try.func97, Try.ntmps97
 go_wp2_with (first | ((with_reducible refine qp0 (N := 1) rfl ?_); refine qq0 ?hg (N := 1) ?hd (cs := #[.string a0_0, .string a0_1, .int .i64 a0_2]) (t := 138) ?hr ?_; (case hd => rfl); (case hg => rfl); (case hr => first | (go_simp; done) | (go_simp; rfl)); intro gb146 hg w2 hbox hb; have n0_ := Aside0.mk (qg0 (by repeat (first | (with_reducible first | exact HB.out | apply qc0 | apply qa0 | apply qb0) | exact HB.out)) hb); have n1_ := Aside0.mk (hbox); have n2_ := Aside0.mk ((by rw [hg]; exact (qi0 (by repeat (first | (with_reducible first | exact HB.out | apply qc0 | apply qa0 | apply qb0) | exact HB.out))) : w.heap.size ≤ gb146)); have n3_ := Aside0.mk ((by rw [hg]; exact (qi0 (by repeat (first | (with_reducible first | exact HB.out | apply qc0 | apply qa0 | apply qb0) | exact HB.out))) : w.heap.size ≤ gb146)); clear HB; have HB := n0_; have BK146 := n1_; have GW146 := n2_; have GE146 := n3_; clear n0_ n1_ n2_ n3_; clear hb hbox hg) | ((with_reducible refine qp0 (N := 2) rfl ?_); refine qq0 ?hg (N := 2) ?hd (cs := #[.string (⟨#[]⟩ : ByteArray), .string (⟨#[]⟩ : ByteArray), .int .i64 0]) (t := 140) ?hr ?_; (case hd => rfl); (case hg => rfl); (case hr => first | (go_simp; done) | (go_simp; rfl)); intro gb147 hg w3 hbox hb; have n0_ := Aside0.mk (blk_below (g := gb146) (o := .cells #[.string a0_0, .string a0_1, .int .i64 a0_2] 138 (0, 0)) (by (with_reducible repeat (first | refine qk0 ?_ _ | refine qm0 ?_ | refine ql0 ?_ _)); exact BK146.out) hb); have n1_ := Aside0.mk (qg0 (by repeat (first | (with_reducible first | exact HB.out | apply qc0 | apply qa0 | apply qb0 | refine qj0 ?_ GE146.out) | exact HB.out)) hb); have n2_ := Aside0.mk (hbox); have n3_ := Aside0.mk ((by rw [hg]; exact (qi0 (by repeat (first | (with_reducible first | exact HB.out | apply qc0 | apply qa0 | apply qb0 | refine qj0 ?_ GE146.out) | exact HB.out))) : w.heap.size ≤ gb147)); have n4_ := Aside0.mk ((by rw [hg]; exact (qi0 (by repeat (first | (with_reducible first | exact HB.out | apply qc0 | apply qa0 | apply qb0 | refine qj0 ?_ GE146.out) | exact HB.out))) : w.heap.size ≤ gb147)); have n5_ := Aside0.mk ((by rw [hg]; exact Nat.ne_of_lt (qf1 (g := gb146) (o := .cells #[.string a0_0, .string a0_1, .int .i64 a0_2] 138 (0, 0)) (by (with_reducible repeat (first | refine qk0 ?_ _ | refine qm0 ?_ | refine ql0 ?_ _)); exact BK146.out)) : gb146 ≠ gb147)); have n6_ := Aside0.mk ((by rw [hg]; exact Nat.ne_of_gt (qf1 (g := gb146) (o := .cells #[.string a0_0, .string a0_1, .int .i64 a0_2] 138 (0, 0)) (by (with_reducible repeat (first | refine qk0 ?_ _ | refine qm0 ?_ | refine ql0 ?_ _)); exact BK146.out)) : gb147 ≠ gb146)); clear BK146; clear HB; have BK146 := n0_; have HB := n1_; have BK147 := n2_; have GW147 := n3_; have GE147 := n4_; have NB146_147 := n5_; have NB147_146 := n6_; clear n0_ n1_ n2_ n3_ n4_ n5_ n6_; clear hb hbox hg) | ((with_reducible refine qp0 (N := 3) rfl ?_); refine qq0 ?hg (N := 3) ?hd (cs := #[.string (⟨#[]⟩ : ByteArray), .string (⟨#[]⟩ : ByteArray), .int .i64 0]) (t := 140) ?hr ?_; (case hd => rfl); (case hg => rfl); (case hr => first | (go_simp; done) | (go_simp; rfl)); intro gb148 hg w4 hbox hb; have n0_ := Aside0.mk (blk_below (g := gb146) (o := .cells #[.string a0_0, .string a0_1, .int .i64 a0_2] 138 (0, 0)) (by (with_reducible repeat (first | refine qk0 ?_ _ | refine qm0 ?_ | refine ql0 ?_ _)); exact BK146.out) hb); have n1_ := Aside0.mk (blk_below (g := gb147) (o := .cells #[.string (⟨#[]⟩ : ByteArray), .string (⟨#[]⟩ : ByteArray), .int .i64 0] 140 (0, 0)) (by (with_reducible repeat (first | refine qk0 ?_ _ | refine qm0 ?_ | refine ql0 ?_ _)); exact BK147.out) hb); have n2_ := Aside0.mk (qg0 (by repeat (first | (with_reducible first | exact HB.out | apply qc0 | apply qa0 | apply qb0 | refine qj0 ?_ GE146.out | refine qj0 ?_ GE147.out) | exact HB.out)) hb); have n3_ := Aside0.mk (hbox); have n4_ := Aside0.mk ((by rw [hg]; exact (qi0 (by repeat (first | (with_reducible first | exact HB.out | apply qc0 | apply qa0 | apply qb0 | refine qj0 ?_ GE146.out | refine qj0 ?_ GE147.out) | exact HB.out))) : w.heap.size ≤ gb148)); have n5_ := Aside0.mk ((by rw [hg]; exact (qi0 (by repeat (first | (with_reducible first | exact HB.out | apply qc0 | apply qa0 | apply qb0 | refine qj0 ?_ GE146.out | refine qj0 ?_ GE147.out) | exact HB.out))) : w.heap.size ≤ gb148)); have n6_ := Aside0.mk ((by rw [hg]; exact Nat.ne_of_lt (qf1 (g := gb146) (o := .cells #[.string a0_0, .string a0_1, .int .i64 a0_2] 138 (0, 0)) (by (with_reducible repeat (first | refine qk0 ?_ _ | refine qm0 ?_ | refine ql0 ?_ _)); exact BK146.out)) : gb146 ≠ gb148)); have n7_ := Aside0.mk ((by rw [hg]; exact Nat.ne_of_gt (qf1 (g := gb146) (o := .cells #[.string a0_0, .string a0_1, .int .i64 a0_2] 138 (0, 0)) (by (with_reducible repeat (first | refine qk0 ?_ _ | refine qm0 ?_ | refine ql0 ?_ _)); exact BK146.out)) : gb148 ≠ gb146)); have n8_ := Aside0.mk ((by rw [hg]; exact Nat.ne_of_lt (qf1 (g := gb147) (o := .cells #[.string (⟨#[]⟩ : ByteArray), .string (⟨#[]⟩ : ByteArray), .int .i64 0] 140 (0, 0)) (by (with_reducible repeat (first | refine qk0 ?_ _ | refine qm0 ?_ | refine ql0 ?_ _)); exact BK147.out)) : gb147 ≠ gb148)); have n9_ := Aside0.mk ((by rw [hg]; exact Nat.ne_of_gt (qf1 (g := gb147) (o := .cells #[.string (⟨#[]⟩ : ByteArray), .string (⟨#[]⟩ : ByteArray), .int .i64 0] 140 (0, 0)) (by (with_reducible repeat (first | refine qk0 ?_ _ | refine qm0 ?_ | refine ql0 ?_ _)); exact BK147.out)) : gb148 ≠ gb147)); clear BK146; clear BK147; clear HB; have BK146 := n0_; have BK147 := n1_; have HB := n2_; have BK148 := n3_; have GW148 := n4_; have GE148 := n5_; have NB146_148 := n6_; have NB148_146 := n7_; have NB147_148 := n8_; have NB148_147 := n9_; clear n0_ n1_ n2_ n3_ n4_ n5_ n6_ n7_ n8_ n9_; clear hb hbox hg; have hnb5 := NB146_147.out; have hnc5 := NB147_146.out; have hnb6 := NB146_148.out; have hnc6 := NB148_146.out; have hcz7_0 : w4.cell? ⟨gb146, 0, none⟩ = some (.string a0_0) := (qh0 BK146.out 0).trans rfl; have hcz7_1 : w4.cell? ⟨gb146, 1, none⟩ = some (.string a0_1) := (qh0 BK146.out 1).trans rfl; have hcz7_2 : w4.cell? ⟨gb146, 2, none⟩ = some (.int .i64 a0_2) := (qh0 BK146.out 2).trans rfl; have hfz7_0 := qe0 BK146.out 0; have hfz7_1 := qe0 BK146.out 1; have hfz7_2 := qe0 BK146.out 2; have hnb8 := NB148_147.out; have hnc8 := NB147_148.out; have hcz9_0 : w4.cell? ⟨gb148, 0, none⟩ = some (.string (⟨#[]⟩ : ByteArray)) := (qh0 BK148.out 0).trans rfl; have hcz9_1 : w4.cell? ⟨gb148, 1, none⟩ = some (.string (⟨#[]⟩ : ByteArray)) := (qh0 BK148.out 1).trans rfl; have hcz9_2 : w4.cell? ⟨gb148, 2, none⟩ = some (.int .i64 0) := (qh0 BK148.out 2).trans rfl; have hfz9_0 := qe0 BK148.out 0; have hfz9_1 := qe0 BK148.out 1; have hfz9_2 := qe0 BK148.out 2; have hcz10_0 : w4.cell? ⟨gb147, 0, none⟩ = some (.string (⟨#[]⟩ : ByteArray)) := (qh0 BK147.out 0).trans rfl; have hcz10_1 : w4.cell? ⟨gb147, 1, none⟩ = some (.string (⟨#[]⟩ : ByteArray)) := (qh0 BK147.out 1).trans rfl; have hcz10_2 : w4.cell? ⟨gb147, 2, none⟩ = some (.int .i64 0) := (qh0 BK147.out 2).trans rfl; have hfz10_0 := qe0 BK147.out 0; have hfz10_1 := qe0 BK147.out 1; have hfz10_2 := qe0 BK147.out 2))
 refine bodyPost_ret (results_cell_row rfl _ _ gb147 140 #[.string a0_0, .string a0_1, .int .i64 a0_2] (0, 0) _ rfl (by (with_reducible repeat (first | refine qk0 ?_ _ | refine qm0 ?_ | refine ql0 ?_ _)); refine blk_put (cs := #[.string a0_0, .string a0_1, .int .i64 0]) ?_ 2 _ rfl; (with_reducible repeat (first | refine qk0 ?_ _ | refine qm0 ?_ | refine ql0 ?_ _)); refine blk_put (cs := #[.string a0_0, .string (⟨#[]⟩ : ByteArray), .int .i64 0]) ?_ 1 _ rfl; (with_reducible repeat (first | refine qk0 ?_ _ | refine qm0 ?_ | refine ql0 ?_ _)); refine blk_put (cs := #[.string (⟨#[]⟩ : ByteArray), .string (⟨#[]⟩ : ByteArray), .int .i64 0]) ?_ 0 _ rfl; (with_reducible repeat (first | refine qk0 ?_ _ | refine qm0 ?_ | refine ql0 ?_ _)); refine blk_far ?_ NB147_148.out _; (with_reducible repeat (first | refine qk0 ?_ _ | refine qm0 ?_ | refine ql0 ?_ _)); refine blk_far ?_ NB147_148.out _; (with_reducible repeat (first | refine qk0 ?_ _ | refine qm0 ?_ | refine ql0 ?_ _)); refine blk_far ?_ NB147_148.out _; (with_reducible repeat (first | refine qk0 ?_ _ | refine qm0 ?_ | refine ql0 ?_ _)); exact BK147.out) Try.underlying140 rfl (by kernel_rfl)) rfl ?_
 exact ⟨by first | rfl | (simp [errW_none, errW_some] <;> rfl) | (simp [*, errW_none, errW_some] <;> rfl), by repeat (first | (with_reducible first | exact HB.out | apply qc0 | apply qa0 | apply qb0 | refine qj0 ?_ GE146.out | refine qj0 ?_ GE147.out | refine qj0 ?_ GE148.out) | exact HB.out)⟩

end Go.Proofs.Ytkkdmmefnicmaaa.PFnExactWriteBank
