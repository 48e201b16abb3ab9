/- Lines by a program (a changed copy of the kit's print: this repo's wip/tools): Go functions as Lean functions, and proofs that the calls answer so. -/
import Derived.Test.YtggfggmmecbdnaaZPFnWorkBackx0
import Derived.Test.YtggfggmmecbdnaaZPFnWorkBackx2
import Derived.Test.YtggfggmmecbdnaaZPFnWorkBackx3
import Derived.Test.YtggfggmmecbdnaaZPFnWorkBackx4
import Derived.RangeFuncLeaves
import Derived.RangeFuncFrom
import Derived.RangeFuncNested
import Derived.Shelf.Abstract
import Derived.WalkKit
import Derived.OwnWalkIn
import Derived.TacticsInMore
import Derived.LoopNIn
import Derived.LoopIn
import Derived.Sort.LoopGhostIn
import Derived.Sort.CutIn
namespace Go.Proofs.Ytggfggmmecbdnaa.PFnWorkBack
open Go.RowKit Go.Proofs.YtggfggmmecbdnaaW.PrintWords Go.Proofs.YtggfggmmecbdnaaW.PrintLast Go.Proofs.YtggfggmmecbdnaaW.PrintMore
/-- Closing blocks told once. -/
theorem z7_0 {P : Prop} (h : P := by rw [← hr]; first | rfl | (rw [Int.neg_mul, Int.one_mul]; rfl) | (rw [Int.one_mul]; rfl)) : P := h
theorem z7_1 {P : Prop} (h : P := by show Boxed w5 _ _ (.int .i64 (wrap64 ((0 : Nat) : Int))); rw [show wrap64 ((0 : Nat) : Int) = 0 by unfold wrap64; omega]; exact gL5) : P := h
attribute [local go_sem] max2_int min2_int max_two min_two max_three min_three max_four min_four   -- for this text's walks alone
set_option linter.unusedVariables false
set_option linter.unusedSimpArgs false

-- EXTERN loop.example/g00040/impl.CountWork
/-! ### impl_CountWork: function 10 -/
-- @rounds
-- @making
-- @import Derived.RangeFuncLeaves
-- @import Derived.RangeFuncFrom
-- @import Derived.RangeFuncNested
-- @import Derived.Shelf.Abstract
-- @import Derived.WalkKit
-- @import Derived.OwnWalkIn
-- @import Derived.TacticsInMore
-- @import Derived.LoopNIn
-- @import Derived.LoopIn
-- @import Derived.Sort.LoopGhostIn
-- @import Derived.Sort.CutIn
open Go.Shelf
attribute [local go_sem] Oper.semAt_some
/-- The span's ends and its sign. -/
def cwLo (a b : Int) : Int := if b < a then b else a
def cwHi (a b : Int) : Int := if b < a then a else b
def cwSign (a b : Int) : Int := if b < a then -1 else 1
def impl_CountWork.f (k : Nat) (a0_0 : Int) (l0_1 : List Int) (a1 a2 : Int) : Option Int :=
 (impl_CalOk.f k a0_0 l0_1).bind fun t1 => (if t1 = true then ((impl_isDay.f a1).bind fun t2 => (if t2 = true then ((impl_isDay.f a2).bind fun t3 => (if t3 = true then ((wdl k a0_0 l0_1 1 k (wrap64 (cwLo a1 a2 + 1))).bind fun xs => some (wrap64 (cwSign a1 a2 * wrap64 (((xs.takeWhile fun x => decide (x ≤ cwHi a1 a2)).length : Nat) : Int)))) else some 0)) else some 0)) else some 0)
theorem impl_CountWork.mono : ∀ a0 a1 a2 a3 k, LeO (impl_CountWork.f k a0 a1 a2 a3) (impl_CountWork.f (k + 1) a0 a1 a2 a3) := by
 intro off l day n k r h
 unfold impl_CountWork.f at h ⊢
 obtain ⟨t1, e1, h⟩ := Option.bind_eq_some_iff.1 h
 rw [impl_CalOk.mono _ _ _ _ e1, Option.bind_some]
 by_cases c1 : t1 = true
 ·rw [if_pos c1] at h ⊢
  obtain ⟨t2, e2, h⟩ := Option.bind_eq_some_iff.1 h
  rw [e2, Option.bind_some]
  by_cases c2 : t2 = true
  ·rw [if_pos c2] at h ⊢
   obtain ⟨t3, e3, h⟩ := Option.bind_eq_some_iff.1 h
   rw [e3, Option.bind_some]
   by_cases c3 : t3 = true
   ·rw [if_pos c3] at h ⊢
    obtain ⟨xs, e4, h⟩ := Option.bind_eq_some_iff.1 h
    rw [wdl_mono _ _ _ e4, Option.bind_some]
    exact h
   ·rw [if_neg c3] at h ⊢
    exact h
  ·rw [if_neg c2] at h ⊢
   exact h
 ·rw [if_neg c1] at h ⊢
  exact h
theorem wrap_inc (n : Nat) : wrap64 (wrap64 (n : Int) + 1) = wrap64 ((n + 1 : Nat) : Int) := by
 unfold wrap64
 omega
theorem tw_all {hi : Int} : ∀ {xs : List Int}, (∀ x ∈ xs, x ≤ hi) → xs.takeWhile (fun x => decide (x ≤ hi)) = xs
 | [], _ => rfl
 | x :: xs, h => by
  have ih := tw_all (fun y hy => h y (List.mem_cons_of_mem _ hy))
  simp [List.takeWhile_cons, h x (by simp), ih]
theorem tw_stop {hi x : Int} (hx : hi < x) {t : List Int} : ∀ {p : List Int}, (∀ y ∈ p, y ≤ hi) → (p ++ x :: t).takeWhile (fun x => decide (x ≤ hi)) = p
 | [], _ => by
  have : ¬ x ≤ hi := by omega
  simp [List.takeWhile_cons, this]
 | y :: p, h => by
  have ih := tw_stop hx (t := t) (fun z hz => h z (List.mem_cons_of_mem _ hz))
  simp [List.takeWhile_cons, h y (by simp), ih]
set_option maxHeartbeats 8000000 in
set_option maxRecDepth 100000 in
theorem impl_CountWork.calls (k : Nat) (a0_0 : Int) (A0_1 : Option Addr) (c0_1 : Nat) (l0_1 : List Int) (a1 a2 : Int) (r : Int) (w : World) (hr0_1 : Kd.C (Kd.int .i64) w A0_1 l0_1.length l0_1) (hc0_1 : l0_1.length ≤ c0_1) (h : impl_CountWork.f k a0_0 l0_1 a1 a2 = some r) :
  Calls Try.prog 10 #[.agg #[.int .i64 a0_0, .slice A0_1 l0_1.length c0_1], .int .i64 a1, .int .i64 a2] w fun e w' => e = .returned (.int .i64 r) ∧ Below w.heap.size w w' := by
 have hu26 := Try.underlying26
 unfold impl_CountWork.f at h
 obtain ⟨t1, e1, h⟩ := Option.bind_eq_some_iff.1 h
 have hB0 : Below w.heap.size w ((w.alloc (.cells #[.int .i64 a0_0, .slice A0_1 l0_1.length c0_1] 26)).alloc (.cells #[.int .i64 a2] 3)) := ((Below.refl _ w).alloc (Nat.le_refl _) _).alloc (by simp) _
 have g0 : ((w.alloc (.cells #[.int .i64 a0_0, .slice A0_1 l0_1.length c0_1] 26)).alloc (.cells #[.int .i64 a2] 3)).heap[w.heap.size]? = some (.cells #[.int .i64 a0_0, .slice A0_1 l0_1.length c0_1] 26 (0, 0)) := qg0 (World.alloc_heap_new w _) _
 have g1 : ((w.alloc (.cells #[.int .i64 a0_0, .slice A0_1 l0_1.length c0_1] 26)).alloc (.cells #[.int .i64 a2] 3)).heap[w.heap.size + 1]? = some (.cells #[.int .i64 a2] 3 (0, 0)) := new1 w _ _
 generalize hwa : ((w.alloc (.cells #[.int .i64 a0_0, .slice A0_1 l0_1.length c0_1] 26)).alloc (.cells #[.int .i64 a2] 3)) = wa at hB0 g0 g1
 have q0 : wa.cell? ⟨w.heap.size, 0, none⟩ = some (.int .i64 a0_0) := (qb0 g0 0).trans rfl
 have q1 : wa.cell? ⟨w.heap.size, 1, none⟩ = some (.slice A0_1 l0_1.length c0_1) := (qb0 g0 1).trans rfl
 refine (callsIn_wide (n := 3)).1 ?_
 refine callsIn_of_wp_marks Try.func10 rfl trivial ?_ rfl
 simp only [Try.ntmps10, List.size_toArray, List.length_cons, List.length_nil, Nat.reduceAdd, Nat.reduceSub, Array.replicate_succ, Array.replicate_zero, List.push_toArray, List.append_toArray, List.nil_append, List.cons_append]
 gi_upto_region 1 with (fail)
 clear hwa
 cases t1 with
 | false =>
  rw [if_neg (by decide)] at h
  obtain rfl := Option.some.inj h
  gi_wp2_with (first | (refine ⟨trivial, ?_⟩; gi_at_call 24; refine (callsIn_wide.2 (impl_CalOk.calls k a0_0 A0_1 c0_1 l0_1 false wa (Kd.qd1 hr0_1 hB0) hc0_1 e1)).mono ?_; rintro e w1 ⟨rfl, hb⟩; have g0a := bl_ hb g0; have g1a := bl_ hb g1; have hB1 := hB0.trans (hb.mono hB0.size); have q1' : w1.cell? ⟨w.heap.size + 1, 0, none⟩ = some (.int .i64 a2) := (qb0 g1a 0).trans rfl))
  refine ⟨trivial, ?_⟩
  gi_wp2
  refine ⟨trivial, ?_⟩
  gi_wp2
  exact ⟨_, results_tmp rfl _ _ _, rfl, hB1⟩
 | true =>
  rw [if_pos rfl] at h
  obtain ⟨t2, e2, h⟩ := Option.bind_eq_some_iff.1 h
  cases t2 with
  | false =>
   rw [if_neg (by decide)] at h
   obtain rfl := Option.some.inj h
   gi_wp2_with (first | (refine ⟨trivial, ?_⟩; gi_at_call 24; refine (callsIn_wide.2 (impl_CalOk.calls k a0_0 A0_1 c0_1 l0_1 true wa (Kd.qd1 hr0_1 hB0) hc0_1 e1)).mono ?_; rintro e w1 ⟨rfl, hb⟩; have g0a := bl_ hb g0; have g1a := bl_ hb g1; have hB1 := hB0.trans (hb.mono hB0.size); have q1' : w1.cell? ⟨w.heap.size + 1, 0, none⟩ = some (.int .i64 a2) := (qb0 g1a 0).trans rfl) | (refine ⟨trivial, ?_⟩; gi_at_call 26; with_reducible refine (callsIn_wide.2 (isDay_b a1 false w1 e2)).mono ?_; rintro e w2 ⟨rfl, hb⟩; have g0b := bl_ hb g0a; have g1b := bl_ hb g1a; have hB2 := hB1.trans (hb.mono hB1.size); have q1'' : w2.cell? ⟨w.heap.size + 1, 0, none⟩ = some (.int .i64 a2) := (qb0 g1b 0).trans rfl))
   refine ⟨trivial, ?_⟩
   gi_wp2
   exact ⟨_, results_tmp rfl _ _ _, rfl, hB2⟩
  | true =>
   rw [if_pos rfl] at h
   obtain ⟨t3, e3, h⟩ := Option.bind_eq_some_iff.1 h
   cases t3 with
   | false =>
    rw [if_neg (by decide)] at h
    obtain rfl := Option.some.inj h
    gi_wp2_with (first | (refine ⟨trivial, ?_⟩; gi_at_call 24; refine (callsIn_wide.2 (impl_CalOk.calls k a0_0 A0_1 c0_1 l0_1 true wa (Kd.qd1 hr0_1 hB0) hc0_1 e1)).mono ?_; rintro e w1 ⟨rfl, hb⟩; have g0a := bl_ hb g0; have g1a := bl_ hb g1; have hB1 := hB0.trans (hb.mono hB0.size); have q1' : w1.cell? ⟨w.heap.size + 1, 0, none⟩ = some (.int .i64 a2) := (qb0 g1a 0).trans rfl) | (refine ⟨trivial, ?_⟩; gi_at_call 26; with_reducible refine (callsIn_wide.2 (isDay_b a1 true w1 e2)).mono ?_; rintro e w2 ⟨rfl, hb⟩; have g0b := bl_ hb g0a; have g1b := bl_ hb g1a; have hB2 := hB1.trans (hb.mono hB1.size); have q1'' : w2.cell? ⟨w.heap.size + 1, 0, none⟩ = some (.int .i64 a2) := (qb0 g1b 0).trans rfl) | (refine ⟨trivial, ?_⟩; gi_at_call 26; with_reducible refine (callsIn_wide.2 (isDay_b a2 false w2 e3)).mono ?_; rintro e w3 ⟨rfl, hb⟩; have g0c := bl_ hb g0b; have g1c := bl_ hb g1b; have hB3 := hB2.trans (hb.mono hB2.size); have q3 : w3.cell? ⟨w.heap.size + 1, 0, none⟩ = some (.int .i64 a2) := (qb0 g1c 0).trans rfl; have f3 := qa0 g1c 0; have q30 : w3.cell? ⟨w.heap.size, 0, none⟩ = some (.int .i64 a0_0) := (qb0 g0c 0).trans rfl; have q31 : w3.cell? ⟨w.heap.size, 1, none⟩ = some (.slice A0_1 l0_1.length c0_1) := (qb0 g0c 1).trans rfl))
    exact ⟨_, results_tmp rfl _ _ _, rfl, hB3⟩
   | true =>
    rw [if_pos rfl] at h
    obtain ⟨xs, e4, h⟩ := Option.bind_eq_some_iff.1 h
    have hr := Option.some.inj h
    have h3 : (a2 < a1 ∧ cwLo a1 a2 = a2 ∧ cwHi a1 a2 = a1 ∧ cwSign a1 a2 = -1) ∨ (¬ a2 < a1 ∧ cwLo a1 a2 = a1 ∧ cwHi a1 a2 = a2 ∧ cwSign a1 a2 = 1) := by
     unfold cwLo cwHi cwSign
     by_cases c1 : a2 < a1
     ·simp [c1]
     ·simp [c1]
    rcases h3 with ⟨c1, s1, s2, s3⟩ | ⟨c1, s1, s2, s3⟩
    ·have c1b : decide (a2 < a1) = true := decide_eq_true c1
     rw [s1] at e4
     rw [s2, s3] at hr
     gi_upto_region 7 with (first | (refine ⟨trivial, ?_⟩; gi_at_call 24; refine (callsIn_wide.2 (impl_CalOk.calls k a0_0 A0_1 c0_1 l0_1 true wa (Kd.qd1 hr0_1 hB0) hc0_1 e1)).mono ?_; rintro e w1 ⟨rfl, hb⟩; have g0a := bl_ hb g0; have g1a := bl_ hb g1; have hB1 := hB0.trans (hb.mono hB0.size); have q1' : w1.cell? ⟨w.heap.size + 1, 0, none⟩ = some (.int .i64 a2) := (qb0 g1a 0).trans rfl) | (refine ⟨trivial, ?_⟩; gi_at_call 26; with_reducible refine (callsIn_wide.2 (isDay_b a1 true w1 e2)).mono ?_; rintro e w2 ⟨rfl, hb⟩; have g0b := bl_ hb g0a; have g1b := bl_ hb g1a; have hB2 := hB1.trans (hb.mono hB1.size); have q1'' : w2.cell? ⟨w.heap.size + 1, 0, none⟩ = some (.int .i64 a2) := (qb0 g1b 0).trans rfl) | (refine ⟨trivial, ?_⟩; gi_at_call 26; with_reducible refine (callsIn_wide.2 (isDay_b a2 true w2 e3)).mono ?_; rintro e w3 ⟨rfl, hb⟩; have g0c := bl_ hb g0b; have g1c := bl_ hb g1b; have hB3 := hB2.trans (hb.mono hB2.size); have q3 : w3.cell? ⟨w.heap.size + 1, 0, none⟩ = some (.int .i64 a2) := (qb0 g1c 0).trans rfl; have f3 := qa0 g1c 0; have q30 : w3.cell? ⟨w.heap.size, 0, none⟩ = some (.int .i64 a0_0) := (qb0 g0c 0).trans rfl; have q31 : w3.cell? ⟨w.heap.size, 1, none⟩ = some (.slice A0_1 l0_1.length c0_1) := (qb0 g0c 1).trans rfl))
     have hLR : w.heap.size + 1 < w3.heap.size := qu0 g1c
     have gL : ((w3.setCell ⟨w.heap.size + 1, 0, none⟩ (.int .i64 a1)).alloc (.cells #[.int .i64 0] 3)).heap[w3.heap.size]? = some (.cells #[.int .i64 0] 3 (0, 0)) := by have := World.alloc_heap_new (w3.setCell ⟨w.heap.size + 1, 0, none⟩ (.int .i64 a1)) (.cells #[.int .i64 0] 3); simpa using this
     have g0d : ((w3.setCell ⟨w.heap.size + 1, 0, none⟩ (.int .i64 a1)).alloc (.cells #[.int .i64 0] 3)).heap[w.heap.size]? = some (.cells #[.int .i64 a0_0, .slice A0_1 l0_1.length c0_1] 26 (0, 0)) := qg0 (blk_far g0c (by show w.heap.size ≠ w.heap.size + 1; omega) _) _
     have g1d : ((w3.setCell ⟨w.heap.size + 1, 0, none⟩ (.int .i64 a1)).alloc (.cells #[.int .i64 0] 3)).heap[w.heap.size + 1]? = some (.cells #[.int .i64 (a1)] 3 (0, 0)) := qg0 (qy0 g1c 0 _ rfl) _
     have hB4 : Below w.heap.size w ((w3.setCell ⟨w.heap.size + 1, 0, none⟩ (.int .i64 a1)).alloc (.cells #[.int .i64 0] 3)) := (hB3.setCell (p := ⟨w.heap.size + 1, 0, none⟩) (by show w.heap.size ≤ w.heap.size + 1; omega) (.int .i64 a1)).alloc (hB3.setCell (p := ⟨w.heap.size + 1, 0, none⟩) (by show w.heap.size ≤ w.heap.size + 1; omega) (.int .i64 a1)).size _
     generalize ((w3.setCell ⟨w.heap.size + 1, 0, none⟩ (.int .i64 a1)).alloc (.cells #[.int .i64 0] 3)) = w4 at gL g0d g1d hB4 ⊢
     have q40 : w4.cell? ⟨w.heap.size, 0, none⟩ = some (.int .i64 a0_0) := (qb0 g0d 0).trans rfl
     have q41 : w4.cell? ⟨w.heap.size, 1, none⟩ = some (.slice A0_1 l0_1.length c0_1) := (qb0 g0d 1).trans rfl
     have hL4 : w3.heap.size < w4.heap.size := qu0 gL
     gi_wp2_with (refine ⟨trivial, ?_⟩; gi_at_call 28; refine (callsIn_wide.2 (workdays_in a0_0 A0_1 c0_1 l0_1.length (wrap64 (a2 + 1)) 1 w4)).mono ?_; rintro e w5 ⟨rfl, hb5, hf5, hs5, hc5⟩)
     have gL5 := bl_ hb5 gL
     have g15 := bl_ hb5 g1d
     have hB5 := hB4.trans (hb5.mono hB4.size)
     have hsz5 := hb5.size
     refine wpIn_rangeFunc_ownF (F := Fence.wide) rfl (by omega) (gf := 47) (lb := #[.pointer (some ⟨w4.heap.size + 1, 0, none⟩), .pointer (some ⟨w4.heap.size + 2, 0, none⟩), .pointer (some ⟨w4.heap.size, 0, none⟩)]) rfl trivial (enters_of Try.func47 (by kernel_rfl) rfl)
      (wd_stops k a0_0 A0_1 c0_1 l0_1 1 (wrap64 (a2 + 1)) k xs e4 (3 - 1) (by omega) (w4.heap.size + 1) (w4.heap.size + 2) w4.heap.size w hr0_1 hc0_1 w5 hf5 hs5 hc5 hB5) KpW_t (KpW_b hB5.size (qu0 hs5) (qu0 hc5)) (Below.refl _ _) (fun _ => rfl)
      (fun pre W => (((∀ y ∈ pre, y ≤ a1) ∧ Boxed W w3.heap.size 3 (.int .i64 (wrap64 ((pre.length : Nat) : Int)))) ∧ Boxed W (w.heap.size + 1) 3 (.int .i64 (a1))) ∧ Below w.heap.size w W)
      (fun c pre W => (∃ p x, c = Code.exit 0 ∧ pre = p ++ [x] ∧ ((∀ y ∈ p, y ≤ a1) ∧ a1 < x) ∧ Boxed W w3.heap.size 3 (.int .i64 (wrap64 ((p.length : Nat) : Int)))) ∧ Below w.heap.size w W)
      (OwnFrom.and (Own.from (fun s A B row hs hg hr => ⟨⟨hs.1.1, boxed_own _ _ (fun (p : List Int) => Value.int .i64 (wrap64 ((p.length : Nat) : Int))) s A B row hs.1.2 hg hr⟩, boxed_own _ _ (fun (_ : List Int) => Value.int .i64 (a1)) s A B row hs.2 hg hr⟩) _) (ownFrom_below (Nat.le_refl _) hB5.size))
      (fun c => OwnFrom.and (Own.from (fun s A B row hs hg hr => by obtain ⟨p, x, h1, h2, h3, h4⟩ := hs; exact ⟨p, x, h1, h2, h3, boxed_own _ _ (fun (p : List Int) => Value.int .i64 (wrap64 ((p.length : Nat) : Int))) p A B row h4 hg hr⟩) _) (ownFrom_below (Nat.le_refl _) hB5.size))
      ⟨⟨⟨fun y hy => (by cases hy), z7_1⟩, g15⟩, hB5⟩ ?aa1 ?assign1 ?body1 ?done1 ?stop1
     case assign1 =>
      intro lp x W K hK
      gi_wp2
      exact hK
     case body1 =>
      rintro lp pre x W ⟨⟨⟨hlt, hL⟩, hR⟩, hB⟩ hN
      have hwi := wrap_inc pre.length
      generalize hv : wrap64 ((pre.length : Nat) : Int) = v at hL hwi
      have cL : W.cell? ⟨w3.heap.size, 0, none⟩ = some (.int .i64 v) := (qb0 hL 0).trans rfl
      have fL := qa0 hL 0
      have cR : W.cell? ⟨w.heap.size + 1, 0, none⟩ = some (.int .i64 (a1)) := (qb0 hR 0).trans rfl
      have hne : w3.heap.size ≠ w.heap.size + 1 := by omega
      have hne2 : w.heap.size + 1 ≠ w3.heap.size := by omega
      have HWI := Aside0.mk hwi
      clear hwi
      by_cases hx : x > a1
      ·have hxb : decide (x > a1) = true := decide_eq_true hx
       have hxc : decide (a1 < x) = true := hxb
       gi_wp2
       exact ⟨KeepsOthers.refl _, ⟨pre, x, rfl, rfl, ⟨hlt, hx⟩, by rw [hv]; exact hL⟩, hB⟩
      ·have hxb : decide (x > a1) = false := decide_eq_false hx
       have hxc : decide (a1 < x) = false := hxb
       gi_wp2
       refine ⟨KeepsOthers.setCell _ _ _, ⟨(Below.refl _ W).setCell (p := ⟨w3.heap.size, 0, none⟩) (by show w.heap.size ≤ w3.heap.size; omega) _, Below.heap_setCell W _ _ _ (by show _ ≠ w3.heap.size; omega), Below.heap_setCell W _ _ _ (by show _ ≠ w3.heap.size; omega)⟩, ⟨⟨fun y hy => ?_, ?_⟩, hR.other hne2 _⟩, hB.setCell (p := ⟨w3.heap.size, 0, none⟩) (by show w.heap.size ≤ w3.heap.size; omega) _⟩
       ·rcases List.mem_append.1 hy with hy | hy
        ·exact hlt y hy
        ·rw [List.mem_singleton.1 hy]; omega
       ·rw [show ((pre ++ [x]).length : Nat) = pre.length + 1 by simp, ← HWI.out]
        exact qy0 hL 0 _ rfl
     case done1 =>
      rintro D ys W hD rfl ⟨⟨⟨hlt, hL⟩, hR⟩, hB⟩ hK
      have cL : W.cell? ⟨w3.heap.size, 0, none⟩ = some (.int .i64 (wrap64 ((ys.length : Nat) : Int))) := (qb0 hL 0).trans rfl
      rw [tw_all hlt] at hr
      gi_wp2
      refine ⟨by simp, .inl ⟨_, _, rfl, run_takeDeferred hK, ?_⟩⟩
      exact ⟨_, results_tmp rfl _ _ _, z7_0, hB.trans (belowK_b (w := w) (Nat.le_refl _) W D _ _ (by omega) hK rfl rfl)⟩
     case stop1 =>
      rintro D c pre W hD hpre ⟨⟨p, x, rfl, rfl, hp, hL⟩, hB⟩ hK
      have cL : W.cell? ⟨w3.heap.size, 0, none⟩ = some (.int .i64 (wrap64 ((p.length : Nat) : Int))) := (qb0 hL 0).trans rfl
      obtain ⟨t, ht⟩ := hpre
      rw [← ht, List.append_assoc, List.singleton_append, tw_stop hp.2 hp.1] at hr
      gi_wp2
      refine ⟨by simp, .inl ⟨_, _, rfl, run_takeDeferred hK, ?_⟩⟩
      exact ⟨_, results_tmp rfl _ _ _, z7_0, hB.trans (belowK_b (w := w) (Nat.le_refl _) W D _ _ (by omega) hK rfl rfl)⟩
    ·have c1b : decide (a2 < a1) = false := decide_eq_false c1
     rw [s1] at e4
     rw [s2, s3] at hr
     gi_upto_region 7 with (first | (refine ⟨trivial, ?_⟩; gi_at_call 24; refine (callsIn_wide.2 (impl_CalOk.calls k a0_0 A0_1 c0_1 l0_1 true wa (Kd.qd1 hr0_1 hB0) hc0_1 e1)).mono ?_; rintro e w1 ⟨rfl, hb⟩; have g0a := bl_ hb g0; have g1a := bl_ hb g1; have hB1 := hB0.trans (hb.mono hB0.size); have q1' : w1.cell? ⟨w.heap.size + 1, 0, none⟩ = some (.int .i64 a2) := (qb0 g1a 0).trans rfl) | (refine ⟨trivial, ?_⟩; gi_at_call 26; with_reducible refine (callsIn_wide.2 (isDay_b a1 true w1 e2)).mono ?_; rintro e w2 ⟨rfl, hb⟩; have g0b := bl_ hb g0a; have g1b := bl_ hb g1a; have hB2 := hB1.trans (hb.mono hB1.size); have q1'' : w2.cell? ⟨w.heap.size + 1, 0, none⟩ = some (.int .i64 a2) := (qb0 g1b 0).trans rfl) | (refine ⟨trivial, ?_⟩; gi_at_call 26; with_reducible refine (callsIn_wide.2 (isDay_b a2 true w2 e3)).mono ?_; rintro e w3 ⟨rfl, hb⟩; have g0c := bl_ hb g0b; have g1c := bl_ hb g1b; have hB3 := hB2.trans (hb.mono hB2.size); have q3 : w3.cell? ⟨w.heap.size + 1, 0, none⟩ = some (.int .i64 a2) := (qb0 g1c 0).trans rfl; have f3 := qa0 g1c 0; have q30 : w3.cell? ⟨w.heap.size, 0, none⟩ = some (.int .i64 a0_0) := (qb0 g0c 0).trans rfl; have q31 : w3.cell? ⟨w.heap.size, 1, none⟩ = some (.slice A0_1 l0_1.length c0_1) := (qb0 g0c 1).trans rfl))
     have hLR : w.heap.size + 1 < w3.heap.size := qu0 g1c
     have gL : ((w3).alloc (.cells #[.int .i64 0] 3)).heap[w3.heap.size]? = some (.cells #[.int .i64 0] 3 (0, 0)) := by have := World.alloc_heap_new (w3) (.cells #[.int .i64 0] 3); simpa using this
     have g0d : ((w3).alloc (.cells #[.int .i64 0] 3)).heap[w.heap.size]? = some (.cells #[.int .i64 a0_0, .slice A0_1 l0_1.length c0_1] 26 (0, 0)) := qg0 (g0c) _
     have g1d : ((w3).alloc (.cells #[.int .i64 0] 3)).heap[w.heap.size + 1]? = some (.cells #[.int .i64 (a2)] 3 (0, 0)) := qg0 (g1c) _
     have hB4 : Below w.heap.size w ((w3).alloc (.cells #[.int .i64 0] 3)) := (hB3).alloc (hB3).size _
     generalize ((w3).alloc (.cells #[.int .i64 0] 3)) = w4 at gL g0d g1d hB4 ⊢
     have q40 : w4.cell? ⟨w.heap.size, 0, none⟩ = some (.int .i64 a0_0) := (qb0 g0d 0).trans rfl
     have q41 : w4.cell? ⟨w.heap.size, 1, none⟩ = some (.slice A0_1 l0_1.length c0_1) := (qb0 g0d 1).trans rfl
     have hL4 : w3.heap.size < w4.heap.size := qu0 gL
     gi_wp2_with (refine ⟨trivial, ?_⟩; gi_at_call 28; refine (callsIn_wide.2 (workdays_in a0_0 A0_1 c0_1 l0_1.length (wrap64 (a1 + 1)) 1 w4)).mono ?_; rintro e w5 ⟨rfl, hb5, hf5, hs5, hc5⟩)
     have gL5 := bl_ hb5 gL
     have g15 := bl_ hb5 g1d
     have hB5 := hB4.trans (hb5.mono hB4.size)
     have hsz5 := hb5.size
     refine wpIn_rangeFunc_ownF (F := Fence.wide) rfl (by omega) (gf := 47) (lb := #[.pointer (some ⟨w4.heap.size + 1, 0, none⟩), .pointer (some ⟨w4.heap.size + 2, 0, none⟩), .pointer (some ⟨w4.heap.size, 0, none⟩)]) rfl trivial (enters_of Try.func47 (by kernel_rfl) rfl)
      (wd_stops k a0_0 A0_1 c0_1 l0_1 1 (wrap64 (a1 + 1)) k xs e4 (3 - 1) (by omega) (w4.heap.size + 1) (w4.heap.size + 2) w4.heap.size w hr0_1 hc0_1 w5 hf5 hs5 hc5 hB5) KpW_t (KpW_b hB5.size (qu0 hs5) (qu0 hc5)) (Below.refl _ _) (fun _ => rfl)
      (fun pre W => (((∀ y ∈ pre, y ≤ a2) ∧ Boxed W w3.heap.size 3 (.int .i64 (wrap64 ((pre.length : Nat) : Int)))) ∧ Boxed W (w.heap.size + 1) 3 (.int .i64 (a2))) ∧ Below w.heap.size w W)
      (fun c pre W => (∃ p x, c = Code.exit 0 ∧ pre = p ++ [x] ∧ ((∀ y ∈ p, y ≤ a2) ∧ a2 < x) ∧ Boxed W w3.heap.size 3 (.int .i64 (wrap64 ((p.length : Nat) : Int)))) ∧ Below w.heap.size w W)
      (OwnFrom.and (Own.from (fun s A B row hs hg hr => ⟨⟨hs.1.1, boxed_own _ _ (fun (p : List Int) => Value.int .i64 (wrap64 ((p.length : Nat) : Int))) s A B row hs.1.2 hg hr⟩, boxed_own _ _ (fun (_ : List Int) => Value.int .i64 (a2)) s A B row hs.2 hg hr⟩) _) (ownFrom_below (Nat.le_refl _) hB5.size))
      (fun c => OwnFrom.and (Own.from (fun s A B row hs hg hr => by obtain ⟨p, x, h1, h2, h3, h4⟩ := hs; exact ⟨p, x, h1, h2, h3, boxed_own _ _ (fun (p : List Int) => Value.int .i64 (wrap64 ((p.length : Nat) : Int))) p A B row h4 hg hr⟩) _) (ownFrom_below (Nat.le_refl _) hB5.size))
      ⟨⟨⟨fun y hy => (by cases hy), z7_1⟩, g15⟩, hB5⟩ ?aa2 ?assign2 ?body2 ?done2 ?stop2
     case assign2 =>
      intro lp x W K hK
      gi_wp2
      exact hK
     case body2 =>
      rintro lp pre x W ⟨⟨⟨hlt, hL⟩, hR⟩, hB⟩ hN
      have hwi := wrap_inc pre.length
      generalize hv : wrap64 ((pre.length : Nat) : Int) = v at hL hwi
      have cL : W.cell? ⟨w3.heap.size, 0, none⟩ = some (.int .i64 v) := (qb0 hL 0).trans rfl
      have fL := qa0 hL 0
      have cR : W.cell? ⟨w.heap.size + 1, 0, none⟩ = some (.int .i64 (a2)) := (qb0 hR 0).trans rfl
      have hne : w3.heap.size ≠ w.heap.size + 1 := by omega
      have hne2 : w.heap.size + 1 ≠ w3.heap.size := by omega
      have HWI := Aside0.mk hwi
      clear hwi
      by_cases hx : x > a2
      ·have hxb : decide (x > a2) = true := decide_eq_true hx
       have hxc : decide (a2 < x) = true := hxb
       gi_wp2
       exact ⟨KeepsOthers.refl _, ⟨pre, x, rfl, rfl, ⟨hlt, hx⟩, by rw [hv]; exact hL⟩, hB⟩
      ·have hxb : decide (x > a2) = false := decide_eq_false hx
       have hxc : decide (a2 < x) = false := hxb
       gi_wp2
       refine ⟨KeepsOthers.setCell _ _ _, ⟨(Below.refl _ W).setCell (p := ⟨w3.heap.size, 0, none⟩) (by show w.heap.size ≤ w3.heap.size; omega) _, Below.heap_setCell W _ _ _ (by show _ ≠ w3.heap.size; omega), Below.heap_setCell W _ _ _ (by show _ ≠ w3.heap.size; omega)⟩, ⟨⟨fun y hy => ?_, ?_⟩, hR.other hne2 _⟩, hB.setCell (p := ⟨w3.heap.size, 0, none⟩) (by show w.heap.size ≤ w3.heap.size; omega) _⟩
       ·rcases List.mem_append.1 hy with hy | hy
        ·exact hlt y hy
        ·rw [List.mem_singleton.1 hy]; omega
       ·rw [show ((pre ++ [x]).length : Nat) = pre.length + 1 by simp, ← HWI.out]
        exact qy0 hL 0 _ rfl
     case done2 =>
      rintro D ys W hD rfl ⟨⟨⟨hlt, hL⟩, hR⟩, hB⟩ hK
      have cL : W.cell? ⟨w3.heap.size, 0, none⟩ = some (.int .i64 (wrap64 ((ys.length : Nat) : Int))) := (qb0 hL 0).trans rfl
      rw [tw_all hlt] at hr
      gi_wp2
      refine ⟨by simp, .inl ⟨_, _, rfl, run_takeDeferred hK, ?_⟩⟩
      exact ⟨_, results_tmp rfl _ _ _, z7_0, hB.trans (belowK_b (w := w) (Nat.le_refl _) W D _ _ (by omega) hK rfl rfl)⟩
     case stop2 =>
      rintro D c pre W hD hpre ⟨⟨p, x, rfl, rfl, hp, hL⟩, hB⟩ hK
      have cL : W.cell? ⟨w3.heap.size, 0, none⟩ = some (.int .i64 (wrap64 ((p.length : Nat) : Int))) := (qb0 hL 0).trans rfl
      obtain ⟨t, ht⟩ := hpre
      rw [← ht, List.append_assoc, List.singleton_append, tw_stop hp.2 hp.1] at hr
      gi_wp2
      refine ⟨by simp, .inl ⟨_, _, rfl, run_takeDeferred hK, ?_⟩⟩
      exact ⟨_, results_tmp rfl _ _ _, z7_0, hB.trans (belowK_b (w := w) (Nat.le_refl _) W D _ _ (by omega) hK rfl rfl)⟩

end Go.Proofs.Ytggfggmmecbdnaa.PFnWorkBack
