/- Lines by a program (a changed copy of the kit's print: this repo's wip/tools): Go functions as Lean functions, and proofs that the calls answer so. -/
import Derived.Test.YtkkdmmefnicmaaaZPFnChainedx0
import Derived.Test.YtkkdmmefnicmaaaZPFnChainedx1
import Derived.Test.YtkkdmmefnicmaaaZPFnChainedx2
import Derived.Test.YtkkdmmefnicmaaaZPFnChainedx3
namespace Go.Proofs.Ytkkdmmefnicmaaa.PFnChained
open Go.RowKit Go.Proofs.YtkkdmmefnicmaaaW.PrintWords Go.Proofs.YtkkdmmefnicmaaaW.PrintLast Go.Proofs.YtkkdmmefnicmaaaW.PrintMore
/-- Closing blocks told once. -/
theorem z4_0 {P : Prop} (h : P := by repeat (first | (with_reducible first | exact HI0.out | apply IsS186.alloc | apply IsS186.drewN | apply IsS186.drew | apply IsS186.set_1 | apply IsS186.set_2 | refine IsS186.far ?_ NB0_213.out _ | refine IsS186.far ?_ NB0_214.out _) | exact HI0.out)) : P := h
theorem z4_1 {P : Prop} (h : P := by repeat (first | (with_reducible first | exact HK.out | apply Kept.alloc | apply Kept.drewN | apply Kept.drew | refine Kept.setCell ?_ (.inl (.inr rfl)) _ | refine Kept.setCell ?_ (.inr GW213.out) _ | refine Kept.setCell ?_ (.inr GW214.out) _) | exact HK.out)) : P := h
theorem z4_2 {P : Prop} (h : P := by repeat (first | (with_reducible first | exact HB.out | apply qj0 | apply qh0 | apply qi0 | refine qk0 ?_ (IsS186.ge HI0.out) | refine qk0 ?_ GE213.out | refine qk0 ?_ GE214.out) | exact HB.out)) : P := h
theorem z4_3 {P : Prop} (h : P := by (with_reducible repeat (first | refine qe0 ?_ _ | refine qf0 ?_ | refine qd0 ?_ _)); exact BK213.out) : P := h
theorem z4_4 {P : Prop} (h : P := by (with_reducible repeat (first | refine qe0 ?_ _ | refine qf0 ?_ | refine qd0 ?_ _)); exact BK214.out) : P := h
theorem z4_5 {P : Prop} (h : P := by (try simp only [List.map_toArray, List.map_cons, List.map_nil]); first | done | rfl | (simp only [List.length_drop, List.length_take]; rfl)) : P := h
theorem z4_6 {P : Prop} (h : P := by (with_reducible repeat (first | apply Kd.qa2 | apply Kd.qz1 | apply Kd.qd2)); exact HO_214000.out) : P := h
theorem z4_7 {P : Prop} (h : P := by repeat (first | (with_reducible first | exact HI0.out | apply IsS186.alloc | apply IsS186.drewN | apply IsS186.drew | apply IsS186.set_1 | apply IsS186.set_2 | refine IsS186.far ?_ NB0_213.out _) | exact HI0.out)) : P := h
theorem z4_8 {P : Prop} (h : P := by (with_reducible repeat (first | apply Kd.qa2 | apply Kd.qz1 | apply Kd.qd2)); exact HO1_0.out) : P := h
theorem z4_9 {P : Prop} (h : P := by repeat (first | (with_reducible first | exact HI0.out | apply IsS186.alloc | apply IsS186.drewN | apply IsS186.drew | apply IsS186.set_1 | apply IsS186.set_2) | exact HI0.out)) : P := h
theorem z4_10 {P : Prop} (h : P := by repeat (first | (with_reducible first | exact HK.out | apply Kept.alloc | apply Kept.drewN | apply Kept.drew | refine Kept.setCell ?_ (.inl (.inr rfl)) _ | refine Kept.setCell ?_ (.inr GW213.out) _) | exact HK.out)) : P := h
theorem z4_11 {P : Prop} (h : P := by repeat (first | (with_reducible first | exact HB.out | apply qj0 | apply qh0 | apply qi0 | refine qk0 ?_ (IsS186.ge HI0.out) | refine qk0 ?_ GE213.out) | exact HB.out)) : P := h
theorem z4_12 {P : Prop} (h : P := by kernel_rfl) : P := h
theorem z4_13 {P : Prop} (h : P := by repeat (first | (with_reducible first | exact HB.out | apply qj0 | apply qh0 | apply qi0 | refine qk0 ?_ (IsS186.ge HI0.out)) | exact HB.out)) : P := h
theorem z4_14 {P : Prop} (h : P := by repeat (first | (with_reducible first | exact HK.out | apply Kept.alloc | apply Kept.drewN | apply Kept.drew | refine Kept.setCell ?_ (.inl (.inr rfl)) _) | exact HK.out)) : P := h
theorem z4_15 {P : Prop} (h : P := by first | rfl | (simp [errW_none, errW_some] <;> rfl) | (simp [*, errW_none, errW_some] <;> rfl)) : P := h
/-- Runs of true and false, by turns. -/
def rb4l : Bool → List Nat → List Bool
 | _, [] => []
 | b, n :: r => List.replicate n b ++ rb4l (!b) r
def rb4 (l : List Nat) : Array Bool := (rb4l true l).toArray
attribute [local go_sem] max2_int min2_int max_two min_two max_three min_three max_four min_four   -- for this text's walks alone
set_option linter.unusedVariables false
set_option linter.unusedSimpArgs false

-- EXTERN loop.example/g00040/spec.l5SpoilLedger
/-! ### spec_l5SpoilLedger: function 121 -/
-- @rounds
-- @making
/-- A row of other types than those that a call was given to write. -/
theorem kept_types {α β : Type} {d : Kd α} {d' : Kd β} {e e' base base' g : Nat} {w w1 : World} {ok ok' : Nat → Prop} {v : Value} {xs : List α} (h : Kd.R d e w base (fun k => ok k ∧ k ≠ g) v xs)
  (hk : Kept w w1 (fun k => (ok' k ∧ base' ≤ k ∧ k < w.heap.size ∧ ∃ q, q ∈ e' :: d'.E ∧ ∃ cells, w.heap[k]? = some (.cells cells q (0, 0))) ∨ k = g)) (ht : ∀ q, q ∈ e :: d.E → ∀ q', q' ∈ e' :: d'.E → q ≠ q') : Kd.R d e w1 base ok v xs :=
 Kd.qm0 (Kd.R_kept (Kd.R_bound h) hk (fun k ho hs => by
  obtain ⟨ho1, _, _, q, hq, c, hc⟩ := ho
  rcases hs with ⟨_, _, _, q', hq', c', hc'⟩ | rfl
  ·rw [hc] at hc'
   injection hc' with h1
   injection h1 with _ h2 _
   exact ht q hq q' hq' h2
  ·exact ho1.2 rfl)) (fun _ hk => hk.1.1)
mutual
def spec_l5SpoilLedger.j0 : Nat → List Int → Int → Int → List (S98) → Int → Option ((List (S98)) × Int × Int × Int)
 | 0, _, _, _, _, _ => none
 | k + 1, x1000, x1001, x1002, x214000, x214001 => (spec_l1Once.f x1000 x1001 x1002 20).bind fun bt224 => (if bt224.1 = true then (spec_l5SpoilLedger.j1 k (decide ((x214000.length : Int) > 0)) x1000 bt224.2.1 bt224.2.2 x214000 x214001) else (spec_l5SpoilLedger.j1 k false x1000 bt224.2.1 bt224.2.2 x214000 x214001))
def spec_l5SpoilLedger.j1 : Nat → Bool → List Int → Int → Int → List (S98) → Int → Option ((List (S98)) × Int × Int × Int)
 | 0, _, _, _, _, _, _ => none
 | k + 1, x25, x1000, x1001, x1002, x214000, x214001 => if x25 = true then ((spec_l1Below.f x1000 x1001 x1002 (x214000.length : Int)).bind fun bt227 => (if 0 ≤ bt227.1 then (if bt227.1 < (x214000.length : Int) then ((spec_l5SpoilEntry.f k x1000 bt227.2.1 bt227.2.2 (rd_T98 x214000 bt227.1).f0 (rd_T98 x214000 bt227.1).f1 (rd_T98 x214000 bt227.1).f2 (rd_T98 x214000 bt227.1).f3).bind fun bt231 => ((some (x214000.set (bt227.1 : Int).toNat (⟨bt231.1, bt231.2.1, bt231.2.2.1, bt231.2.2.2.1⟩ : S98) : List (S98))).bind fun y239 => ((spec_l1Once.f x1000 bt231.2.2.2.2.1 bt231.2.2.2.2.2 2).bind fun bt240 => (if bt240.1 = true then ((spec_HeadOf.f k y239).bind fun t243 => (some (y239, t243, bt240.2.1, bt240.2.2))) else (some (y239, x214001, bt240.2.1, bt240.2.2)))))) else (none)) else (none))) else (some (x214000, x214001, x1001, x1002))
end
def spec_l5SpoilLedger.f (k : Nat) (s0_0 : List Int) (s0_1 : Int) (s0_2 : Int) (l1_0 : List (S98)) (a1_1 : Int) : Option ((List (S98)) × Int × Int × Int) := (spec_l1Once.f s0_0 s0_1 s0_2 20).bind fun bt215 => (if bt215.1 = true then ((spec_l1PickInt.f s0_0 bt215.2.1 bt215.2.2 (([1, wrap64 (-a1_1)] : List Int))).bind fun bt221 => (spec_l5SpoilLedger.j0 k s0_0 bt221.2.1 bt221.2.2 l1_0 (wrap64 (a1_1 + bt221.1)))) else (spec_l5SpoilLedger.j0 k s0_0 bt215.2.1 bt215.2.2 l1_0 a1_1))
theorem spec_l5SpoilLedger.mono_l : ∀ k, (∀ y0 y1 y2 y3 y4, LeO (spec_l5SpoilLedger.j0 k y0 y1 y2 y3 y4) (spec_l5SpoilLedger.j0 (k + 1) y0 y1 y2 y3 y4)) ∧ (∀ y0 y1 y2 y3 y4 y5, LeO (spec_l5SpoilLedger.j1 k y0 y1 y2 y3 y4 y5) (spec_l5SpoilLedger.j1 (k + 1) y0 y1 y2 y3 y4 y5))
 | 0 => ⟨fun _ _ _ _ _ r h => by simp [spec_l5SpoilLedger.j0] at h, fun _ _ _ _ _ _ r h => by simp [spec_l5SpoilLedger.j1] at h⟩
 | k + 1 => by
  obtain ⟨ih0, ih1⟩ := spec_l5SpoilLedger.mono_l k
  refine ⟨?_, ?_⟩
  ·intro y0 y1 y2 y3 y4
   unfold spec_l5SpoilLedger.j0
   repeat' first
   | (with_reducible exact ih0 _ _ _ _ _)
   | (with_reducible exact ih1 _ _ _ _ _ _)
   | (with_reducible exact spec_HeadOf.mono _ _)
   | (with_reducible exact spec_l5SpoilEntry.mono _ _ _ _ _ _ _ _)
   | (with_reducible exact LeO.refl _)
   | (with_reducible exact LeO.none _)
   | (with_reducible refine LeO.ite ?_ ?_)
   | (with_reducible refine LeO.bind ?_ (fun _ => ?_))
   | exact ih0 _ _ _ _ _
   | exact ih1 _ _ _ _ _ _
   | exact spec_HeadOf.mono _ _
   | exact spec_l5SpoilEntry.mono _ _ _ _ _ _ _ _
   | exact LeO.none _
   | refine LeO.ite ?_ ?_
   | refine LeO.bind ?_ (fun _ => ?_)
  ·intro y0 y1 y2 y3 y4 y5
   unfold spec_l5SpoilLedger.j1
   repeat' first
   | (with_reducible exact ih0 _ _ _ _ _)
   | (with_reducible exact ih1 _ _ _ _ _ _)
   | (with_reducible exact spec_HeadOf.mono _ _)
   | (with_reducible exact spec_l5SpoilEntry.mono _ _ _ _ _ _ _ _)
   | (with_reducible exact LeO.refl _)
   | (with_reducible exact LeO.none _)
   | (with_reducible refine LeO.ite ?_ ?_)
   | (with_reducible refine LeO.bind ?_ (fun _ => ?_))
   | exact ih0 _ _ _ _ _
   | exact ih1 _ _ _ _ _ _
   | exact spec_HeadOf.mono _ _
   | exact spec_l5SpoilEntry.mono _ _ _ _ _ _ _ _
   | exact LeO.none _
   | refine LeO.ite ?_ ?_
   | refine LeO.bind ?_ (fun _ => ?_)
theorem spec_l5SpoilLedger.mono : ∀ a0 a1 a2 a3 a4 k, LeO (spec_l5SpoilLedger.f k a0 a1 a2 a3 a4) (spec_l5SpoilLedger.f (k + 1) a0 a1 a2 a3 a4) := by
 intro a0 a1 a2 a3 a4 k
 obtain ⟨ih0, ih1⟩ := spec_l5SpoilLedger.mono_l k
 unfold spec_l5SpoilLedger.f
 repeat' first
   | (with_reducible exact ih0 _ _ _ _ _)
   | (with_reducible exact ih1 _ _ _ _ _ _)
   | (with_reducible exact spec_HeadOf.mono _ _)
   | (with_reducible exact spec_l5SpoilEntry.mono _ _ _ _ _ _ _ _)
   | (with_reducible exact LeO.refl _)
   | (with_reducible exact LeO.none _)
   | (with_reducible refine LeO.ite ?_ ?_)
   | (with_reducible refine LeO.bind ?_ (fun _ => ?_))
   | exact ih0 _ _ _ _ _
   | exact ih1 _ _ _ _ _ _
   | exact spec_HeadOf.mono _ _
   | exact spec_l5SpoilEntry.mono _ _ _ _ _ _ _ _
   | exact LeO.none _
   | refine LeO.ite ?_ ?_
   | refine LeO.bind ?_ (fun _ => ?_)
def spec_l5SpoilLedger.T2 : Bool × List (List Nat × List Nat) := (true, [([], []), ([0], [0]), ([], []), ([], []), ([3], [3]), ([4], [4]), ([5], [5]), ([2, 6], [2, 6]), ([1, 7], [1, 7]), ([0, 1, 2, 3, 4, 5, 6, 7, 8], []), ([9, 8, 7, 0, 1, 2, 3, 4, 5, 6, 7, 8], [8, 9])])
def spec_l5SpoilLedger.B2 : List Nat := [0, 1, 0, 0, 8, 24, 56, 124, 255, 511, 1023]
theorem spec_l5SpoilLedger.tab2 : rtab .any (opsOf Try.f121 2) = spec_l5SpoilLedger.T2 := by kernel_rfl
theorem spec_l5SpoilLedger.bits2 : waitsOk spec_l5SpoilLedger.T2.2 spec_l5SpoilLedger.B2 = true := by kernel_rfl
def spec_l5SpoilLedger.T5 : Bool × List (List Nat × List Nat) := (true, [([], []), ([0], [0]), ([], []), ([], []), ([], []), ([4], [4]), ([], []), ([5, 6], [5, 6]), ([7], [7]), ([3, 8], [3, 8]), ([1, 2, 0, 1, 2, 3, 4, 5, 6, 7, 8, 9], [1, 2]), ([10, 9, 9, 0, 1, 2, 3, 4, 5, 6, 7, 8, 9], [9, 10])])
def spec_l5SpoilLedger.B5 : List Nat := [0, 1, 0, 0, 0, 16, 0, 112, 240, 504, 1023, 2047]
theorem spec_l5SpoilLedger.tab5 : rtab .any (opsOf Try.f121 5) = spec_l5SpoilLedger.T5 := by kernel_rfl
theorem spec_l5SpoilLedger.bits5 : waitsOk spec_l5SpoilLedger.T5.2 spec_l5SpoilLedger.B5 = true := by kernel_rfl
set_option maxHeartbeats 8000000 in
set_option maxRecDepth 100000 in
theorem spec_l5SpoilLedger.calls (k : Nat) (g : Nat) (s0_0 : List Int) (s0_1 : Int) (s0_2 : Int) (P1_0_ : Nat → Prop) (u9000_ : Value) (l1_0 : List (S98)) (a1_1 : Int) (r1 : List (S98)) (r2 : Int) (r3 : Int) (r4 : Int) (w0 w : World) (hI : IsS186 w0 w g s0_0 s0_1 s0_2) (hB : Below w0.heap.size w0 w) (ho1_0 : Kd.S k98 98 w w0.heap.size P1_0_ u9000_ l1_0) (h : spec_l5SpoilLedger.f k s0_0 s0_1 s0_2 l1_0 a1_1 = some (r1, r2, r3, r4)) :
  Calls Try.prog 121 #[.pointer (some ⟨g, 0, none⟩), .agg #[u9000_, .int .i64 a1_1]] w fun e w' => ∃ v0_ : Value, e = .returned (.agg #[v0_, .int .i64 r2]) ∧ Kd.S k98 98 w' w0.heap.size (fun k_ => (P1_0_ k_ ∨ w.heap.size ≤ k_)) v0_ r1 ∧ IsS186 w0 w' g s0_0 r3 r4 ∧ Below w0.heap.size w0 w' ∧ Kept w w' (fun k_ => (P1_0_ k_) ∨ k_ = g) := by
 have hu169 := Try.underlying169
 have hu98 := Try.underlying98
 have HO1_0 := Aside0.mk (show Kd.S k98 98 w w0.heap.size (fun k_ => (P1_0_ k_ ∨ w.heap.size ≤ k_)) u9000_ l1_0 from Kd.qq1 ho1_0 (fun k_ hk => (.inl hk)))
 have HI0 := Aside0.mk hI
 have HL := Aside0.mk hB.size
 clear hI
 have HK := Aside0.mk (Kept.refl w (fun k_ => (P1_0_ k_) ∨ k_ = g))
 have HW0 := Aside0.mk hB.size
 have HB := Aside0.mk hB
 clear hB
 have H : ((spec_l1Once.f s0_0 s0_1 s0_2 20).bind fun bt215 => (if bt215.1 = true then ((spec_l1PickInt.f s0_0 bt215.2.1 bt215.2.2 (([1, wrap64 (-a1_1)] : List Int))).bind fun bt221 => (spec_l5SpoilLedger.j0 k s0_0 bt221.2.1 bt221.2.2 l1_0 (wrap64 (a1_1 + bt221.1)))) else (spec_l5SpoilLedger.j0 k s0_0 bt215.2.1 bt215.2.2 l1_0 a1_1))) = some (r1, r2, r3, r4) := h
 clear h
 replace H := Option.bind_eq_some_iff.mp H
 obtain ⟨⟨t215, t216, t217⟩, A30, H⟩ := H
 replace H : (if t215 = true then ((spec_l1PickInt.f s0_0 t216 t217 (([1, wrap64 (-a1_1)] : List Int))).bind fun bt221 => (spec_l5SpoilLedger.j0 k s0_0 bt221.2.1 bt221.2.2 l1_0 (wrap64 (a1_1 + bt221.1)))) else (spec_l5SpoilLedger.j0 k s0_0 t216 t217 l1_0 a1_1)) = some (r1, r2, r3, r4) := H
 have A3 := Aside0.mk A30
 clear A30
 have HC4 := Aside0.mk H
 clear H
 obtain ⟨Ao5, co5, eo5⟩ := Kd.S_slice HO1_0.out
 subst eo5
 go_enter Try.func121, Try.ntmps121
 go_upto_if 7 with (first | ((with_reducible refine qa1 (N := 3) rfl ?_); (try (refine gate_guard (by rfl) ?_; dsimp only)); refine qe1 ?hg (N := 3) ?hd (cs := #[.slice Ao5 l1_0.length co5, .int .i64 a1_1]) (t := 169) ?hr ?_; (case hd => rfl); (case hg => rfl); (case hr => first | (go_simp; done) | (go_simp; rfl)); intro gb213 hg w6 hbox hb; have n0_ := Aside0.mk (Kd.S_below z4_8 hb); have n1_ := Aside0.mk (IsS186.below z4_9 hb); have n2_ := Aside0.mk (Kept.below (S := (fun k_ => (P1_0_ k_) ∨ k_ = g)) z4_14 hb); have n3_ := Aside0.mk (ql0 z4_13 hb); have n4_ := Aside0.mk (hbox); have n5_ := Aside0.mk ((by rw [hg]; exact (by first | exact HK.out.1 | exact (show Kept w _ (fun k_ => (P1_0_ k_) ∨ k_ = g) from z4_14).1) : w.heap.size ≤ gb213)); have n6_ := Aside0.mk ((by rw [hg]; exact (qv0 z4_13) : w0.heap.size ≤ gb213)); have n7_ := Aside0.mk ((by rw [hg]; exact Nat.ne_of_lt (IsS186.lt (show IsS186 w0 _ g s0_0 s0_1 s0_2 from z4_9)) : g ≠ gb213)); have n8_ := Aside0.mk ((by rw [hg]; exact Nat.ne_of_gt (IsS186.lt (show IsS186 w0 _ g s0_0 s0_1 s0_2 from z4_9)) : gb213 ≠ g)); clear HO1_0; clear HI0; clear HK; clear HB; have HO1_0 := n0_; have HI0 := n1_; have HK := n2_; have HB := n3_; have BK213 := n4_; have GW213 := n5_; have GE213 := n6_; have NB0_213 := n7_; have NB213_0 := n8_; clear n0_ n1_ n2_ n3_ n4_ n5_ n6_ n7_ n8_; clear hb hbox hg) | ((with_reducible refine qa1 (N := 4) rfl ?_); (try (refine gate_guard (by rfl) ?_; dsimp only)); refine qe1 ?hg (N := 4) ?hd (cs := #[.slice none 0 0, .int .i64 0]) (t := 169) ?hr ?_; (case hd => rfl); (case hg => rfl); (case hr => first | (go_simp; done) | (go_simp; rfl)); intro gb214 hg w7 hbox hb; have n0_ := Aside0.mk (Kd.S_below z4_8 hb); have n1_ := Aside0.mk (IsS186.below z4_7 hb); have n2_ := Aside0.mk (qz0 (g := gb213) (o := .cells #[.slice Ao5 l1_0.length co5, .int .i64 a1_1] 169 (0, 0)) z4_3 hb); have n3_ := Aside0.mk (Kept.below (S := (fun k_ => (P1_0_ k_) ∨ k_ = g)) z4_10 hb); have n4_ := Aside0.mk (ql0 z4_11 hb); have n5_ := Aside0.mk (hbox); have n6_ := Aside0.mk ((by rw [hg]; exact (by first | exact HK.out.1 | exact (show Kept w _ (fun k_ => (P1_0_ k_) ∨ k_ = g) from z4_10).1) : w.heap.size ≤ gb214)); have n7_ := Aside0.mk ((by rw [hg]; exact (qv0 z4_11) : w0.heap.size ≤ gb214)); have n8_ := Aside0.mk ((by rw [hg]; exact Nat.ne_of_lt (blk_lt (g := gb213) (o := .cells #[.slice Ao5 l1_0.length co5, .int .i64 a1_1] 169 (0, 0)) z4_3) : gb213 ≠ gb214)); have n9_ := Aside0.mk ((by rw [hg]; exact Nat.ne_of_gt (blk_lt (g := gb213) (o := .cells #[.slice Ao5 l1_0.length co5, .int .i64 a1_1] 169 (0, 0)) z4_3) : gb214 ≠ gb213)); have n10_ := Aside0.mk ((by rw [hg]; exact Nat.ne_of_lt (IsS186.lt (show IsS186 w0 _ g s0_0 s0_1 s0_2 from z4_7)) : g ≠ gb214)); have n11_ := Aside0.mk ((by rw [hg]; exact Nat.ne_of_gt (IsS186.lt (show IsS186 w0 _ g s0_0 s0_1 s0_2 from z4_7)) : gb214 ≠ g)); clear HO1_0; clear HI0; clear BK213; clear HK; clear HB; have HO1_0 := n0_; have HI0 := n1_; have BK213 := n2_; have HK := n3_; have HB := n4_; have BK214 := n5_; have GW214 := n6_; have GE214 := n7_; have NB213_214 := n8_; have NB214_213 := n9_; have NB0_214 := n10_; have NB214_0 := n11_; clear n0_ n1_ n2_ n3_ n4_ n5_ n6_ n7_ n8_ n9_ n10_ n11_; clear hb hbox hg) | ((with_reducible refine qg0 (f := 63) rfl ?_); refine qt0 (some 7) rfl rfl Try.func63 z4_12 rfl #[.pointer (some ⟨g, 0, none⟩), .int .i64 20] rfl z4_5 ?_; (with_reducible refine (spec_l1Once.calls g s0_0 s0_1 s0_2 20 t215 t216 t217 w0 _ ?side1 ?side2 A3.out).mono ?_); (case side1 => exact z4_0); (case side2 => exact z4_2); rintro e w8 ⟨rfl, hi, hb, hk⟩; refine ⟨_, rfl, ?_⟩; have n0_ := Aside0.mk (Kd.qq1 (Kd.S_keep (IsS186.apartS (show IsS186 w0 _ g s0_0 s0_1 s0_2 from z4_0) z4_8 (by decide)) hk (fun _ h => h.2)) (fun _ h => h.1)); have n1_ := Aside0.mk (qc0.blk hk (g' := gb213) (o := .cells #[.slice Ao5 l1_0.length co5, .int .i64 a1_1] 169 (0, 0)) z4_3 NB213_0.out (by simp)); have n2_ := Aside0.mk (qc0.blk hk (g' := gb214) (o := .cells #[.slice none 0 0, .int .i64 0] 169 (0, 0)) z4_4 NB214_0.out (by simp)); have n3_ := Aside0.mk (Kept.qk1 (S := (fun k_ => (P1_0_ k_) ∨ k_ = g)) z4_1 hk (.inl (.inr rfl))); have n4_ := Aside0.mk (hb); have n5_ := Aside0.mk (hi); clear HO1_0; clear BK213; clear BK214; clear HK; clear HB; clear HI0; have HO1_0 := n0_; have BK213 := n1_; have BK214 := n2_; have HK := n3_; have HB := n4_; have HI0 := n5_; clear n0_ n1_ n2_ n3_ n4_ n5_; (try clear hb); (try clear hb2); (try clear hk); (try clear hi)))
 (try simp only [Act.put, List.setIfInBounds_toArray, List.set_cons_zero, List.set_cons_succ])
 go_cut [] (fun wc => ∃ (kq : Nat) (x1001_3 : Int) (x1002_3 : Int) (x214001_3 : Int), Aside0 (spec_l5SpoilLedger.j0 kq s0_0 x1001_3 x1002_3 l1_0 x214001_3 = some (r1, r2, r3, r4)) ∧ Aside0 (kq ≤ k) ∧ Aside0 (Kd.S k98 98 wc w0.heap.size (fun k_ => (P1_0_ k_ ∨ w.heap.size ≤ k_)) (.slice Ao5 l1_0.length co5) l1_0) ∧ Aside0 (wc.heap[gb213]? = some (.cells #[(.slice Ao5 l1_0.length co5), .int .i64 x214001_3] 169 (0, 0))) ∧ Aside0 (wc.heap[gb214]? = some (.cells #[(.slice none 0 0), .int .i64 0] 169 (0, 0))) ∧ Aside0 (IsS186 w0 wc g s0_0 x1001_3 x1002_3) ∧ Aside0 (Kept w wc (fun k_ => (P1_0_ k_) ∨ k_ = g)) ∧ Aside0 (Below w0.heap.size w0 wc))
 case first =>
  have H := HC4.out
  clear HC4
  by_cases c9 : t215 = true
  ·subst c9
   have H1 : ((spec_l1PickInt.f s0_0 t216 t217 (([1, wrap64 (-a1_1)] : List Int))).bind fun bt221 => (spec_l5SpoilLedger.j0 k s0_0 bt221.2.1 bt221.2.2 l1_0 (wrap64 (a1_1 + bt221.1)))) = some (r1, r2, r3, r4) := by rw [if_pos rfl] at H; exact H
   clear H
   have H := H1
   clear H1
   obtain ⟨y218, hy218⟩ : ∃ y_ : List Int, y_ = (([1, wrap64 (-a1_1)] : List Int)) := ⟨_, rfl⟩
   replace H : ((spec_l1PickInt.f s0_0 t216 t217 y218).bind fun bt221 => (spec_l5SpoilLedger.j0 k s0_0 bt221.2.1 bt221.2.2 l1_0 (wrap64 (a1_1 + bt221.1)))) = some (r1, r2, r3, r4) := by first | (rw [hy218]; with_reducible exact H) | (have H2_ := (Option.bind_some _ _).symm.trans H; rw [hy218]; with_reducible exact H2_) | (have H2_ := (Option.bind_some _ _).symm.trans H; with_reducible exact H2_) | with_reducible exact H | (rw [hy218]; exact H) | exact H
   have Ny218 := Aside0.mk hy218
   clear hy218
   replace H := Option.bind_eq_some_iff.mp H
   obtain ⟨⟨t221, t222, t223⟩, A100, H⟩ := H
   replace H : (spec_l5SpoilLedger.j0 k s0_0 t222 t223 l1_0 (wrap64 (a1_1 + t221))) = some (r1, r2, r3, r4) := H
   have A10 := Aside0.mk A100
   clear A100
   have H' := Aside0.mk H
   clear H
   try go_wp2
   have n0_ := Aside0.mk (Kd.qd2 HO1_0.out)
   have n1_ := Aside0.mk (qf0 BK213.out)
   have n2_ := Aside0.mk (qf0 BK214.out)
   have n3_ := Aside0.mk (IsS186.drew HI0.out)
   have n4_ := Aside0.mk (Kept.drew HK.out)
   have n5_ := Aside0.mk (qi0 HB.out)
   clear HO1_0
   clear BK213
   clear BK214
   clear HI0
   clear HK
   clear HB
   have HO1_0 := n0_
   have BK213 := n1_
   have BK214 := n2_
   have HI0 := n3_
   have HK := n4_
   have HB := n5_
   clear n0_ n1_ n2_ n3_ n4_ n5_
   refine start_ (n := 11) (S := fun w' => w'.cell? ⟨gb213, 0, none⟩ = some (.slice Ao5 l1_0.length co5) ∧ w'.cell? ⟨gb213, 1, none⟩ = some (.int .i64 a1_1)) (ds := [10]) #[false, false, false, false, false, false, false, false, false, false, false] z4_12 rfl rfl ⟨(qb0 BK213.out 0).trans rfl, (qb0 BK213.out 1).trans rfl⟩ (fun hHeld => ?_); refine with_tabW spec_l5SpoilLedger.tab2 spec_l5SpoilLedger.bits2 (fun HT_ HW_ => ?_)
   generalize w8.drew = w11 at HO1_0 BK213 BK214 HI0 HK HB hHeld ⊢
   refine pure_ (i := 0) (N := some 8) (v := ?_) (a' := ?_) #[true, false, false, false, false, false, false, false, false, false, false] rfl rfl (qs0 HT_.out z4_12) (fun _ _ _ h => h) (Or.inl ⟨by rfl, ?_⟩) ?_ ?_
   rotate_left
   ·intro w'
    go_simp
    with_reducible rfl
   rotate_left
   ·simp only [Act.put, List.setIfInBounds_toArray, List.set_cons_zero, List.set_cons_succ, i64_w, i32_w]
    rfl
   refine pure_ (i := 2) (N := some 10) (v := ?_) (a' := ?_) #[true, false, true, false, false, false, false, false, false, false, false] rfl rfl (qs0 HT_.out z4_12) (fun _ _ _ h => h) (Or.inl ⟨by rfl, ?_⟩) ?_ ?_
   rotate_left
   ·intro w'
    go_simp
    with_reducible rfl
   rotate_left
   ·simp only [Act.put, List.setIfInBounds_toArray, List.set_cons_zero, List.set_cons_succ, i64_w, i32_w]
    rfl
   refine pure_ (i := 3) (N := some 11) (v := ?_) (a' := ?_) #[true, false, true, true, false, false, false, false, false, false, false] rfl rfl (qs0 HT_.out z4_12) (fun _ _ _ h => h) (Or.inl ⟨by rfl, ?_⟩) ?_ ?_
   rotate_left
   ·intro w'
    go_simp
    with_reducible rfl
   rotate_left
   ·simp only [Act.put, List.setIfInBounds_toArray, List.set_cons_zero, List.set_cons_succ, i64_w, i32_w]
    rfl
   refine take_ (i := 1) (N := some 9) (v := ?_) (a' := ?_) #[true, true, true, true, false, false, false, false, false, false, false] rfl rfl (ql1 HT_.out HW_.out z4_12) (fun _ _ _ h => h) (Or.inl ⟨by rfl, ?_⟩) hHeld ?_ ?_
   rotate_left
   ·rintro w' ⟨s0, s1⟩
    go_simp
    with_reducible rfl
   rotate_left
   ·simp only [Act.put, List.setIfInBounds_toArray, List.set_cons_zero, List.set_cons_succ, i64_w, i32_w]
    rfl
   refine take_ (i := 4) (N := some 12) (v := ?_) (a' := ?_) #[true, true, true, true, true, false, false, false, false, false, false] rfl rfl (ql1 HT_.out HW_.out z4_12) (fun _ _ _ h => h) (Or.inl ⟨by rfl, ?_⟩) hHeld ?_ ?_
   rotate_left
   ·rintro w' ⟨s0, s1⟩
    go_simp
    with_reducible rfl
   rotate_left
   ·simp only [Act.put, List.setIfInBounds_toArray, List.set_cons_zero, List.set_cons_succ, i64_w, i32_w]
    rfl
   refine pure_ (i := 5) (N := some 13) (v := ?_) (a' := ?_) #[true, true, true, true, true, true, false, false, false, false, false] rfl rfl (qs0 HT_.out z4_12) (fun _ _ _ h => h) (Or.inl ⟨by rfl, ?_⟩) ?_ ?_
   rotate_left
   ·intro w'
    go_simp
    with_reducible rfl
   rotate_left
   ·simp only [Act.put, List.setIfInBounds_toArray, List.set_cons_zero, List.set_cons_succ, i64_w, i32_w]
    rfl
   refine one_ (i := 6) (N := some 14) #[true, true, true, true, true, true, true, false, false, false, false] rfl rfl (qt1 HT_.out z4_12) (by decide) (fun K hK => ?_)
   refine Kd.R_lit_step (Kd.int .i64) _ 3 ?hg (N := 14) ?hd (xs := ([1, wrap64 (-a1_1)] : List Int)) (inner := [.int .i64 1, .int .i64 (wrap64 (-a1_1))]) (ok := fun _ => True) (okp := fun _ => True) ?hr ?hp (fun _ hk => hk) trivial (Below.refl _ _) (Nat.le_refl _) (by simp) ?_; (case hd => rfl); (case hg => rfl); (case hr => first | (go_simp; done) | (go_simp; rfl)); (case hp => exact (Reps.one (show Kd.M (Kd.int .i64) _ _ _ 1 [.int .i64 1] from rfl) (Reps.one (show Kd.M (Kd.int .i64) _ _ _ (wrap64 (-a1_1)) [.int .i64 (wrap64 (-a1_1))] from rfl) (Reps.none _ _))))
   intro v219 w12 ho13 hb hg_ hnew_
   clear hg_ hnew_
   (first | rw [← Ny218.out] at ho13 | (simp only [Int.reduceToNat] at ho13; rw [← Ny218.out] at ho13))
   have n0_ := Aside0.mk (Kd.S_below z4_8 hb)
   have n1_ := Aside0.mk (Kd.qu1 (Kd.R_newM (M := fun k_ => (P1_0_ k_ ∨ w.heap.size ≤ k_)) ho13 (by first | exact HK.out.1 | exact (show Kept w _ (fun k_ => (P1_0_ k_) ∨ k_ = g) from z4_1).1) (fun k_ h_ => .inr h_)) (qv0 z4_2))
   have n2_ := Aside0.mk (IsS186.below z4_0 hb)
   have n3_ := Aside0.mk (qz0 (g := gb213) (o := .cells #[.slice Ao5 l1_0.length co5, .int .i64 a1_1] 169 (0, 0)) z4_3 hb)
   have n4_ := Aside0.mk (qz0 (g := gb214) (o := .cells #[.slice none 0 0, .int .i64 0] 169 (0, 0)) z4_4 hb)
   have n5_ := Aside0.mk (Kept.below (S := (fun k_ => (P1_0_ k_) ∨ k_ = g)) z4_1 hb)
   have n6_ := Aside0.mk (ql0 z4_2 hb)
   clear HO1_0
   clear HI0
   clear BK213
   clear BK214
   clear HK
   clear HB
   have HO1_0 := n0_
   have HO220 := n1_
   have HI0 := n2_
   have BK213 := n3_
   have BK214 := n4_
   have HK := n5_
   have HB := n6_
   clear n0_ n1_ n2_ n3_ n4_ n5_ n6_
   clear hb ho13
   obtain ⟨Ao14, co14, eo14⟩ := Kd.qn1 HO220.out
   (first | subst eo14 | (injection eo14 with f1_ f2_ f3_; have f4_ := f1_.symm; have f5_ := f3_.symm; clear f1_ f2_ f3_; subst f4_; subst f5_))
   refine hK.out _ _ ⟨(qb0 BK213.out 0).trans rfl, (qb0 BK213.out 1).trans rfl⟩ (fun hHeld => ?_)
   clear hK K
   refine norm_ (a' := ?_) ?_ ?_
   rotate_left
   ·show Act.put _ (some 14) _ = _
    simp only [Act.put, List.setIfInBounds_toArray, List.set_cons_zero, List.set_cons_succ, i64_w, i32_w]
    rfl
   refine one_ (i := 7) (N := some 15) #[true, true, true, true, true, true, true, true, false, false, false] rfl rfl (qt1 HT_.out z4_12) (by decide) (fun K hK => ?_)
   refine goes_ Try.func64 z4_12 rfl #[.pointer (some ⟨g, 0, none⟩), .slice Ao14 y218.length co14] (by rfl) rfl rfl z4_5 ?_
   with_reducible refine (spec_l1PickInt.calls g s0_0 t216 t217 _ _ y218 t221 t222 t223 w0 _ ?side1 ?side2 ?side3 ?side4 ?side5 A10.out).mono ?_
   (case side1 => exact z4_0)
   (case side2 => exact z4_2)
   (case side3 => repeat (first | exact (Kd.qn0 HO220.out).2.2 | (with_reducible refine Kd.qx1 ?_ _) | (with_reducible refine Kd.qw1 ?_ _) | (with_reducible refine Kd.qg2 ?_)))
   (case side4 => exact (Kd.qn0 HO220.out).2.1)
   (case side5 => exact far_slice (IsS186.own_ne HI0.out HO220.out (by decide)))
   rintro e w15 ⟨rfl, hi, hb, hk⟩
   refine ⟨_, rfl, ?_⟩
   have n0_ := Aside0.mk (Kd.qq1 (Kd.S_keep (IsS186.apartS (show IsS186 w0 _ g s0_0 t216 t217 from z4_0) z4_8 (by decide)) hk (fun _ h => h.2)) (fun _ h => h.1))
   have n1_ := Aside0.mk (qc0.blk hk (g' := gb213) (o := .cells #[.slice Ao5 l1_0.length co5, .int .i64 a1_1] 169 (0, 0)) z4_3 NB213_0.out (by simp))
   have n2_ := Aside0.mk (qc0.blk hk (g' := gb214) (o := .cells #[.slice none 0 0, .int .i64 0] 169 (0, 0)) z4_4 NB214_0.out (by simp))
   have n3_ := Aside0.mk (Kd.qm0 (Kd.qy0 (IsS186.apart (show IsS186 w0 _ g s0_0 t216 t217 from z4_0) (by (with_reducible repeat (first | apply Kd.qr0 | apply Kd.qp0 | apply Kd.qu0)); exact HO220.out) (by decide)) hk (fun _ h => h.2)) (fun _ h => h.1))
   have n4_ := Aside0.mk (Kept.qk1 (S := (fun k_ => (P1_0_ k_) ∨ k_ = g)) z4_1 hk (.inl (.inr rfl)))
   have n5_ := Aside0.mk (hb)
   have n6_ := Aside0.mk (hi)
   clear HO1_0
   clear BK213
   clear BK214
   clear HO220
   clear HK
   clear HB
   clear HI0
   have HO1_0 := n0_
   have BK213 := n1_
   have BK214 := n2_
   have HO220 := n3_
   have HK := n4_
   have HB := n5_
   have HI0 := n6_
   clear n0_ n1_ n2_ n3_ n4_ n5_ n6_
   (try clear hb)
   (try clear hb2)
   (try clear hk)
   (try clear hi)
   refine hK.out _ _ ⟨(qb0 BK213.out 0).trans rfl, (qb0 BK213.out 1).trans rfl⟩ (fun hHeld => ?_)
   clear hK K
   refine norm_ (a' := ?_) ?_ ?_
   rotate_left
   ·show Act.put _ (some 15) _ = _
    simp only [Act.put, List.setIfInBounds_toArray, List.set_cons_zero, List.set_cons_succ, i64_w, i32_w]
    rfl
   refine pure_ (i := 8) (N := some 16) (v := ?_) (a' := ?_) #[true, true, true, true, true, true, true, true, true, false, false] rfl rfl (qs0 HT_.out z4_12) (fun _ _ _ h => h) (Or.inl ⟨by rfl, ?_⟩) ?_ ?_
   rotate_left
   ·intro w'
    go_simp
    with_reducible rfl
   rotate_left
   ·simp only [Act.put, List.setIfInBounds_toArray, List.set_cons_zero, List.set_cons_succ, i64_w, i32_w]
    rfl
   refine pure_ (i := 9) (N := some 17) (v := ?_) (a' := ?_) #[true, true, true, true, true, true, true, true, true, true, false] rfl rfl (qs0 HT_.out z4_12) (fun _ _ _ h => h) (Or.inl ⟨by rfl, ?_⟩) ?_ ?_
   rotate_left
   ·intro w'
    go_simp
    with_reducible rfl
   rotate_left
   ·simp only [Act.put, List.setIfInBounds_toArray, List.set_cons_zero, List.set_cons_succ, i64_w, i32_w]
    rfl
   refine last_ (i := 10) (N := none) #[true, true, true, true, true, true, true, true, true, true, true] rfl rfl (qt1 HT_.out z4_12) (by decide) (fun K hK => ?_)
   have hs16 : w15.cell? ⟨gb213, 1, none⟩ = some (.int .i64 a1_1) := (qb0 BK213.out 1).trans rfl
   have hfs16 := qa0 BK213.out 1
   have hns16_1 := NB214_213.out
   have hms16_1 := NB213_214.out
   refine skip_ (w1 := ?_) (by rfl) rfl ?_ ?_
   rotate_left
   ·go_simp
    rfl
   refine hK.out _ _ ?_
   clear hK K
   refine done_ (done_of HT_.out z4_12) ?_
   try go_wp2
   go_meet
   case rel => exact ⟨_, (t222), (t223), (wrap64 (a1_1 + t221)), H', ⟨by first | omega | exact Nat.le_refl _⟩, ⟨by (with_reducible repeat (first | apply Kd.qa2 | apply Kd.qz1 | apply Kd.qd2)); exact Kd.qq1 (Kd.S_far (p := ⟨gb213, 1, none⟩) (Kd.S_types HO1_0.out BK213.out (by decide)) (fun _ hk => hk.2) (.int .i64 (wrap64 (a1_1 + t221)))) (fun _ hk => hk.1)⟩, ⟨by (with_reducible repeat (first | refine qe0 ?_ _ | refine qf0 ?_ | refine qd0 ?_ _)); refine qo0 (cs := #[.slice Ao5 l1_0.length co5, .int .i64 a1_1]) ?_ 1 _ rfl; (with_reducible repeat (first | refine qe0 ?_ _ | refine qf0 ?_ | refine qd0 ?_ _)); exact BK213.out⟩, ⟨by (with_reducible repeat (first | refine qe0 ?_ _ | refine qf0 ?_ | refine qd0 ?_ _)); refine blk_far ?_ NB214_213.out _; (with_reducible repeat (first | refine qe0 ?_ _ | refine qf0 ?_ | refine qd0 ?_ _)); exact BK214.out⟩, ⟨z4_0⟩, ⟨z4_1⟩, ⟨z4_2⟩⟩
  replace c9 := Bool.eq_false_iff.mpr c9
  subst c9
  have H1 : (spec_l5SpoilLedger.j0 k s0_0 t216 t217 l1_0 a1_1) = some (r1, r2, r3, r4) := by rw [if_neg (show ¬ (false = true) by decide)] at H; exact H
  clear H
  have H := H1
  clear H1
  have H' := Aside0.mk H
  clear H
  go_wp2
  go_meet
  case rel => exact ⟨_, (t216), (t217), (a1_1), H', ⟨by first | omega | exact Nat.le_refl _⟩, ⟨z4_8⟩, ⟨z4_3⟩, ⟨z4_4⟩, ⟨z4_0⟩, ⟨z4_1⟩, ⟨z4_2⟩⟩
 case rest =>
  clear HC4
  try clear c1
  try clear p2
  try clear c6
  try clear p6
  try clear c9
  try clear c12
  obtain ⟨kq, x1001_3, x1002_3, x214001_3, HA, HJ3, HO_214000, BK213, BK214, HI0, HK, HB⟩ := hcut
  cases kq with
  | zero => exact absurd HA.out (by simp [spec_l5SpoilLedger.j0])
  | succ kj3 =>
   have H := HA.out
   clear HA
   simp only [spec_l5SpoilLedger.j0] at H
   have HC17 := Aside0.mk H
   clear H
   go_upto_region 3 with (fail)
   go_cut [25] (fun v25 wc => ∃ (kq : Nat) (x25_16 : Bool) (x1001_16 : Int) (x1002_16 : Int), v25 = .bool x25_16 ∧ Aside0 (spec_l5SpoilLedger.j1 kq x25_16 s0_0 x1001_16 x1002_16 l1_0 x214001_3 = some (r1, r2, r3, r4)) ∧ Aside0 (kq ≤ kj3) ∧ Aside0 (Kd.S k98 98 wc w0.heap.size (fun k_ => (P1_0_ k_ ∨ w.heap.size ≤ k_)) (.slice Ao5 l1_0.length co5) l1_0) ∧ Aside0 (wc.heap[gb213]? = some (.cells #[(.slice Ao5 l1_0.length co5), .int .i64 x214001_3] 169 (0, 0))) ∧ Aside0 (wc.heap[gb214]? = some (.cells #[(.slice none 0 0), .int .i64 0] 169 (0, 0))) ∧ Aside0 (IsS186 w0 wc g s0_0 x1001_16 x1002_16) ∧ Aside0 (Kept w wc (fun k_ => (P1_0_ k_) ∨ k_ = g)) ∧ Aside0 (Below w0.heap.size w0 wc))
   case first =>
    have H := HC17.out
    clear HC17
    replace H := Option.bind_eq_some_iff.mp H
    obtain ⟨⟨t224, t225, t226⟩, A180, H⟩ := H
    replace H : (if t224 = true then (spec_l5SpoilLedger.j1 kj3 (decide ((l1_0.length : Int) > 0)) s0_0 t225 t226 l1_0 x214001_3) else (spec_l5SpoilLedger.j1 kj3 false s0_0 t225 t226 l1_0 x214001_3)) = some (r1, r2, r3, r4) := H
    have A18 := Aside0.mk A180
    clear A180
    by_cases c19 : t224 = true
    ·subst c19
     have H1 : (spec_l5SpoilLedger.j1 kj3 (decide ((l1_0.length : Int) > 0)) s0_0 t225 t226 l1_0 x214001_3) = some (r1, r2, r3, r4) := by rw [if_pos rfl] at H; exact H
     clear H
     have H := H1
     clear H1
     have H' := Aside0.mk H
     clear H
     go_wp2_with (first | ((with_reducible refine qg0 (f := 63) rfl ?_); refine qt0 (some 19) rfl rfl Try.func63 z4_12 rfl #[.pointer (some ⟨g, 0, none⟩), .int .i64 20] rfl z4_5 ?_; (with_reducible refine (spec_l1Once.calls g s0_0 x1001_3 x1002_3 20 true t225 t226 w0 _ ?side1 ?side2 A18.out).mono ?_); (case side1 => exact z4_0); (case side2 => exact z4_2); rintro e w20 ⟨rfl, hi, hb, hk⟩; refine ⟨_, rfl, ?_⟩; have n0_ := Aside0.mk (Kd.qq1 (Kd.S_keep (IsS186.apartS (show IsS186 w0 _ g s0_0 x1001_3 x1002_3 from z4_0) z4_6 (by decide)) hk (fun _ h => h.2)) (fun _ h => h.1)); have n1_ := Aside0.mk (qc0.blk hk (g' := gb213) (o := .cells #[.slice Ao5 l1_0.length co5, .int .i64 x214001_3] 169 (0, 0)) z4_3 NB213_0.out (by simp)); have n2_ := Aside0.mk (qc0.blk hk (g' := gb214) (o := .cells #[.slice none 0 0, .int .i64 0] 169 (0, 0)) z4_4 NB214_0.out (by simp)); have n3_ := Aside0.mk (Kept.qk1 (S := (fun k_ => (P1_0_ k_) ∨ k_ = g)) z4_1 hk (.inl (.inr rfl))); have n4_ := Aside0.mk (hb); have n5_ := Aside0.mk (hi); clear HO_214000; clear BK213; clear BK214; clear HK; clear HB; clear HI0; have HO_214000 := n0_; have BK213 := n1_; have BK214 := n2_; have HK := n3_; have HB := n4_; have HI0 := n5_; clear n0_ n1_ n2_ n3_ n4_ n5_; (try clear hb); (try clear hb2); (try clear hk); (try clear hi); have hnb21 := NB213_214.out; have hnc21 := NB214_213.out; have hnb22 := NB213_0.out; have hnc22 := NB0_213.out; have hcz23_0 : w20.cell? ⟨gb213, 0, none⟩ = some (.slice Ao5 l1_0.length co5) := (qb0 BK213.out 0).trans rfl; have hcz23_1 : w20.cell? ⟨gb213, 1, none⟩ = some (.int .i64 x214001_3) := (qb0 BK213.out 1).trans rfl; have hfz23_0 := qa0 BK213.out 0; have hfz23_1 := qa0 BK213.out 1))
     go_meet
     case rel => exact ⟨_, (decide ((l1_0.length : Int) > 0)), (t225), (t226), (by first | rfl | (simp; done) | (simp [*]; done)), H', ⟨by have := HJ3.out; first | omega | exact Nat.le_refl _⟩, ⟨z4_6⟩, ⟨z4_3⟩, ⟨z4_4⟩, ⟨z4_0⟩, ⟨z4_1⟩, ⟨z4_2⟩⟩
    replace c19 := Bool.eq_false_iff.mpr c19
    subst c19
    have H1 : (spec_l5SpoilLedger.j1 kj3 false s0_0 t225 t226 l1_0 x214001_3) = some (r1, r2, r3, r4) := by rw [if_neg (show ¬ (false = true) by decide)] at H; exact H
    clear H
    have H := H1
    clear H1
    have H' := Aside0.mk H
    clear H
    go_wp2_with (first | ((with_reducible refine qg0 (f := 63) rfl ?_); refine qt0 (some 19) rfl rfl Try.func63 z4_12 rfl #[.pointer (some ⟨g, 0, none⟩), .int .i64 20] rfl z4_5 ?_; (with_reducible refine (spec_l1Once.calls g s0_0 x1001_3 x1002_3 20 false t225 t226 w0 _ ?side1 ?side2 A18.out).mono ?_); (case side1 => exact z4_0); (case side2 => exact z4_2); rintro e w24 ⟨rfl, hi, hb, hk⟩; refine ⟨_, rfl, ?_⟩; have n0_ := Aside0.mk (Kd.qq1 (Kd.S_keep (IsS186.apartS (show IsS186 w0 _ g s0_0 x1001_3 x1002_3 from z4_0) z4_6 (by decide)) hk (fun _ h => h.2)) (fun _ h => h.1)); have n1_ := Aside0.mk (qc0.blk hk (g' := gb213) (o := .cells #[.slice Ao5 l1_0.length co5, .int .i64 x214001_3] 169 (0, 0)) z4_3 NB213_0.out (by simp)); have n2_ := Aside0.mk (qc0.blk hk (g' := gb214) (o := .cells #[.slice none 0 0, .int .i64 0] 169 (0, 0)) z4_4 NB214_0.out (by simp)); have n3_ := Aside0.mk (Kept.qk1 (S := (fun k_ => (P1_0_ k_) ∨ k_ = g)) z4_1 hk (.inl (.inr rfl))); have n4_ := Aside0.mk (hb); have n5_ := Aside0.mk (hi); clear HO_214000; clear BK213; clear BK214; clear HK; clear HB; clear HI0; have HO_214000 := n0_; have BK213 := n1_; have BK214 := n2_; have HK := n3_; have HB := n4_; have HI0 := n5_; clear n0_ n1_ n2_ n3_ n4_ n5_; (try clear hb); (try clear hb2); (try clear hk); (try clear hi)))
    go_meet
    case rel => exact ⟨_, (false), (t225), (t226), (by first | rfl | (simp; done) | (simp [*]; done)), H', ⟨by have := HJ3.out; first | omega | exact Nat.le_refl _⟩, ⟨z4_6⟩, ⟨z4_3⟩, ⟨z4_4⟩, ⟨z4_0⟩, ⟨z4_1⟩, ⟨z4_2⟩⟩
   case rest =>
    clear HC17
    try clear c1
    try clear c2
    try clear p2
    try clear c6
    try clear p6
    try clear c9
    try clear c12
    try clear c19
    try clear c21
    try clear c22
    try clear hcz23_0
    try clear hcz23_1
    try clear hfz23_0
    try clear hfz23_1
    try clear p2
    try clear p6
    obtain ⟨kq, x25_16, x1001_16, x1002_16, rfl, HA, HJ16, HO_214000, BK213, BK214, HI0, HK, HB⟩ := hcut
    cases kq with
    | zero => exact absurd HA.out (by simp [spec_l5SpoilLedger.j1])
    | succ kj16 =>
     have H := HA.out
     clear HA
     simp only [spec_l5SpoilLedger.j1] at H
     by_cases c25 : x25_16 = true
     ·subst c25
      have H1 : ((spec_l1Below.f s0_0 x1001_16 x1002_16 (l1_0.length : Int)).bind fun bt227 => (if 0 ≤ bt227.1 then (if bt227.1 < (l1_0.length : Int) then ((spec_l5SpoilEntry.f kj16 s0_0 bt227.2.1 bt227.2.2 (rd_T98 l1_0 bt227.1).f0 (rd_T98 l1_0 bt227.1).f1 (rd_T98 l1_0 bt227.1).f2 (rd_T98 l1_0 bt227.1).f3).bind fun bt231 => ((some (l1_0.set (bt227.1 : Int).toNat (⟨bt231.1, bt231.2.1, bt231.2.2.1, bt231.2.2.2.1⟩ : S98) : List (S98))).bind fun y239 => ((spec_l1Once.f s0_0 bt231.2.2.2.2.1 bt231.2.2.2.2.2 2).bind fun bt240 => (if bt240.1 = true then ((spec_HeadOf.f kj16 y239).bind fun t243 => (some (y239, t243, bt240.2.1, bt240.2.2))) else (some (y239, x214001_3, bt240.2.1, bt240.2.2)))))) else (none)) else (none))) = some (r1, r2, r3, r4) := by rw [if_pos rfl] at H; exact H
      clear H
      have H := H1
      clear H1
      replace H := Option.bind_eq_some_iff.mp H
      obtain ⟨⟨t227, t228, t229⟩, A260, H⟩ := H
      replace H : (if 0 ≤ t227 then (if t227 < (l1_0.length : Int) then ((spec_l5SpoilEntry.f kj16 s0_0 t228 t229 (rd_T98 l1_0 t227).f0 (rd_T98 l1_0 t227).f1 (rd_T98 l1_0 t227).f2 (rd_T98 l1_0 t227).f3).bind fun bt231 => ((some (l1_0.set (t227 : Int).toNat (⟨bt231.1, bt231.2.1, bt231.2.2.1, bt231.2.2.2.1⟩ : S98) : List (S98))).bind fun y239 => ((spec_l1Once.f s0_0 bt231.2.2.2.2.1 bt231.2.2.2.2.2 2).bind fun bt240 => (if bt240.1 = true then ((spec_HeadOf.f kj16 y239).bind fun t243 => (some (y239, t243, bt240.2.1, bt240.2.2))) else (some (y239, x214001_3, bt240.2.1, bt240.2.2)))))) else (none)) else (none)) = some (r1, r2, r3, r4) := H
      have A26 := Aside0.mk A260
      clear A260
      by_cases c27 : 0 ≤ t227
      case neg => rw [if_neg c27] at H; exact absurd H (by simp)
      rw [if_pos c27] at H
      have c27b0 : decide (0 ≤ t227) = true := decide_eq_true c27
      clear c27
      by_cases c28 : t227 < (l1_0.length : Int)
      case neg => rw [if_neg c28] at H; exact absurd H (by simp)
      rw [if_pos c28] at H
      have c28b0 : decide (t227 < (l1_0.length : Int)) = true := decide_eq_true c28
      clear c28
      replace H := Option.bind_eq_some_iff.mp H
      obtain ⟨⟨t231, t232, t233, t234, t237, t238⟩, A290, H⟩ := H
      replace H : ((some (l1_0.set (t227 : Int).toNat (⟨t231, t232, t233, t234⟩ : S98) : List (S98))).bind fun y239 => ((spec_l1Once.f s0_0 t237 t238 2).bind fun bt240 => (if bt240.1 = true then ((spec_HeadOf.f kj16 y239).bind fun t243 => (some (y239, t243, bt240.2.1, bt240.2.2))) else (some (y239, x214001_3, bt240.2.1, bt240.2.2))))) = some (r1, r2, r3, r4) := H
      have A29 := Aside0.mk A290
      clear A290
      obtain ⟨y239, hy239⟩ : ∃ y_ : List (S98), y_ = (l1_0.set (t227 : Int).toNat (⟨t231, t232, t233, t234⟩ : S98)) := ⟨_, rfl⟩
      replace H : ((spec_l1Once.f s0_0 t237 t238 2).bind fun bt240 => (if bt240.1 = true then ((spec_HeadOf.f kj16 y239).bind fun t243 => (some (y239, t243, bt240.2.1, bt240.2.2))) else (some (y239, x214001_3, bt240.2.1, bt240.2.2)))) = some (r1, r2, r3, r4) := by first | (rw [hy239]; with_reducible exact H) | (have H2_ := (Option.bind_some _ _).symm.trans H; rw [hy239]; with_reducible exact H2_) | (have H2_ := (Option.bind_some _ _).symm.trans H; with_reducible exact H2_) | with_reducible exact H | (rw [hy239]; exact H) | exact H
      have Ny239 := Aside0.mk hy239
      clear hy239
      replace H := Option.bind_eq_some_iff.mp H
      obtain ⟨⟨t240, t241, t242⟩, A310, H⟩ := H
      replace H : (if t240 = true then ((spec_HeadOf.f kj16 y239).bind fun t243 => (some (y239, t243, t241, t242))) else (some (y239, x214001_3, t241, t242))) = some (r1, r2, r3, r4) := H
      have A31 := Aside0.mk A310
      clear A310
      have hcz36_0 : wc.cell? ⟨gb213, 0, none⟩ = some (.slice Ao5 l1_0.length co5) := (qb0 BK213.out 0).trans rfl
      have hfz36_0 := qa0 BK213.out 0
      have hcz36_1 : wc.cell? ⟨gb213, 1, none⟩ = some (.int .i64 x214001_3) := (qb0 BK213.out 1).trans rfl
      have hfz36_1 := qa0 BK213.out 1
      have H' := Aside0.mk H
      clear H
      go_wp2_with (first | ((with_reducible refine qg0 (f := 61) rfl ?_); refine qt0 (some 30) rfl rfl Try.func61 z4_12 rfl #[.pointer (some ⟨g, 0, none⟩), .int .i64 (l1_0.length : Int)] rfl z4_5 ?_; (with_reducible refine (spec_l1Below.calls g s0_0 x1001_16 x1002_16 (l1_0.length : Int) t227 t228 t229 w0 _ ?side1 ?side2 A26.out).mono ?_); (case side1 => exact z4_0); (case side2 => exact z4_2); rintro e w37 ⟨rfl, hi, hb, hk⟩; refine ⟨_, rfl, ?_⟩; have n0_ := Aside0.mk (Kd.qq1 (Kd.S_keep (IsS186.apartS (show IsS186 w0 _ g s0_0 x1001_16 x1002_16 from z4_0) z4_6 (by decide)) hk (fun _ h => h.2)) (fun _ h => h.1)); have n1_ := Aside0.mk (qc0.blk hk (g' := gb213) (o := .cells #[.slice Ao5 l1_0.length co5, .int .i64 x214001_3] 169 (0, 0)) z4_3 NB213_0.out (by simp)); have n2_ := Aside0.mk (qc0.blk hk (g' := gb214) (o := .cells #[.slice none 0 0, .int .i64 0] 169 (0, 0)) z4_4 NB214_0.out (by simp)); have n3_ := Aside0.mk (Kept.qk1 (S := (fun k_ => (P1_0_ k_) ∨ k_ = g)) z4_1 hk (.inl (.inr rfl))); have n4_ := Aside0.mk (hb); have n5_ := Aside0.mk (hi); clear HO_214000; clear BK213; clear BK214; clear HK; clear HB; clear HI0; have HO_214000 := n0_; have BK213 := n1_; have BK214 := n2_; have HK := n3_; have HB := n4_; have HI0 := n5_; clear n0_ n1_ n2_ n3_ n4_ n5_; (try clear hb); (try clear hb2); (try clear hk); (try clear hi); have hcz38_0 : w37.cell? ⟨gb213, 0, none⟩ = some (.slice Ao5 l1_0.length co5) := (qb0 BK213.out 0).trans rfl; have hcz38_1 : w37.cell? ⟨gb213, 1, none⟩ = some (.int .i64 x214001_3) := (qb0 BK213.out 1).trans rfl; have hfz38_0 := qa0 BK213.out 0; have hfz38_1 := qa0 BK213.out 1))
      clear hcz36_0 hcz36_1 hfz36_0 hfz36_1 hcz38_0 hcz38_1 hfz38_0 hfz38_1
      have n0_ := Aside0.mk (Kd.qd2 HO_214000.out)
      have n1_ := Aside0.mk (qf0 BK213.out)
      have n2_ := Aside0.mk (qf0 BK214.out)
      have n3_ := Aside0.mk (IsS186.drew HI0.out)
      have n4_ := Aside0.mk (Kept.drew HK.out)
      have n5_ := Aside0.mk (qi0 HB.out)
      clear HO_214000
      clear BK213
      clear BK214
      clear HI0
      clear HK
      clear HB
      have HO_214000 := n0_
      have BK213 := n1_
      have BK214 := n2_
      have HI0 := n3_
      have HK := n4_
      have HB := n5_
      clear n0_ n1_ n2_ n3_ n4_ n5_
      have p30 : 0 ≤ (t227 : Int) := of_decide_eq_true (by first | (with_reducible assumption) | assumption)
      have q30 : (t227 : Int) < (l1_0.length : Int) := of_decide_eq_true (by first | (with_reducible assumption) | assumption)
      obtain ⟨go30, co30, eo30, gb30, gl30, cl30, HG30⟩ := Kd.S_form HO_214000.out (by omega)
      injection eo30 with ea_ en_ ec_
      subst ea_
      subst ec_
      clear en_
      have GB30 := Aside0.mk gb30
      have GG30 := Aside0.mk HG30
      clear gb30 gl30 HG30
      have HS30 := Aside0.mk (show Kd.S k98 98 _ w0.heap.size (fun k_ => (((P1_0_ k_ ∨ w.heap.size ≤ k_) ∧ k_ ≠ g) ∧ k_ ≠ gb213) ∧ k_ ≠ gb214) (.slice (some ⟨go30, 0, none⟩) l1_0.length co5) l1_0 from Kd.S_types (Kd.S_types (IsS186.apartS (show IsS186 w0 _ g s0_0 t228 t229 from HI0.out) HO_214000.out (by decide)) BK213.out (by decide)) BK214.out (by decide))
      clear HO_214000
      obtain ⟨oki, ce30, hcl30, hM30, hcc30, hfr30, hoki, hH30⟩ := Kd.S_elem HS30.out z98 (t227 : Int) p30 q30
      obtain ⟨ve30, rfl, ge30⟩ := k98_openM hM30
      have HE := Aside0.mk (show Kd.R k100 100 _ w0.heap.size oki ve30 ((rd_T98 l1_0 t227).f3) from ge30)
      have HH := Aside0.mk (Kd.H_widen hH30)
      have HOK := Aside0.mk hoki
      clear hoki hM30 hH30 ge30 hcl30 HS30
      have hx_0 := hcc30 0 _ rfl
      have hx_1 := hcc30 1 _ rfl
      have hx_2 := hcc30 2 _ rfl
      have hx_3 := hcc30 3 _ rfl
      clear hcc30 hfr30
      refine start_ (n := 12) (S := fun w' => w'.cell? ⟨gb213, 0, none⟩ = some (.slice (some ⟨go30, 0, none⟩) l1_0.length co5) ∧ w'.cell? ⟨go30, (t227 : Int).toNat * 4, none⟩ = some (.int .i64 (rd_T98 l1_0 t227).f0) ∧ w'.cell? ⟨go30, (t227 : Int).toNat * 4 + 1, none⟩ = some (.int .i64 (rd_T98 l1_0 t227).f1) ∧ w'.cell? ⟨go30, (t227 : Int).toNat * 4 + 2, none⟩ = some (.string (rd_T98 l1_0 t227).f2) ∧ w'.cell? ⟨go30, (t227 : Int).toNat * 4 + 3, none⟩ = some (ve30)) (ds := [11]) (rb4 [0, 12]) z4_12 rfl rfl ⟨(qb0 BK213.out 0).trans rfl, hx_0, hx_1, hx_2, hx_3⟩ (fun hHeld => ?_); refine with_tabW spec_l5SpoilLedger.tab5 spec_l5SpoilLedger.bits5 (fun HT_ HW_ => ?_)
      clear hx_0 hx_1 hx_2 hx_3
      replace p30 := eq_true p30
      replace q30 := eq_true q30
      generalize World.drew _ = w38 at HH HE BK213 BK214 HI0 HK HB hHeld ⊢
      refine pure_ (i := 0) (N := some 31) (v := ?_) (a' := ?_) (rb4 [1, 11]) rfl rfl (qs0 HT_.out z4_12) (fun _ _ _ h => h) (Or.inl ⟨by rfl, ?_⟩) ?_ ?_
      rotate_left
      ·intro w'
       go_simp
       with_reducible rfl
      rotate_left
      ·simp only [Act.put, List.setIfInBounds_toArray, List.set_cons_zero, List.set_cons_succ, i64_w, i32_w]
       rfl
      refine pure_ (i := 2) (N := some 33) (v := ?_) (a' := ?_) (rb4 [1, 1, 1, 9]) rfl rfl (qs0 HT_.out z4_12) (fun _ _ _ h => h) (Or.inl ⟨by rfl, ?_⟩) ?_ ?_
      rotate_left
      ·intro w'
       go_simp
       with_reducible rfl
      rotate_left
      ·simp only [Act.put, List.setIfInBounds_toArray, List.set_cons_zero, List.set_cons_succ, i64_w, i32_w]
       rfl
      refine pure_ (i := 3) (N := some 34) (v := ?_) (a' := ?_) (rb4 [1, 1, 2, 8]) rfl rfl (qs0 HT_.out z4_12) (fun _ _ _ h => h) (Or.inl ⟨by rfl, ?_⟩) ?_ ?_
      rotate_left
      ·intro w'
       go_simp
       with_reducible rfl
      rotate_left
      ·simp only [Act.put, List.setIfInBounds_toArray, List.set_cons_zero, List.set_cons_succ, i64_w, i32_w]
       rfl
      refine pure_ (i := 4) (N := some 35) (v := ?_) (a' := ?_) (rb4 [1, 1, 3, 7]) rfl rfl (qs0 HT_.out z4_12) (fun _ _ _ h => h) (Or.inl ⟨by rfl, ?_⟩) ?_ ?_
      rotate_left
      ·intro w'
       go_simp
       with_reducible rfl
      rotate_left
      ·simp only [Act.put, List.setIfInBounds_toArray, List.set_cons_zero, List.set_cons_succ, i64_w, i32_w]
       rfl
      refine pure_ (i := 6) (N := some 37) (v := ?_) (a' := ?_) (rb4 [1, 1, 3, 1, 1, 5]) rfl rfl (qs0 HT_.out z4_12) (fun _ _ _ h => h) (Or.inl ⟨by rfl, ?_⟩) ?_ ?_
      rotate_left
      ·intro w'
       go_simp
       with_reducible rfl
      rotate_left
      ·simp only [Act.put, List.setIfInBounds_toArray, List.set_cons_zero, List.set_cons_succ, i64_w, i32_w]
       rfl
      refine take_ (i := 1) (N := some 32) (v := ?_) (a' := ?_) (rb4 [5, 1, 1, 5]) rfl rfl (ql1 HT_.out HW_.out z4_12) (fun _ _ _ h => h) (Or.inl ⟨by rfl, ?_⟩) hHeld ?_ ?_
      rotate_left
      ·rintro w' ⟨s0, s1, s2, s3, s4⟩
       go_simp
       with_reducible rfl
      rotate_left
      ·simp only [Act.put, List.setIfInBounds_toArray, List.set_cons_zero, List.set_cons_succ, i64_w, i32_w]
       rfl
      refine take_ (i := 5) (N := some 36) (v := ?_) (a' := ?_) (rb4 [7, 5]) rfl rfl (ql1 HT_.out HW_.out z4_12) (fun _ _ _ h => h) (Or.inl ⟨by rfl, ?_⟩) hHeld ?_ ?_
      rotate_left
      ·rintro w' ⟨s0, s1, s2, s3, s4⟩
       go_simp
       with_reducible rfl
      rotate_left
      ·simp only [Act.put, List.setIfInBounds_toArray, List.set_cons_zero, List.set_cons_succ, i64_w, i32_w]
       rfl
      refine pure_ (i := 7) (N := some 38) (v := ?_) (a' := ?_) (rb4 [8, 4]) rfl rfl (qs0 HT_.out z4_12) (fun _ _ _ h => h) (Or.inl ⟨by rfl, ?_⟩) ?_ ?_
      rotate_left
      ·intro w'
       go_simp
       with_reducible rfl
      rotate_left
      ·simp only [Act.put, List.setIfInBounds_toArray, List.set_cons_zero, List.set_cons_succ, i64_w, i32_w]
       rfl
      refine take_ (i := 8) (N := some 39) (v := ?_) (a' := ?_) (rb4 [9, 3]) rfl rfl (ql1 HT_.out HW_.out z4_12) (fun _ _ _ h => h) (Or.inl ⟨by rfl, ?_⟩) hHeld ?_ ?_
      rotate_left
      ·rintro w' ⟨s0, s1, s2, s3, s4⟩
       go_simp
       with_reducible rfl
      rotate_left
      ·simp only [Act.put, List.setIfInBounds_toArray, List.set_cons_zero, List.set_cons_succ, i64_w, i32_w]
       rfl
      refine one_ (i := 9) (N := some 40) (rb4 [10, 2]) rfl rfl (qt1 HT_.out z4_12) (by decide) (fun K hK => ?_)
      refine goes_ Try.func154 z4_12 rfl #[.pointer (some ⟨g, 0, none⟩), .agg #[.int .i64 (rd_T98 l1_0 t227).f0, .int .i64 (rd_T98 l1_0 t227).f1, .string (rd_T98 l1_0 t227).f2, ve30]] (by rfl) rfl rfl (by (try simp only [List.map_toArray, List.map_cons, List.map_nil]); first | done | rfl) ?_
      refine (spec_l5SpoilEntry.calls kj16 g s0_0 t228 t229 (rd_T98 l1_0 t227).f0 (rd_T98 l1_0 t227).f1 (rd_T98 l1_0 t227).f2 oki ve30 (rd_T98 l1_0 t227).f3 t231 t232 t233 t234 t237 t238 w0 _ ?side1 ?side2 ?side3 A29.out).mono ?_
      (case side1 => exact HI0.out)
      (case side2 => exact HB.out)
      (case side3 => exact HE.out)
      rintro e w39 ⟨v235, rfl, ho0, hi, hb, hkp⟩
      refine ⟨_, rfl, ?_⟩
      have hgl : g < w38.heap.size := IsS186.lt HI0.out
      have n0_ := Aside0.mk (Kd.H_kept HH.out hkp (fun k_ ho_ hn_ hs_ => Or.elim hs_ (fun h_ => hn_ (.inl h_)) (fun h_ => ho_.1.1.2 h_)))
      have n1_ := Aside0.mk (blk_kept BK213.out hkp (fun hs_ => Or.elim hs_ (fun h_ => (HOK.out _ h_).1.1.2 rfl) (fun e_ => NB213_0.out e_)))
      have n2_ := Aside0.mk (blk_kept BK214.out hkp (fun hs_ => Or.elim hs_ (fun h_ => (HOK.out _ h_).1.2 rfl) (fun e_ => NB214_0.out e_)))
      have n3_ := Aside0.mk hi
      have n4_ := Aside0.mk (Kept.then_ (S := (fun k_ => (P1_0_ k_) ∨ k_ = g)) HK.out hkp (fun k_ hs_ => Or.elim hs_ (fun h_ => Or.imp_left Or.inl (HOK.out _ h_).1.1.1.1) (fun e_ => .inl (.inr e_))))
      have n5_ := Aside0.mk hb
      have n6_ := Aside0.mk (show Kd.R k100 100 w39 w0.heap.size (fun k_ => oki k_ ∨ (fun k_ => (((P1_0_ k_ ∨ w.heap.size ≤ k_) ∧ k_ ≠ g) ∧ k_ ≠ gb213) ∧ k_ ≠ gb214) k_ ∧ w38.heap.size ≤ k_) v235 t234 from Kd.qm0 ho0 (fun k_ hk_ => Or.imp_right (fun hn_ => ⟨⟨⟨⟨.inr (Nat.le_trans HK.out.1 hn_), fun e_ => by omega⟩, fun e_ => by have := blk_lt BK213.out; omega⟩, fun e_ => by have := blk_lt BK214.out; omega⟩, hn_⟩) hk_))
      clear HH HE BK213 BK214 HI0 HK HB ho0 hi hb hkp hgl
      have HH := n0_
      have BK213 := n1_
      have BK214 := n2_
      have HI0 := n3_
      have HK := n4_
      have HB := n5_
      have HE := n6_
      clear n0_ n1_ n2_ n3_ n4_ n5_ n6_
      obtain ⟨hat39, hfr39⟩ := Kd.H_at HH.out (of_eq_true p30) (of_eq_true q30)
      have hx_0 := hat39 0 _ rfl
      have hx_1 := hat39 1 _ rfl
      have hx_2 := hat39 2 _ rfl
      have hx_3 := hat39 3 _ rfl
      obtain ⟨Ao42, co42, eo42⟩ := Kd.qn1 HE.out
      subst eo42
      refine hK.out _ _ ⟨(qb0 BK213.out 0).trans rfl, hx_0, hx_1, hx_2, hx_3⟩ (fun hHeld => ?_)
      clear hK K
      refine norm_ (a' := ?_) ?_ ?_
      rotate_left
      ·show Act.put _ (some 40) _ = _
       simp only [Act.put, List.setIfInBounds_toArray, List.set_cons_zero, List.set_cons_succ, i64_w, i32_w]
       rfl
      refine pure_ (i := 10) (N := some 41) (v := ?_) (a' := ?_) (rb4 [11, 1]) rfl rfl (qs0 HT_.out z4_12) (fun _ _ _ h => h) (Or.inl ⟨by rfl, ?_⟩) ?_ ?_
      rotate_left
      ·intro w'
       go_simp
       with_reducible rfl
      rotate_left
      ·simp only [Act.put, List.setIfInBounds_toArray, List.set_cons_zero, List.set_cons_succ, i64_w, i32_w]
       rfl
      refine last_ (i := 11) (N := none) (rb4 [12]) rfl rfl (qt1 HT_.out z4_12) (by decide) (fun K hK => ?_)
      have hf_0 := hfr39 0
      have hf_1 := hfr39 1
      have hf_2 := hfr39 2
      have hf_3 := hfr39 3
      try simp only [show k98.sz = 4 from rfl] at hx_0 hx_1 hx_2 hx_3 hf_0 hf_1 hf_2 hf_3
      try simp only [Nat.add_zero] at hx_0 hf_0
      refine skip_ (w1 := ((((w39.setCell ⟨go30, (t227 : Int).toNat * 4, none⟩ (.int .i64 t231)).setCell ⟨go30, (t227 : Int).toNat * 4 + 1, none⟩ (.int .i64 t232)).setCell ⟨go30, (t227 : Int).toNat * 4 + 2, none⟩ (.string t233)).setCell ⟨go30, (t227 : Int).toNat * 4 + 3, none⟩ (.slice Ao42 t234.length co42))) (by rfl) rfl ?_ ?_
      ·go_simp
       try rfl
      refine hK.out _ _ ?_
      clear hK K
      refine done_ (done_of HT_.out z4_12) ?_
      have HP := Kd.S_seg0 HH.out (of_eq_true p30) (of_eq_true q30) (seg := [.int .i64 t231, .int .i64 t232, .string t233, .slice Ao42 t234.length co42]) (j := 0) (show 0 + 4 ≤ 4 from by decide) (x' := (⟨t231, t232, t233, t234⟩ : S98)) (k98_mkM _ _ _ (⟨t231, t232, t233, t234⟩ : S98) HE.out) (fun _ hk => hk)
      generalize hw : ((((w39.setCell ⟨go30, (t227 : Int).toNat * 4, none⟩ (.int .i64 t231)).setCell ⟨go30, (t227 : Int).toNat * 4 + 1, none⟩ (.int .i64 t232)).setCell ⟨go30, (t227 : Int).toNat * 4 + 2, none⟩ (.string t233)).setCell ⟨go30, (t227 : Int).toNat * 4 + 3, none⟩ (.slice Ao42 t234.length co42)) = w41
      have hg : w39.grownBy w41 (some go30) := by rw [← hw]; exact HP.2
      have hp_ : Kd.S k98 98 w41 w0.heap.size (fun k_ => (P1_0_ k_ ∨ w.heap.size ≤ k_)) (.slice (some ⟨go30, 0, none⟩) l1_0.length co5) y239 := by rw [← hw, Ny239.out]; exact Kd.qq1 HP.1 (fun k_ hk_ => hk_.1.1.1)
      have hraw := Kd.H_raw HH.out (of_eq_true p30) (of_eq_true q30)
      obtain ⟨_, _, hraw, _, _, _, _⟩ := hraw
      have n0_ := Aside0.mk hp_
      have n1_ := Aside0.mk (qq0 (g := gb213) BK213.out hg (Kd.R_ne hraw BK213.out (by decide)))
      have n2_ := Aside0.mk (qq0 (g := gb214) BK214.out hg (Kd.R_ne hraw BK214.out (by decide)))
      have n3_ := Aside0.mk (IsS186.grown HI0.out hg (IsS186.own_ne HI0.out hraw (by decide)))
      have hmine : P1_0_ go30 ∨ w.heap.size ≤ go30 := by obtain ⟨f_, h0_, _⟩ := hp_; exact h0_ go30 rfl
      have n4_ := Aside0.mk (Kept.qm1 (S := (fun k_ => (P1_0_ k_) ∨ k_ = g)) hg HK.out (fun k_ e_ => by injection e_ with e_; subst e_; exact Or.imp_left Or.inl hmine))
      have n5_ := Aside0.mk (by rw [← hw]; exact qk0 (qk0 (qk0 (qk0 (HB.out) GB30.out) GB30.out) GB30.out) GB30.out : Below w0.heap.size w0 w41)
      clear HH HE HP hp_ hg hraw hmine hx_0 hx_1 hx_2 hx_3 hf_0 hf_1 hf_2 hf_3 hat39 hfr39 hHeld HT_ HW_ HOK GG30
      try clear hw
      clear BK213
      clear BK214
      clear HI0
      clear HK
      clear HB
      have HO_214000 := n0_
      have BK213 := n1_
      have BK214 := n2_
      have HI0 := n3_
      have HK := n4_
      have HB := n5_
      clear n0_ n1_ n2_ n3_ n4_ n5_
      have H := H'.out
      clear H'
      by_cases c32 : t240 = true
      ·subst c32
       have H1 : ((spec_HeadOf.f kj16 y239).bind fun t243 => (some (y239, t243, t241, t242))) = some (r1, r2, r3, r4) := by rw [if_pos rfl] at H; exact H
       clear H
       have H := H1
       clear H1
       replace H := Option.bind_eq_some_iff.mp H
       obtain ⟨t243, A330, H⟩ := H
       replace H : (some (y239, t243, t241, t242)) = some (r1, r2, r3, r4) := H
       have A33 := Aside0.mk A330
       clear A330
       simp only [Option.some.injEq, Prod.mk.injEq] at H
       obtain ⟨rfl, rfl, rfl, rfl⟩ := H
       have hnb34 := NB213_214.out
       have hnc34 := NB214_213.out
       have hnb35 := NB213_0.out
       have hnc35 := NB0_213.out
       have hcz36_0 : w41.cell? ⟨gb213, 0, none⟩ = some (.slice (some ⟨go30, 0, none⟩) l1_0.length co5) := (qb0 BK213.out 0).trans rfl
       have hcz36_1 : w41.cell? ⟨gb213, 1, none⟩ = some (.int .i64 x214001_3) := (qb0 BK213.out 1).trans rfl
       have hfz36_0 := qa0 BK213.out 0
       have hfz36_1 := qa0 BK213.out 1
       go_wp2_with (first | ((with_reducible refine qg0 (f := 63) rfl ?_); refine qt0 (some 43) rfl rfl Try.func63 z4_12 rfl #[.pointer (some ⟨g, 0, none⟩), .int .i64 2] rfl z4_5 ?_; (with_reducible refine (spec_l1Once.calls g s0_0 t237 t238 2 true t241 t242 w0 _ ?side1 ?side2 A31.out).mono ?_); (case side1 => exact z4_0); (case side2 => exact z4_2); rintro e w43 ⟨rfl, hi, hb, hk⟩; refine ⟨_, rfl, ?_⟩; have n0_ := Aside0.mk (Kd.qq1 (Kd.S_keep (IsS186.apartS (show IsS186 w0 _ g s0_0 t237 t238 from z4_0) z4_6 (by decide)) hk (fun _ h => h.2)) (fun _ h => h.1)); have n1_ := Aside0.mk (qc0.blk hk (g' := gb213) (o := .cells #[.slice (some ⟨go30, 0, none⟩) l1_0.length co5, .int .i64 x214001_3] 169 (0, 0)) z4_3 NB213_0.out (by simp)); have n2_ := Aside0.mk (qc0.blk hk (g' := gb214) (o := .cells #[.slice none 0 0, .int .i64 0] 169 (0, 0)) z4_4 NB214_0.out (by simp)); have n3_ := Aside0.mk (Kept.qk1 (S := (fun k_ => (P1_0_ k_) ∨ k_ = g)) z4_1 hk (.inl (.inr rfl))); have n4_ := Aside0.mk (hb); have n5_ := Aside0.mk (hi); clear HO_214000; clear BK213; clear BK214; clear HK; clear HB; clear HI0; have HO_214000 := n0_; have BK213 := n1_; have BK214 := n2_; have HK := n3_; have HB := n4_; have HI0 := n5_; clear n0_ n1_ n2_ n3_ n4_ n5_; (try clear hb); (try clear hb2); (try clear hk); (try clear hi); have hcz44_0 : w43.cell? ⟨gb213, 0, none⟩ = some (.slice (some ⟨go30, 0, none⟩) l1_0.length co5) := (qb0 BK213.out 0).trans rfl; have hcz44_1 : w43.cell? ⟨gb213, 1, none⟩ = some (.int .i64 x214001_3) := (qb0 BK213.out 1).trans rfl; have hfz44_0 := qa0 BK213.out 0; have hfz44_1 := qa0 BK213.out 1) | ((with_reducible refine qg0 (f := 52) rfl ?_); refine qt0 (some 46) rfl rfl Try.func52 z4_12 rfl #[.slice (some ⟨go30, 0, none⟩) y239.length co5] rfl (by (try simp only [List.map_toArray, List.map_cons, List.map_nil]); first | done | (rw [show y239.length = l1_0.length from (Kd.S_reads' HO_214000.out).1.symm] <;> rfl) | rfl | (simp only [List.length_drop, List.length_take]; rfl)) ?_; (with_reducible refine (spec_HeadOf.calls kj16 _ _ y239 t243 _ ?side1 ?side2 A33.out).mono ?_); (case side1 => repeat (first | exact (Kd.S_reads' HO_214000.out).2.2 | (with_reducible refine Kd.qx1 ?_ _) | (with_reducible refine Kd.qw1 ?_ _) | (with_reducible refine Kd.qg2 ?_))); (case side2 => rw [show y239.length = l1_0.length from (Kd.S_reads' HO_214000.out).1.symm]; exact (Kd.S_reads' HO_214000.out).2.1); rintro e w45 ⟨rfl, hb⟩; refine ⟨_, rfl, ?_⟩; have n0_ := Aside0.mk (Kd.S_below z4_6 hb); have n1_ := Aside0.mk (qz0 (g := gb213) (o := .cells #[.slice (some ⟨go30, 0, none⟩) l1_0.length co5, .int .i64 x214001_3] 169 (0, 0)) z4_3 hb); have n2_ := Aside0.mk (qz0 (g := gb214) (o := .cells #[.slice none 0 0, .int .i64 0] 169 (0, 0)) z4_4 hb); have n3_ := Aside0.mk (IsS186.below z4_0 hb); have n4_ := Aside0.mk (Kept.below (S := (fun k_ => (P1_0_ k_) ∨ k_ = g)) z4_1 hb); have n5_ := Aside0.mk (ql0 z4_2 hb); clear HO_214000; clear BK213; clear BK214; clear HI0; clear HK; clear HB; have HO_214000 := n0_; have BK213 := n1_; have BK214 := n2_; have HI0 := n3_; have HK := n4_; have HB := n5_; clear n0_ n1_ n2_ n3_ n4_ n5_; (try clear hb); (try clear hb2); (try clear hk); (try clear hi); have hcz46_0 : w45.cell? ⟨gb213, 0, none⟩ = some (.slice (some ⟨go30, 0, none⟩) l1_0.length co5) := (qb0 BK213.out 0).trans rfl; have hcz46_1 : w45.cell? ⟨gb213, 1, none⟩ = some (.int .i64 x214001_3) := (qb0 BK213.out 1).trans rfl; have hfz46_0 := qa0 BK213.out 0; have hfz46_1 := qa0 BK213.out 1; have hnb47 := NB214_0.out; have hnc47 := NB0_214.out; have hcz48_0 : w45.cell? ⟨gb214, 0, none⟩ = some (.slice none 0 0) := (qb0 BK214.out 0).trans rfl; have hcz48_1 : w45.cell? ⟨gb214, 1, none⟩ = some (.int .i64 0) := (qb0 BK214.out 1).trans rfl; have hfz48_0 := qa0 BK214.out 0; have hfz48_1 := qa0 BK214.out 1))
       refine bodyPost_ret (results_cell_row rfl _ _ gb214 169 #[.slice (some ⟨go30, 0, none⟩) l1_0.length co5, .int .i64 t243] (0, 0) _ rfl (by (with_reducible repeat (first | refine qe0 ?_ _ | refine qf0 ?_ | refine qd0 ?_ _)); refine qo0 (cs := #[.slice (some ⟨go30, 0, none⟩) l1_0.length co5, .int .i64 0]) ?_ 1 _ rfl; (with_reducible repeat (first | refine qe0 ?_ _ | refine qf0 ?_ | refine qd0 ?_ _)); refine qo0 (cs := #[.slice none 0 0, .int .i64 0]) ?_ 0 _ rfl; (with_reducible repeat (first | refine qe0 ?_ _ | refine qf0 ?_ | refine qd0 ?_ _)); refine blk_far ?_ NB214_213.out _; (with_reducible repeat (first | refine qe0 ?_ _ | refine qf0 ?_ | refine qd0 ?_ _)); exact BK214.out) Try.underlying169 rfl z4_12) rfl ?_
       exact ⟨_, z4_15, by (with_reducible repeat (first | apply Kd.qa2 | apply Kd.qz1 | apply Kd.qd2)); exact Kd.qq1 (Kd.S_far (p := ⟨gb214, 1, none⟩) (Kd.S_far (p := ⟨gb214, 0, none⟩) (Kd.S_far (p := ⟨gb213, 1, none⟩) (Kd.S_types (Kd.S_types HO_214000.out BK213.out (by decide)) BK214.out (by decide)) (fun _ hk => hk.1.2) (.int .i64 t243)) (fun _ hk => hk.2) (.slice (some ⟨go30, 0, none⟩) l1_0.length co5)) (fun _ hk => hk.2) (.int .i64 t243)) (fun _ hk => hk.1.1), z4_0, z4_2, z4_1⟩
      replace c32 := Bool.eq_false_iff.mpr c32
      subst c32
      have H1 : (some (y239, x214001_3, t241, t242)) = some (r1, r2, r3, r4) := by rw [if_neg (show ¬ (false = true) by decide)] at H; exact H
      clear H
      have H := H1
      clear H1
      simp only [Option.some.injEq, Prod.mk.injEq] at H
      obtain ⟨rfl, rfl, rfl, rfl⟩ := H
      have hnb49 := NB213_214.out
      have hnc49 := NB214_213.out
      have hnb50 := NB213_0.out
      have hnc50 := NB0_213.out
      have hcz51_0 : w41.cell? ⟨gb213, 0, none⟩ = some (.slice (some ⟨go30, 0, none⟩) l1_0.length co5) := (qb0 BK213.out 0).trans rfl
      have hcz51_1 : w41.cell? ⟨gb213, 1, none⟩ = some (.int .i64 x214001_3) := (qb0 BK213.out 1).trans rfl
      have hfz51_0 := qa0 BK213.out 0
      have hfz51_1 := qa0 BK213.out 1
      go_wp2_with (first | ((with_reducible refine qg0 (f := 63) rfl ?_); refine qt0 (some 43) rfl rfl Try.func63 z4_12 rfl #[.pointer (some ⟨g, 0, none⟩), .int .i64 2] rfl z4_5 ?_; (with_reducible refine (spec_l1Once.calls g s0_0 t237 t238 2 false t241 t242 w0 _ ?side1 ?side2 A31.out).mono ?_); (case side1 => exact z4_0); (case side2 => exact z4_2); rintro e w58 ⟨rfl, hi, hb, hk⟩; refine ⟨_, rfl, ?_⟩; have n0_ := Aside0.mk (Kd.qq1 (Kd.S_keep (IsS186.apartS (show IsS186 w0 _ g s0_0 t237 t238 from z4_0) z4_6 (by decide)) hk (fun _ h => h.2)) (fun _ h => h.1)); have n1_ := Aside0.mk (qc0.blk hk (g' := gb213) (o := .cells #[.slice (some ⟨go30, 0, none⟩) l1_0.length co5, .int .i64 x214001_3] 169 (0, 0)) z4_3 NB213_0.out (by simp)); have n2_ := Aside0.mk (qc0.blk hk (g' := gb214) (o := .cells #[.slice none 0 0, .int .i64 0] 169 (0, 0)) z4_4 NB214_0.out (by simp)); have n3_ := Aside0.mk (Kept.qk1 (S := (fun k_ => (P1_0_ k_) ∨ k_ = g)) z4_1 hk (.inl (.inr rfl))); have n4_ := Aside0.mk (hb); have n5_ := Aside0.mk (hi); clear HO_214000; clear BK213; clear BK214; clear HK; clear HB; clear HI0; have HO_214000 := n0_; have BK213 := n1_; have BK214 := n2_; have HK := n3_; have HB := n4_; have HI0 := n5_; clear n0_ n1_ n2_ n3_ n4_ n5_; (try clear hb); (try clear hb2); (try clear hk); (try clear hi); have hcz59_0 : w58.cell? ⟨gb213, 0, none⟩ = some (.slice (some ⟨go30, 0, none⟩) l1_0.length co5) := (qb0 BK213.out 0).trans rfl; have hcz59_1 : w58.cell? ⟨gb213, 1, none⟩ = some (.int .i64 x214001_3) := (qb0 BK213.out 1).trans rfl; have hfz59_0 := qa0 BK213.out 0; have hfz59_1 := qa0 BK213.out 1; have hnb60 := NB214_0.out; have hnc60 := NB0_214.out; have hcz61_0 : w58.cell? ⟨gb214, 0, none⟩ = some (.slice none 0 0) := (qb0 BK214.out 0).trans rfl; have hcz61_1 : w58.cell? ⟨gb214, 1, none⟩ = some (.int .i64 0) := (qb0 BK214.out 1).trans rfl; have hfz61_0 := qa0 BK214.out 0; have hfz61_1 := qa0 BK214.out 1))
      refine bodyPost_ret (results_cell_row rfl _ _ gb214 169 #[.slice (some ⟨go30, 0, none⟩) l1_0.length co5, .int .i64 x214001_3] (0, 0) _ rfl (by (with_reducible repeat (first | refine qe0 ?_ _ | refine qf0 ?_ | refine qd0 ?_ _)); refine qo0 (cs := #[.slice (some ⟨go30, 0, none⟩) l1_0.length co5, .int .i64 0]) ?_ 1 _ rfl; (with_reducible repeat (first | refine qe0 ?_ _ | refine qf0 ?_ | refine qd0 ?_ _)); refine qo0 (cs := #[.slice none 0 0, .int .i64 0]) ?_ 0 _ rfl; (with_reducible repeat (first | refine qe0 ?_ _ | refine qf0 ?_ | refine qd0 ?_ _)); exact BK214.out) Try.underlying169 rfl z4_12) rfl ?_
      exact ⟨_, z4_15, by (with_reducible repeat (first | apply Kd.qa2 | apply Kd.qz1 | apply Kd.qd2)); exact Kd.qq1 (Kd.S_far (p := ⟨gb214, 1, none⟩) (Kd.S_far (p := ⟨gb214, 0, none⟩) (Kd.S_types HO_214000.out BK214.out (by decide)) (fun _ hk => hk.2) (.slice (some ⟨go30, 0, none⟩) l1_0.length co5)) (fun _ hk => hk.2) (.int .i64 x214001_3)) (fun _ hk => hk.1), z4_0, z4_2, z4_1⟩
     replace c25 := Bool.eq_false_iff.mpr c25
     subst c25
     have H1 : (some (l1_0, x214001_3, x1001_16, x1002_16)) = some (r1, r2, r3, r4) := by rw [if_neg (show ¬ (false = true) by decide)] at H; exact H
     clear H
     have H := H1
     clear H1
     simp only [Option.some.injEq, Prod.mk.injEq] at H
     obtain ⟨rfl, rfl, rfl, rfl⟩ := H
     have hnb62 := NB213_214.out
     have hnc62 := NB214_213.out
     have hnb63 := NB213_0.out
     have hnc63 := NB0_213.out
     have hcz64_0 : wc.cell? ⟨gb213, 0, none⟩ = some (.slice Ao5 l1_0.length co5) := (qb0 BK213.out 0).trans rfl
     have hcz64_1 : wc.cell? ⟨gb213, 1, none⟩ = some (.int .i64 x214001_3) := (qb0 BK213.out 1).trans rfl
     have hfz64_0 := qa0 BK213.out 0
     have hfz64_1 := qa0 BK213.out 1
     have hnb65 := NB214_0.out
     have hnc65 := NB0_214.out
     have hcz66_0 : wc.cell? ⟨gb214, 0, none⟩ = some (.slice none 0 0) := (qb0 BK214.out 0).trans rfl
     have hcz66_1 : wc.cell? ⟨gb214, 1, none⟩ = some (.int .i64 0) := (qb0 BK214.out 1).trans rfl
     have hfz66_0 := qa0 BK214.out 0
     have hfz66_1 := qa0 BK214.out 1
     go_wp2
     refine bodyPost_ret (results_cell_row rfl _ _ gb214 169 #[.slice Ao5 l1_0.length co5, .int .i64 x214001_3] (0, 0) _ rfl (by (with_reducible repeat (first | refine qe0 ?_ _ | refine qf0 ?_ | refine qd0 ?_ _)); refine qo0 (cs := #[.slice Ao5 l1_0.length co5, .int .i64 0]) ?_ 1 _ rfl; (with_reducible repeat (first | refine qe0 ?_ _ | refine qf0 ?_ | refine qd0 ?_ _)); refine qo0 (cs := #[.slice none 0 0, .int .i64 0]) ?_ 0 _ rfl; (with_reducible repeat (first | refine qe0 ?_ _ | refine qf0 ?_ | refine qd0 ?_ _)); exact BK214.out) Try.underlying169 rfl z4_12) rfl ?_
     exact ⟨_, z4_15, by (with_reducible repeat (first | apply Kd.qa2 | apply Kd.qz1 | apply Kd.qd2)); exact Kd.qq1 (Kd.S_far (p := ⟨gb214, 1, none⟩) (Kd.S_far (p := ⟨gb214, 0, none⟩) (Kd.S_types HO_214000.out BK214.out (by decide)) (fun _ hk => hk.2) (.slice Ao5 l1_0.length co5)) (fun _ hk => hk.2) (.int .i64 x214001_3)) (fun _ hk => hk.1), z4_0, z4_2, z4_1⟩


end Go.Proofs.Ytkkdmmefnicmaaa.PFnChained
