/- Lines by a program (a changed copy of the kit's print: this repo's wip/tools): Go functions as Lean functions, and proofs that the calls answer so. -/
import Derived.Test.YtkkdmmefnicmaaaZPFnChainedx0
import Derived.Test.YtkkdmmefnicmaaaZPFnChainedx1
import Derived.Test.YtkkdmmefnicmaaaZPFnChainedx2
namespace Go.Proofs.Ytkkdmmefnicmaaa.PFnChained
open Go.RowKit Go.Proofs.YtkkdmmefnicmaaaW.PrintWords Go.Proofs.YtkkdmmefnicmaaaW.PrintLast Go.Proofs.YtkkdmmefnicmaaaW.PrintMore
/-- Closing blocks told once. -/
theorem z3_0 {P : Prop} (h : P := by repeat (first | (with_reducible first | exact HI0.out | apply IsS186.alloc | apply IsS186.drewN | apply IsS186.drew | apply IsS186.set_1 | apply IsS186.set_2 | refine IsS186.far ?_ NB0_159.out _ | refine IsS186.far ?_ NB0_160.out _) | exact HI0.out)) : P := h
theorem z3_1 {P : Prop} (h : P := by repeat (first | (with_reducible first | exact HK.out | apply Kept.alloc | apply Kept.drewN | apply Kept.drew | refine Kept.setCell ?_ (.inl (.inr rfl)) _ | refine Kept.setCell ?_ (.inr GW159.out) _ | refine Kept.setCell ?_ (.inr GW160.out) _) | exact HK.out)) : P := h
theorem z3_2 {P : Prop} (h : P := by repeat (first | (with_reducible first | exact HB.out | apply qj0 | apply qh0 | apply qi0 | refine qk0 ?_ (IsS186.ge HI0.out) | refine qk0 ?_ GE159.out | refine qk0 ?_ GE160.out) | exact HB.out)) : P := h
theorem z3_3 {P : Prop} (h : P := by (with_reducible repeat (first | refine qe0 ?_ _ | refine qf0 ?_ | refine qd0 ?_ _)); refine qo0 (cs := #[.int .i64 a1_0, .int .i64 a1_1, .string a1_2, .slice none 0 0]) ?_ 3 _ rfl; (with_reducible repeat (first | refine qe0 ?_ _ | refine qf0 ?_ | refine qd0 ?_ _)); refine qo0 (cs := #[.int .i64 a1_0, .int .i64 a1_1, .string (⟨#[]⟩ : ByteArray), .slice none 0 0]) ?_ 2 _ rfl; (with_reducible repeat (first | refine qe0 ?_ _ | refine qf0 ?_ | refine qd0 ?_ _)); refine qo0 (cs := #[.int .i64 a1_0, .int .i64 0, .string (⟨#[]⟩ : ByteArray), .slice none 0 0]) ?_ 1 _ rfl; (with_reducible repeat (first | refine qe0 ?_ _ | refine qf0 ?_ | refine qd0 ?_ _)); refine qo0 (cs := #[.int .i64 0, .int .i64 0, .string (⟨#[]⟩ : ByteArray), .slice none 0 0]) ?_ 0 _ rfl; (with_reducible repeat (first | refine qe0 ?_ _ | refine qf0 ?_ | refine qd0 ?_ _)); exact BK160.out) : P := h
theorem z3_4 {P : Prop} (h : P := by (with_reducible repeat (first | refine qe0 ?_ _ | refine qf0 ?_ | refine qd0 ?_ _)); exact BK159.out) : P := h
theorem z3_5 {P : Prop} (h : P := by (with_reducible repeat (first | refine qe0 ?_ _ | refine qf0 ?_ | refine qd0 ?_ _)); exact BK160.out) : P := h
theorem z3_6 {P : Prop} (h : P := by (try simp only [List.map_toArray, List.map_cons, List.map_nil]); first | done | rfl | (simp only [List.length_drop, List.length_take]; rfl)) : P := h
theorem z3_7 {P : Prop} (h : P := by (with_reducible repeat (first | apply Kd.qr0 | apply Kd.qp0 | apply Kd.qu0)); exact HO_160003.out) : P := h
theorem z3_8 {P : Prop} (h : P := by first | (with_reducible assumption) | assumption) : P := h
theorem z3_9 {P : Prop} (h : P := by first | (rw [add_block]; exact Kd.own_blk (IsS186.own_ne HI0.out HO_160003.out (by decide))) | (show (Addr.add _ _).block ≠ _; rw [add_block]; exact Kd.own_blk (IsS186.own_ne HI0.out HO_160003.out (by decide))) | exact Kd.own_blk (IsS186.own_ne HI0.out HO_160003.out (by decide))) : P := h
theorem z3_10 {P : Prop} (h : P := by first | exact HK.out.1 | exact (show Kept w _ (fun k_ => (P1_3_ k_) ∨ k_ = g) from by repeat (first | (with_reducible first | exact HK.out | apply Kept.alloc | apply Kept.drewN | apply Kept.drew | refine Kept.setCell ?_ (.inl (.inr rfl)) _ | refine Kept.setCell ?_ (.inr GW159.out) _ | refine Kept.setCell ?_ (.inr GW160.out) _) | exact HK.out)).1) : P := h
theorem z3_11 {P : Prop} (h : P := by kernel_rfl) : P := h
theorem z3_12 {P : Prop} (h : P := by first | rfl | (simp [errW_none, errW_some] <;> rfl) | (simp [*, errW_none, errW_some] <;> rfl)) : P := h
theorem z3_13 {P : Prop} (h : P := by (with_reducible repeat (first | apply Kd.qr0 | apply Kd.qp0 | apply Kd.qu0)); exact Kd.qm0 (Kd.R_far (p := ⟨gb160, 3, none⟩) (Kd.R_far (p := ⟨gb160, 2, none⟩) (Kd.R_far (p := ⟨gb160, 1, none⟩) (Kd.R_far (p := ⟨gb160, 0, none⟩) (Kd.qi1 HO_160003.out BK160.out (by decide)) (fun _ hk => hk.2) (.int .i64 a1_0)) (fun _ hk => hk.2) (.int .i64 a1_1)) (fun _ hk => hk.2) (.string a1_2)) (fun _ hk => hk.2) (.slice Ao4 l1_3.length co4)) (fun _ hk => hk.1)) : P := h
theorem z3_14 {P : Prop} (h : P := by repeat (first | (with_reducible first | exact HI0.out | apply IsS186.alloc | apply IsS186.drewN | apply IsS186.drew | apply IsS186.set_1 | apply IsS186.set_2 | refine IsS186.far ?_ NB0_159.out _) | exact HI0.out)) : P := h
theorem z3_15 {P : Prop} (h : P := by (with_reducible repeat (first | apply Kd.qr0 | apply Kd.qp0 | apply Kd.qu0)); exact HO1_3.out) : P := h
theorem z3_16 {P : Prop} (h : P := by decide) : P := h
theorem z3_17 {P : Prop} (h : P := by repeat (first | (with_reducible first | exact HI0.out | apply IsS186.alloc | apply IsS186.drewN | apply IsS186.drew | apply IsS186.set_1 | apply IsS186.set_2) | exact HI0.out)) : P := h
theorem z3_18 {P : Prop} (h : P := by repeat (first | (with_reducible first | exact HK.out | apply Kept.alloc | apply Kept.drewN | apply Kept.drew | refine Kept.setCell ?_ (.inl (.inr rfl)) _ | refine Kept.setCell ?_ (.inr GW159.out) _) | exact HK.out)) : P := h
theorem z3_19 {P : Prop} (h : P := by repeat (first | (with_reducible first | exact HB.out | apply qj0 | apply qh0 | apply qi0 | refine qk0 ?_ (IsS186.ge HI0.out) | refine qk0 ?_ GE159.out) | exact HB.out)) : P := h
theorem z3_20 {P : Prop} (h : P := by repeat (first | (with_reducible first | exact HB.out | apply qj0 | apply qh0 | apply qi0 | refine qk0 ?_ (IsS186.ge HI0.out)) | exact HB.out)) : P := h
theorem z3_21 {P : Prop} (h : P := by repeat (first | (with_reducible first | exact HK.out | apply Kept.alloc | apply Kept.drewN | apply Kept.drew | refine Kept.setCell ?_ (.inl (.inr rfl)) _) | exact HK.out)) : P := h
theorem z3_22 {P : Prop} (h : P := by first | (go_simp; done) | (go_simp; rfl)) : P := h
/-- Runs of true and false, by turns. -/
def rb3l : Bool → List Nat → List Bool
 | _, [] => []
 | b, n :: r => List.replicate n b ++ rb3l (!b) r
def rb3 (l : List Nat) : Array Bool := (rb3l true l).toArray
attribute [local go_sem] max2_int min2_int max_two min_two max_three min_three max_four min_four   -- for this text's walks alone
set_option linter.unusedVariables false
set_option linter.unusedSimpArgs false

/-! ### spec_l5SpoilEntry: function 154 -/
def spec_l5SpoilEntry.j0 : Nat → Bool → List Int → Int → Int → Int → Int → ByteArray → List (S100) → Option (Int × Int × ByteArray × (List (S100)) × Int × Int)
 | 0, _, _, _, _, _, _, _, _ => none
 | k + 1, x14, x1000, x1001, x1002, x160000, x160001, x160002, x160003 => if x14 = true then (some (x160000, x160001, x160002, x160003, x1001, x1002)) else ((spec_l1Below.f x1000 x1001 x1002 (x160003.length : Int)).bind fun bt164 => ((spec_l1Below.f x1000 bt164.2.1 bt164.2.2 9).bind fun bt167 => (if bt167.1 = 0 then ((spec_l1PickInt.f x1000 bt167.2.1 bt167.2.2 (([(-1), 40001] : List Int))).bind fun bt173 => (some (bt173.1, x160001, x160002, x160003, bt173.2.1, bt173.2.2))) else (if bt167.1 = 1 then ((spec_l1PickInt.f x1000 bt167.2.1 bt167.2.2 (([(-1), 1000, 1001] : List Int))).bind fun bt179 => (some (x160000, bt179.1, x160002, x160003, bt179.2.1, bt179.2.2))) else (if bt167.1 = 2 then ((spec_l1Pick.f x1000 bt167.2.1 bt167.2.2 (([(⟨#[97, 10, 98]⟩ : ByteArray), (⟨#[48, 49, 50, 51, 52, 53, 54, 55, 56, 57, 48, 49, 50, 51, 52, 53, 54, 55, 56, 57, 48, 49, 50, 51, 52, 53, 54, 55, 56, 57, 48, 49, 50, 51, 52, 53, 54, 55, 56, 57]⟩ : ByteArray), (⟨#[48, 49, 50, 51, 52, 53, 54, 55, 56, 57, 48, 49, 50, 51, 52, 53, 54, 55, 56, 57, 48, 49, 50, 51, 52, 53, 54, 55, 56, 57, 48, 49, 50, 51, 52, 53, 54, 55, 56, 57, 48]⟩ : ByteArray), (⟨#[31]⟩ : ByteArray), (⟨#[32]⟩ : ByteArray)] : List ByteArray))).bind fun bt185 => (some (x160000, x160001, bt185.1, x160003, bt185.2.1, bt185.2.2))) else (if bt167.1 = 3 then ((spec_l1Below.f x1000 bt167.2.1 bt167.2.2 12).bind fun bt188 => (if 0 ≤ bt164.1 then (if bt164.1 < (x160003.length : Int) then (some (x160000, x160001, x160002, (x160003.set (bt164.1 : Int).toNat (⟨wrap64 (bt188.1 - 1), (rd_T100 x160003 bt164.1).f1, (rd_T100 x160003 bt164.1).f2, (rd_T100 x160003 bt164.1).f3, (rd_T100 x160003 bt164.1).f4⟩ : S100)), bt188.2.1, bt188.2.2)) else (none)) else (none))) else (if bt167.1 = 4 then ((spec_l1Below.f x1000 bt167.2.1 bt167.2.2 4).bind fun bt192 => (if 0 ≤ bt164.1 then (if bt164.1 < (x160003.length : Int) then (some (x160000, x160001, x160002, (x160003.set (bt164.1 : Int).toNat (⟨(rd_T100 x160003 bt164.1).f0, wrap64 (bt192.1 - 1), (rd_T100 x160003 bt164.1).f2, (rd_T100 x160003 bt164.1).f3, (rd_T100 x160003 bt164.1).f4⟩ : S100)), bt192.2.1, bt192.2.2)) else (none)) else (none))) else (if bt167.1 = 5 then ((spec_l1Below.f x1000 bt167.2.1 bt167.2.2 4).bind fun bt196 => (if 0 ≤ bt164.1 then (if bt164.1 < (x160003.length : Int) then (some (x160000, x160001, x160002, (x160003.set (bt164.1 : Int).toNat (⟨(rd_T100 x160003 bt164.1).f0, (rd_T100 x160003 bt164.1).f1, wrap64 (bt196.1 - 1), (rd_T100 x160003 bt164.1).f3, (rd_T100 x160003 bt164.1).f4⟩ : S100)), bt196.2.1, bt196.2.2)) else (none)) else (none))) else (if bt167.1 = 6 then (if 0 ≤ bt164.1 then (if bt164.1 < (x160003.length : Int) then ((spec_l1PickInt.f x1000 bt167.2.1 bt167.2.2 (([1, (-1), 100000000000] : List Int))).bind fun bt204 => (some (x160000, x160001, x160002, (x160003.set (bt164.1 : Int).toNat (⟨(rd_T100 x160003 bt164.1).f0, (rd_T100 x160003 bt164.1).f1, (rd_T100 x160003 bt164.1).f2, wrap64 (((rd_T100 x160003 bt164.1).f3) + bt204.1), (rd_T100 x160003 bt164.1).f4⟩ : S100)), bt204.2.1, bt204.2.2))) else (none)) else (none)) else (if bt167.1 = 7 then (if 0 ≤ bt164.1 then (if bt164.1 < (x160003.length : Int) then (some (x160000, x160001, x160002, (x160003.set (bt164.1 : Int).toNat (⟨(rd_T100 x160003 bt164.1).f0, (rd_T100 x160003 bt164.1).f1, (rd_T100 x160003 bt164.1).f2, (rd_T100 x160003 bt164.1).f3, wrap64 (((rd_T100 x160003 bt164.1).f4) + 1)⟩ : S100)), bt167.2.1, bt167.2.2)) else (none)) else (none)) else (if bt167.1 = 8 then (if 0 ≤ bt164.1 then (if bt164.1 ≤ (x160003.length : Int) then (some (x160000, x160001, x160002, (x160003.take (bt164.1 : Int).toNat), bt167.2.1, bt167.2.2)) else (none)) else (none)) else (some (x160000, x160001, x160002, x160003, bt167.2.1, bt167.2.2)))))))))))))
def spec_l5SpoilEntry.f (k : Nat) (s0_0 : List Int) (s0_1 : Int) (s0_2 : Int) (a1_0 : Int) (a1_1 : Int) (a1_2 : ByteArray) (l1_3 : List (S100)) : Option (Int × Int × ByteArray × (List (S100)) × Int × Int) := (spec_l1Once.f s0_0 s0_1 s0_2 8).bind fun bt161 => (if bt161.1 = true then (spec_l5SpoilEntry.j0 k ((l1_3.length : Int) == 0) s0_0 bt161.2.1 bt161.2.2 a1_0 a1_1 a1_2 l1_3) else (spec_l5SpoilEntry.j0 k true s0_0 bt161.2.1 bt161.2.2 a1_0 a1_1 a1_2 l1_3))
theorem spec_l5SpoilEntry.mono_l : ∀ k, (∀ y0 y1 y2 y3 y4 y5 y6 y7, LeO (spec_l5SpoilEntry.j0 k y0 y1 y2 y3 y4 y5 y6 y7) (spec_l5SpoilEntry.j0 (k + 1) y0 y1 y2 y3 y4 y5 y6 y7))
 | 0 => fun _ _ _ _ _ _ _ _ r h => by simp [spec_l5SpoilEntry.j0] at h
 | k + 1 => by
  have ih0 := spec_l5SpoilEntry.mono_l k
  ·intro y0 y1 y2 y3 y4 y5 y6 y7
   unfold spec_l5SpoilEntry.j0
   repeat' first
   | (with_reducible exact ih0 _ _ _ _ _ _ _ _)
   | (with_reducible exact LeO.refl _)
   | (with_reducible exact LeO.none _)
   | (with_reducible refine LeO.ite ?_ ?_)
   | (with_reducible refine LeO.bind ?_ (fun _ => ?_))
   | exact ih0 _ _ _ _ _ _ _ _
   | exact LeO.none _
   | refine LeO.ite ?_ ?_
   | refine LeO.bind ?_ (fun _ => ?_)
theorem spec_l5SpoilEntry.mono : ∀ a0 a1 a2 a3 a4 a5 a6 k, LeO (spec_l5SpoilEntry.f k a0 a1 a2 a3 a4 a5 a6) (spec_l5SpoilEntry.f (k + 1) a0 a1 a2 a3 a4 a5 a6) := by
 intro a0 a1 a2 a3 a4 a5 a6 k
 have ih0 := spec_l5SpoilEntry.mono_l k
 unfold spec_l5SpoilEntry.f
 repeat' first
   | (with_reducible exact ih0 _ _ _ _ _ _ _ _)
   | (with_reducible exact LeO.refl _)
   | (with_reducible exact LeO.none _)
   | (with_reducible refine LeO.ite ?_ ?_)
   | (with_reducible refine LeO.bind ?_ (fun _ => ?_))
   | exact ih0 _ _ _ _ _ _ _ _
   | exact LeO.none _
   | refine LeO.ite ?_ ?_
   | refine LeO.bind ?_ (fun _ => ?_)
def spec_l5SpoilEntry.T12 : Bool × List (List Nat × List Nat) := (true, [([], []), ([0], [0]), ([], []), ([], []), ([3], [3]), ([4], [4]), ([1, 2, 0, 1, 2, 3, 4, 5], [1, 2]), ([6, 0, 1, 2, 3, 4, 5], [6]), ([7, 5, 4, 0, 1, 2, 3, 4, 5], [5, 7])])
def spec_l5SpoilEntry.B12 : List Nat := [0, 1, 0, 0, 8, 24, 63, 127, 255]
theorem spec_l5SpoilEntry.tab12 : rtab .any (opsOf Try.f154 12) = spec_l5SpoilEntry.T12 := by kernel_rfl
theorem spec_l5SpoilEntry.bits12 : waitsOk spec_l5SpoilEntry.T12.2 spec_l5SpoilEntry.B12 = true := by kernel_rfl
def spec_l5SpoilEntry.T14 : Bool × List (List Nat × List Nat) := (true, [([], []), ([0], [0]), ([], []), ([], []), ([3], [3]), ([4], [4]), ([1, 2, 0, 1, 2, 3, 4, 5], [1, 2]), ([6, 0, 1, 2, 3, 4, 5], [6]), ([7, 5, 4, 0, 1, 2, 3, 4, 5], [5, 7])])
def spec_l5SpoilEntry.B14 : List Nat := [0, 1, 0, 0, 8, 24, 63, 127, 255]
theorem spec_l5SpoilEntry.tab14 : rtab .any (opsOf Try.f154 14) = spec_l5SpoilEntry.T14 := by kernel_rfl
theorem spec_l5SpoilEntry.bits14 : waitsOk spec_l5SpoilEntry.T14.2 spec_l5SpoilEntry.B14 = true := by kernel_rfl
def spec_l5SpoilEntry.T16 : Bool × List (List Nat × List Nat) := (true, [([], []), ([0], [0]), ([], []), ([], []), ([3], [3]), ([4], [4]), ([1, 2, 0, 1, 2, 3, 4, 5], [1, 2]), ([6, 0, 1, 2, 3, 4, 5], [6]), ([7, 5, 4, 0, 1, 2, 3, 4, 5], [5, 7])])
def spec_l5SpoilEntry.B16 : List Nat := [0, 1, 0, 0, 8, 24, 63, 127, 255]
theorem spec_l5SpoilEntry.tab16 : rtab .any (opsOf Try.f154 16) = spec_l5SpoilEntry.T16 := by kernel_rfl
theorem spec_l5SpoilEntry.bits16 : waitsOk spec_l5SpoilEntry.T16.2 spec_l5SpoilEntry.B16 = true := by kernel_rfl
def spec_l5SpoilEntry.T18 : Bool × List (List Nat × List Nat) := (true, [([], []), ([0], [0]), ([], []), ([], []), ([3], [3]), ([], []), ([4, 5], [4, 5]), ([6], [6]), ([7], [7]), ([], []), ([], []), ([9, 10], [9, 10]), ([8, 11], [8, 11]), ([1, 2, 0, 1, 2, 3, 4, 5, 6, 7, 8, 9, 10, 11, 12], [1, 2]), ([13, 0, 1, 2, 3, 4, 5, 6, 7, 8, 9, 10, 11, 12], [13]), ([14, 12, 11, 0, 1, 2, 3, 4, 5, 6, 7, 8, 9, 10, 11, 12], [12, 14])])
def spec_l5SpoilEntry.B18 : List Nat := [0, 1, 0, 0, 8, 0, 56, 120, 248, 0, 0, 1536, 4088, 8191, 16383, 32767]
theorem spec_l5SpoilEntry.tab18 : rtab .any (opsOf Try.f154 18) = spec_l5SpoilEntry.T18 := by kernel_rfl
theorem spec_l5SpoilEntry.bits18 : waitsOk spec_l5SpoilEntry.T18.2 spec_l5SpoilEntry.B18 = true := by kernel_rfl
def spec_l5SpoilEntry.T20 : Bool × List (List Nat × List Nat) := (true, [([], []), ([0], [0]), ([], []), ([], []), ([3], [3]), ([], []), ([4, 5], [4, 5]), ([6], [6]), ([7], [7]), ([8], [8]), ([1, 2, 0, 1, 2, 3, 4, 5, 6, 7, 8, 9], [1, 2]), ([10, 0, 1, 2, 3, 4, 5, 6, 7, 8, 9], [10]), ([11, 9, 0, 1, 2, 3, 4, 5, 6, 7, 8, 9], [9, 11])])
def spec_l5SpoilEntry.B20 : List Nat := [0, 1, 0, 0, 8, 0, 56, 120, 248, 504, 1023, 2047, 4095]
theorem spec_l5SpoilEntry.tab20 : rtab .any (opsOf Try.f154 20) = spec_l5SpoilEntry.T20 := by kernel_rfl
theorem spec_l5SpoilEntry.bits20 : waitsOk spec_l5SpoilEntry.T20.2 spec_l5SpoilEntry.B20 = true := by kernel_rfl
set_option maxHeartbeats 8000000 in
set_option maxRecDepth 100000 in
theorem spec_l5SpoilEntry.calls (k : Nat) (g : Nat) (s0_0 : List Int) (s0_1 : Int) (s0_2 : Int) (a1_0 : Int) (a1_1 : Int) (a1_2 : ByteArray) (P1_3_ : Nat → Prop) (u9000_ : Value) (l1_3 : List (S100)) (r1 : Int) (r2 : Int) (r3 : ByteArray) (r4 : List (S100)) (r5 : Int) (r6 : Int) (w0 w : World) (hI : IsS186 w0 w g s0_0 s0_1 s0_2) (hB : Below w0.heap.size w0 w) (ho1_3 : Kd.R k100 100 w w0.heap.size P1_3_ u9000_ l1_3) (h : spec_l5SpoilEntry.f k s0_0 s0_1 s0_2 a1_0 a1_1 a1_2 l1_3 = some (r1, r2, r3, r4, r5, r6)) :
  Calls Try.prog 154 #[.pointer (some ⟨g, 0, none⟩), .agg #[.int .i64 a1_0, .int .i64 a1_1, .string a1_2, u9000_]] w fun e w' => ∃ v3_ : Value, e = .returned (.agg #[.int .i64 r1, .int .i64 r2, .string r3, v3_]) ∧ Kd.R k100 100 w' w0.heap.size (fun k_ => (P1_3_ k_ ∨ w.heap.size ≤ k_)) v3_ r4 ∧ IsS186 w0 w' g s0_0 r5 r6 ∧ Below w0.heap.size w0 w' ∧ Kept w w' (fun k_ => (P1_3_ k_) ∨ k_ = g) := by
 have hu98 := Try.underlying98
 have HO1_3 := Aside0.mk (show Kd.R k100 100 w w0.heap.size (fun k_ => (P1_3_ k_ ∨ w.heap.size ≤ k_)) u9000_ l1_3 from Kd.qm0 ho1_3 (fun k_ hk => (.inl hk)))
 have HI0 := Aside0.mk hI
 have HL := Aside0.mk hB.size
 clear hI
 have HK := Aside0.mk (Kept.refl w (fun k_ => (P1_3_ k_) ∨ k_ = g))
 have HW0 := Aside0.mk hB.size
 have HB := Aside0.mk hB
 clear hB
 have H : ((spec_l1Once.f s0_0 s0_1 s0_2 8).bind fun bt161 => (if bt161.1 = true then (spec_l5SpoilEntry.j0 k ((l1_3.length : Int) == 0) s0_0 bt161.2.1 bt161.2.2 a1_0 a1_1 a1_2 l1_3) else (spec_l5SpoilEntry.j0 k true s0_0 bt161.2.1 bt161.2.2 a1_0 a1_1 a1_2 l1_3))) = some (r1, r2, r3, r4, r5, r6) := h
 clear h
 have HC3 := Aside0.mk H
 clear H
 obtain ⟨Ao4, co4, eo4⟩ := Kd.qn1 HO1_3.out
 subst eo4
 go_enter Try.func154, Try.ntmps154
 go_upto_region 1 with (first | ((with_reducible refine qa1 (N := 3) rfl ?_); (try (refine gate_guard (by rfl) ?_; dsimp only)); refine qe1 ?hg (N := 3) ?hd (cs := #[.int .i64 a1_0, .int .i64 a1_1, .string a1_2, .slice Ao4 l1_3.length co4]) (t := 98) ?hr ?_; (case hd => rfl); (case hg => rfl); (case hr => exact z3_22); intro gb159 hg w5 hbox hb; have n0_ := Aside0.mk (Kd.qy1 z3_15 hb); have n1_ := Aside0.mk (IsS186.below z3_17 hb); have n2_ := Aside0.mk (Kept.below (S := (fun k_ => (P1_3_ k_) ∨ k_ = g)) z3_21 hb); have n3_ := Aside0.mk (ql0 z3_20 hb); have n4_ := Aside0.mk (hbox); have n5_ := Aside0.mk ((by rw [hg]; exact (by first | exact HK.out.1 | exact (show Kept w _ (fun k_ => (P1_3_ k_) ∨ k_ = g) from z3_21).1) : w.heap.size ≤ gb159)); have n6_ := Aside0.mk ((by rw [hg]; exact (qv0 z3_20) : w0.heap.size ≤ gb159)); have n7_ := Aside0.mk ((by rw [hg]; exact Nat.ne_of_lt (IsS186.lt (show IsS186 w0 _ g s0_0 s0_1 s0_2 from z3_17)) : g ≠ gb159)); have n8_ := Aside0.mk ((by rw [hg]; exact Nat.ne_of_gt (IsS186.lt (show IsS186 w0 _ g s0_0 s0_1 s0_2 from z3_17)) : gb159 ≠ g)); clear HO1_3; clear HI0; clear HK; clear HB; have HO1_3 := n0_; have HI0 := n1_; have HK := n2_; have HB := n3_; have BK159 := n4_; have GW159 := n5_; have GE159 := n6_; have NB0_159 := n7_; have NB159_0 := n8_; clear n0_ n1_ n2_ n3_ n4_ n5_ n6_ n7_ n8_; clear hb hbox hg) | ((with_reducible refine qa1 (N := 4) rfl ?_); (try (refine gate_guard (by rfl) ?_; dsimp only)); refine qe1 ?hg (N := 4) ?hd (cs := #[.int .i64 0, .int .i64 0, .string (⟨#[]⟩ : ByteArray), .slice none 0 0]) (t := 98) ?hr ?_; (case hd => rfl); (case hg => rfl); (case hr => exact z3_22); intro gb160 hg w6 hbox hb; have n0_ := Aside0.mk (Kd.qy1 z3_15 hb); have n1_ := Aside0.mk (IsS186.below z3_14 hb); have n2_ := Aside0.mk (qz0 (g := gb159) (o := .cells #[.int .i64 a1_0, .int .i64 a1_1, .string a1_2, .slice Ao4 l1_3.length co4] 98 (0, 0)) z3_4 hb); have n3_ := Aside0.mk (Kept.below (S := (fun k_ => (P1_3_ k_) ∨ k_ = g)) z3_18 hb); have n4_ := Aside0.mk (ql0 z3_19 hb); have n5_ := Aside0.mk (hbox); have n6_ := Aside0.mk ((by rw [hg]; exact (by first | exact HK.out.1 | exact (show Kept w _ (fun k_ => (P1_3_ k_) ∨ k_ = g) from z3_18).1) : w.heap.size ≤ gb160)); have n7_ := Aside0.mk ((by rw [hg]; exact (qv0 z3_19) : w0.heap.size ≤ gb160)); have n8_ := Aside0.mk ((by rw [hg]; exact Nat.ne_of_lt (blk_lt (g := gb159) (o := .cells #[.int .i64 a1_0, .int .i64 a1_1, .string a1_2, .slice Ao4 l1_3.length co4] 98 (0, 0)) z3_4) : gb159 ≠ gb160)); have n9_ := Aside0.mk ((by rw [hg]; exact Nat.ne_of_gt (blk_lt (g := gb159) (o := .cells #[.int .i64 a1_0, .int .i64 a1_1, .string a1_2, .slice Ao4 l1_3.length co4] 98 (0, 0)) z3_4) : gb160 ≠ gb159)); have n10_ := Aside0.mk ((by rw [hg]; exact Nat.ne_of_lt (IsS186.lt (show IsS186 w0 _ g s0_0 s0_1 s0_2 from z3_14)) : g ≠ gb160)); have n11_ := Aside0.mk ((by rw [hg]; exact Nat.ne_of_gt (IsS186.lt (show IsS186 w0 _ g s0_0 s0_1 s0_2 from z3_14)) : gb160 ≠ g)); clear HO1_3; clear HI0; clear BK159; clear HK; clear HB; have HO1_3 := n0_; have HI0 := n1_; have BK159 := n2_; have HK := n3_; have HB := n4_; have BK160 := n5_; have GW160 := n6_; have GE160 := n7_; have NB159_160 := n8_; have NB160_159 := n9_; have NB0_160 := n10_; have NB160_0 := n11_; clear n0_ n1_ n2_ n3_ n4_ n5_ n6_ n7_ n8_ n9_ n10_ n11_; clear hb hbox hg))
 (try simp only [Act.put, List.setIfInBounds_toArray, List.set_cons_zero, List.set_cons_succ])
 go_cut [14] (fun v14 wc => ∃ (kq : Nat) (x14_2 : Bool) (x1001_2 : Int) (x1002_2 : Int), v14 = .bool x14_2 ∧ Aside0 (spec_l5SpoilEntry.j0 kq x14_2 s0_0 x1001_2 x1002_2 a1_0 a1_1 a1_2 l1_3 = some (r1, r2, r3, r4, r5, r6)) ∧ Aside0 (kq ≤ k) ∧ Aside0 (Kd.R k100 100 wc w0.heap.size (fun k_ => (P1_3_ k_ ∨ w.heap.size ≤ k_)) (.slice Ao4 l1_3.length co4) l1_3) ∧ Aside0 (wc.heap[gb159]? = some (.cells #[.int .i64 a1_0, .int .i64 a1_1, .string a1_2, (.slice Ao4 l1_3.length co4)] 98 (0, 0))) ∧ Aside0 (wc.heap[gb160]? = some (.cells #[.int .i64 0, .int .i64 0, .string (⟨#[]⟩ : ByteArray), (.slice none 0 0)] 98 (0, 0))) ∧ Aside0 (IsS186 w0 wc g s0_0 x1001_2 x1002_2) ∧ Aside0 (Kept w wc (fun k_ => (P1_3_ k_) ∨ k_ = g)) ∧ Aside0 (Below w0.heap.size w0 wc))
 case first =>
  have H := HC3.out
  clear HC3
  replace H := Option.bind_eq_some_iff.mp H
  obtain ⟨⟨t161, t162, t163⟩, A70, H⟩ := H
  replace H : (if t161 = true then (spec_l5SpoilEntry.j0 k ((l1_3.length : Int) == 0) s0_0 t162 t163 a1_0 a1_1 a1_2 l1_3) else (spec_l5SpoilEntry.j0 k true s0_0 t162 t163 a1_0 a1_1 a1_2 l1_3)) = some (r1, r2, r3, r4, r5, r6) := H
  have A7 := Aside0.mk A70
  clear A70
  by_cases c8 : t161 = true
  ·subst c8
   have H1 : (spec_l5SpoilEntry.j0 k ((l1_3.length : Int) == 0) s0_0 t162 t163 a1_0 a1_1 a1_2 l1_3) = some (r1, r2, r3, r4, r5, r6) := by rw [if_pos rfl] at H; exact H
   clear H
   have H := H1
   clear H1
   have H' := Aside0.mk H
   clear H
   go_wp2_with (first | ((with_reducible refine qg0 (f := 63) rfl ?_); refine qt0 (some 7) rfl rfl Try.func63 z3_11 rfl #[.pointer (some ⟨g, 0, none⟩), .int .i64 8] rfl z3_6 ?_; (with_reducible refine (spec_l1Once.calls g s0_0 s0_1 s0_2 8 true t162 t163 w0 _ ?side1 ?side2 A7.out).mono ?_); (case side1 => exact z3_0); (case side2 => exact z3_2); rintro e w9 ⟨rfl, hi, hb, hk⟩; refine ⟨_, rfl, ?_⟩; have n0_ := Aside0.mk (Kd.qm0 (Kd.qy0 (IsS186.apart (show IsS186 w0 _ g s0_0 s0_1 s0_2 from z3_0) z3_15 z3_16) hk (fun _ h => h.2)) (fun _ h => h.1)); have n1_ := Aside0.mk (qc0.blk hk (g' := gb159) (o := .cells #[.int .i64 a1_0, .int .i64 a1_1, .string a1_2, .slice Ao4 l1_3.length co4] 98 (0, 0)) z3_4 NB159_0.out (by simp)); have n2_ := Aside0.mk (qc0.blk hk (g' := gb160) (o := .cells #[.int .i64 0, .int .i64 0, .string (⟨#[]⟩ : ByteArray), .slice none 0 0] 98 (0, 0)) z3_5 NB160_0.out (by simp)); have n3_ := Aside0.mk (Kept.qk1 (S := (fun k_ => (P1_3_ k_) ∨ k_ = g)) z3_1 hk (.inl (.inr rfl))); have n4_ := Aside0.mk (hb); have n5_ := Aside0.mk (hi); clear HO1_3; clear BK159; clear BK160; clear HK; clear HB; clear HI0; have HO1_3 := n0_; have BK159 := n1_; have BK160 := n2_; have HK := n3_; have HB := n4_; have HI0 := n5_; clear n0_ n1_ n2_ n3_ n4_ n5_; (try clear hb); (try clear hb2); (try clear hk); (try clear hi); have hnb10 := NB159_160.out; have hnc10 := NB160_159.out; have hnb11 := NB159_0.out; have hnc11 := NB0_159.out; have hcz12_0 : w9.cell? ⟨gb159, 0, none⟩ = some (.int .i64 a1_0) := (qb0 BK159.out 0).trans rfl; have hcz12_1 : w9.cell? ⟨gb159, 1, none⟩ = some (.int .i64 a1_1) := (qb0 BK159.out 1).trans rfl; have hcz12_2 : w9.cell? ⟨gb159, 2, none⟩ = some (.string a1_2) := (qb0 BK159.out 2).trans rfl; have hcz12_3 : w9.cell? ⟨gb159, 3, none⟩ = some (.slice Ao4 l1_3.length co4) := (qb0 BK159.out 3).trans rfl; have hfz12_0 := qa0 BK159.out 0; have hfz12_1 := qa0 BK159.out 1; have hfz12_2 := qa0 BK159.out 2; have hfz12_3 := qa0 BK159.out 3))
   go_meet
   case rel => exact ⟨_, (((l1_3.length : Int) == 0)), (t162), (t163), (by first | rfl | (simp; done) | (simp [*]; done)), H', ⟨by first | omega | exact Nat.le_refl _⟩, ⟨z3_15⟩, ⟨z3_4⟩, ⟨z3_5⟩, ⟨z3_0⟩, ⟨z3_1⟩, ⟨z3_2⟩⟩
  replace c8 := Bool.eq_false_iff.mpr c8
  subst c8
  have H1 : (spec_l5SpoilEntry.j0 k true s0_0 t162 t163 a1_0 a1_1 a1_2 l1_3) = some (r1, r2, r3, r4, r5, r6) := by rw [if_neg (show ¬ (false = true) from z3_16)] at H; exact H
  clear H
  have H := H1
  clear H1
  have H' := Aside0.mk H
  clear H
  go_wp2_with (first | ((with_reducible refine qg0 (f := 63) rfl ?_); refine qt0 (some 7) rfl rfl Try.func63 z3_11 rfl #[.pointer (some ⟨g, 0, none⟩), .int .i64 8] rfl z3_6 ?_; (with_reducible refine (spec_l1Once.calls g s0_0 s0_1 s0_2 8 false t162 t163 w0 _ ?side1 ?side2 A7.out).mono ?_); (case side1 => exact z3_0); (case side2 => exact z3_2); rintro e w13 ⟨rfl, hi, hb, hk⟩; refine ⟨_, rfl, ?_⟩; have n0_ := Aside0.mk (Kd.qm0 (Kd.qy0 (IsS186.apart (show IsS186 w0 _ g s0_0 s0_1 s0_2 from z3_0) z3_15 z3_16) hk (fun _ h => h.2)) (fun _ h => h.1)); have n1_ := Aside0.mk (qc0.blk hk (g' := gb159) (o := .cells #[.int .i64 a1_0, .int .i64 a1_1, .string a1_2, .slice Ao4 l1_3.length co4] 98 (0, 0)) z3_4 NB159_0.out (by simp)); have n2_ := Aside0.mk (qc0.blk hk (g' := gb160) (o := .cells #[.int .i64 0, .int .i64 0, .string (⟨#[]⟩ : ByteArray), .slice none 0 0] 98 (0, 0)) z3_5 NB160_0.out (by simp)); have n3_ := Aside0.mk (Kept.qk1 (S := (fun k_ => (P1_3_ k_) ∨ k_ = g)) z3_1 hk (.inl (.inr rfl))); have n4_ := Aside0.mk (hb); have n5_ := Aside0.mk (hi); clear HO1_3; clear BK159; clear BK160; clear HK; clear HB; clear HI0; have HO1_3 := n0_; have BK159 := n1_; have BK160 := n2_; have HK := n3_; have HB := n4_; have HI0 := n5_; clear n0_ n1_ n2_ n3_ n4_ n5_; (try clear hb); (try clear hb2); (try clear hk); (try clear hi)))
  go_meet
  case rel => exact ⟨_, (true), (t162), (t163), (by first | rfl | (simp; done) | (simp [*]; done)), H', ⟨by first | omega | exact Nat.le_refl _⟩, ⟨z3_15⟩, ⟨z3_4⟩, ⟨z3_5⟩, ⟨z3_0⟩, ⟨z3_1⟩, ⟨z3_2⟩⟩
 case rest =>
  clear HC3
  try clear c1
  try clear p2
  try clear c6
  try clear c8
  try clear c10
  try clear c11
  try clear hcz12_0
  try clear hcz12_1
  try clear hcz12_2
  try clear hcz12_3
  try clear hfz12_0
  try clear hfz12_1
  try clear hfz12_2
  try clear hfz12_3
  obtain ⟨kq, x14_2, x1001_2, x1002_2, rfl, HA, HJ2, HO_160003, BK159, BK160, HI0, HK, HB⟩ := hcut
  cases kq with
  | zero => exact absurd HA.out (by simp [spec_l5SpoilEntry.j0])
  | succ kj2 =>
   have H := HA.out
   clear HA
   simp only [spec_l5SpoilEntry.j0] at H
   by_cases c14 : x14_2 = true
   ·subst c14
    have H1 : (some (a1_0, a1_1, a1_2, l1_3, x1001_2, x1002_2)) = some (r1, r2, r3, r4, r5, r6) := by rw [if_pos rfl] at H; exact H
    clear H
    have H := H1
    clear H1
    simp only [Option.some.injEq, Prod.mk.injEq] at H
    obtain ⟨rfl, rfl, rfl, rfl, rfl, rfl⟩ := H
    have hnb15 := NB159_160.out
    have hnc15 := NB160_159.out
    have hnb16 := NB159_0.out
    have hnc16 := NB0_159.out
    have hcz17_0 : wc.cell? ⟨gb159, 0, none⟩ = some (.int .i64 a1_0) := (qb0 BK159.out 0).trans rfl
    have hcz17_1 : wc.cell? ⟨gb159, 1, none⟩ = some (.int .i64 a1_1) := (qb0 BK159.out 1).trans rfl
    have hcz17_2 : wc.cell? ⟨gb159, 2, none⟩ = some (.string a1_2) := (qb0 BK159.out 2).trans rfl
    have hcz17_3 : wc.cell? ⟨gb159, 3, none⟩ = some (.slice Ao4 l1_3.length co4) := (qb0 BK159.out 3).trans rfl
    have hfz17_0 := qa0 BK159.out 0
    have hfz17_1 := qa0 BK159.out 1
    have hfz17_2 := qa0 BK159.out 2
    have hfz17_3 := qa0 BK159.out 3
    have hnb18 := NB160_0.out
    have hnc18 := NB0_160.out
    have hcz19_0 : wc.cell? ⟨gb160, 0, none⟩ = some (.int .i64 0) := (qb0 BK160.out 0).trans rfl
    have hcz19_1 : wc.cell? ⟨gb160, 1, none⟩ = some (.int .i64 0) := (qb0 BK160.out 1).trans rfl
    have hcz19_2 : wc.cell? ⟨gb160, 2, none⟩ = some (.string (⟨#[]⟩ : ByteArray)) := (qb0 BK160.out 2).trans rfl
    have hcz19_3 : wc.cell? ⟨gb160, 3, none⟩ = some (.slice none 0 0) := (qb0 BK160.out 3).trans rfl
    have hfz19_0 := qa0 BK160.out 0
    have hfz19_1 := qa0 BK160.out 1
    have hfz19_2 := qa0 BK160.out 2
    have hfz19_3 := qa0 BK160.out 3
    go_wp2
    refine bodyPost_ret (results_cell_row rfl _ _ gb160 98 #[.int .i64 a1_0, .int .i64 a1_1, .string a1_2, .slice Ao4 l1_3.length co4] (0, 0) _ rfl z3_3 Try.underlying98 rfl z3_11) rfl ?_
    exact ⟨_, z3_12, z3_13, z3_0, z3_2, z3_1⟩
   replace c14 := Bool.eq_false_iff.mpr c14
   subst c14
   have H1 : ((spec_l1Below.f s0_0 x1001_2 x1002_2 (l1_3.length : Int)).bind fun bt164 => ((spec_l1Below.f s0_0 bt164.2.1 bt164.2.2 9).bind fun bt167 => (if bt167.1 = 0 then ((spec_l1PickInt.f s0_0 bt167.2.1 bt167.2.2 (([(-1), 40001] : List Int))).bind fun bt173 => (some (bt173.1, a1_1, a1_2, l1_3, bt173.2.1, bt173.2.2))) else (if bt167.1 = 1 then ((spec_l1PickInt.f s0_0 bt167.2.1 bt167.2.2 (([(-1), 1000, 1001] : List Int))).bind fun bt179 => (some (a1_0, bt179.1, a1_2, l1_3, bt179.2.1, bt179.2.2))) else (if bt167.1 = 2 then ((spec_l1Pick.f s0_0 bt167.2.1 bt167.2.2 (([(⟨#[97, 10, 98]⟩ : ByteArray), (⟨#[48, 49, 50, 51, 52, 53, 54, 55, 56, 57, 48, 49, 50, 51, 52, 53, 54, 55, 56, 57, 48, 49, 50, 51, 52, 53, 54, 55, 56, 57, 48, 49, 50, 51, 52, 53, 54, 55, 56, 57]⟩ : ByteArray), (⟨#[48, 49, 50, 51, 52, 53, 54, 55, 56, 57, 48, 49, 50, 51, 52, 53, 54, 55, 56, 57, 48, 49, 50, 51, 52, 53, 54, 55, 56, 57, 48, 49, 50, 51, 52, 53, 54, 55, 56, 57, 48]⟩ : ByteArray), (⟨#[31]⟩ : ByteArray), (⟨#[32]⟩ : ByteArray)] : List ByteArray))).bind fun bt185 => (some (a1_0, a1_1, bt185.1, l1_3, bt185.2.1, bt185.2.2))) else (if bt167.1 = 3 then ((spec_l1Below.f s0_0 bt167.2.1 bt167.2.2 12).bind fun bt188 => (if 0 ≤ bt164.1 then (if bt164.1 < (l1_3.length : Int) then (some (a1_0, a1_1, a1_2, (l1_3.set (bt164.1 : Int).toNat (⟨wrap64 (bt188.1 - 1), (rd_T100 l1_3 bt164.1).f1, (rd_T100 l1_3 bt164.1).f2, (rd_T100 l1_3 bt164.1).f3, (rd_T100 l1_3 bt164.1).f4⟩ : S100)), bt188.2.1, bt188.2.2)) else (none)) else (none))) else (if bt167.1 = 4 then ((spec_l1Below.f s0_0 bt167.2.1 bt167.2.2 4).bind fun bt192 => (if 0 ≤ bt164.1 then (if bt164.1 < (l1_3.length : Int) then (some (a1_0, a1_1, a1_2, (l1_3.set (bt164.1 : Int).toNat (⟨(rd_T100 l1_3 bt164.1).f0, wrap64 (bt192.1 - 1), (rd_T100 l1_3 bt164.1).f2, (rd_T100 l1_3 bt164.1).f3, (rd_T100 l1_3 bt164.1).f4⟩ : S100)), bt192.2.1, bt192.2.2)) else (none)) else (none))) else (if bt167.1 = 5 then ((spec_l1Below.f s0_0 bt167.2.1 bt167.2.2 4).bind fun bt196 => (if 0 ≤ bt164.1 then (if bt164.1 < (l1_3.length : Int) then (some (a1_0, a1_1, a1_2, (l1_3.set (bt164.1 : Int).toNat (⟨(rd_T100 l1_3 bt164.1).f0, (rd_T100 l1_3 bt164.1).f1, wrap64 (bt196.1 - 1), (rd_T100 l1_3 bt164.1).f3, (rd_T100 l1_3 bt164.1).f4⟩ : S100)), bt196.2.1, bt196.2.2)) else (none)) else (none))) else (if bt167.1 = 6 then (if 0 ≤ bt164.1 then (if bt164.1 < (l1_3.length : Int) then ((spec_l1PickInt.f s0_0 bt167.2.1 bt167.2.2 (([1, (-1), 100000000000] : List Int))).bind fun bt204 => (some (a1_0, a1_1, a1_2, (l1_3.set (bt164.1 : Int).toNat (⟨(rd_T100 l1_3 bt164.1).f0, (rd_T100 l1_3 bt164.1).f1, (rd_T100 l1_3 bt164.1).f2, wrap64 (((rd_T100 l1_3 bt164.1).f3) + bt204.1), (rd_T100 l1_3 bt164.1).f4⟩ : S100)), bt204.2.1, bt204.2.2))) else (none)) else (none)) else (if bt167.1 = 7 then (if 0 ≤ bt164.1 then (if bt164.1 < (l1_3.length : Int) then (some (a1_0, a1_1, a1_2, (l1_3.set (bt164.1 : Int).toNat (⟨(rd_T100 l1_3 bt164.1).f0, (rd_T100 l1_3 bt164.1).f1, (rd_T100 l1_3 bt164.1).f2, (rd_T100 l1_3 bt164.1).f3, wrap64 (((rd_T100 l1_3 bt164.1).f4) + 1)⟩ : S100)), bt167.2.1, bt167.2.2)) else (none)) else (none)) else (if bt167.1 = 8 then (if 0 ≤ bt164.1 then (if bt164.1 ≤ (l1_3.length : Int) then (some (a1_0, a1_1, a1_2, (l1_3.take (bt164.1 : Int).toNat), bt167.2.1, bt167.2.2)) else (none)) else (none)) else (some (a1_0, a1_1, a1_2, l1_3, bt167.2.1, bt167.2.2))))))))))))) = some (r1, r2, r3, r4, r5, r6) := by rw [if_neg (show ¬ (false = true) from z3_16)] at H; exact H
   clear H
   have H := H1
   clear H1
   replace H := Option.bind_eq_some_iff.mp H
   obtain ⟨⟨t164, t165, t166⟩, A200, H⟩ := H
   replace H : ((spec_l1Below.f s0_0 t165 t166 9).bind fun bt167 => (if bt167.1 = 0 then ((spec_l1PickInt.f s0_0 bt167.2.1 bt167.2.2 (([(-1), 40001] : List Int))).bind fun bt173 => (some (bt173.1, a1_1, a1_2, l1_3, bt173.2.1, bt173.2.2))) else (if bt167.1 = 1 then ((spec_l1PickInt.f s0_0 bt167.2.1 bt167.2.2 (([(-1), 1000, 1001] : List Int))).bind fun bt179 => (some (a1_0, bt179.1, a1_2, l1_3, bt179.2.1, bt179.2.2))) else (if bt167.1 = 2 then ((spec_l1Pick.f s0_0 bt167.2.1 bt167.2.2 (([(⟨#[97, 10, 98]⟩ : ByteArray), (⟨#[48, 49, 50, 51, 52, 53, 54, 55, 56, 57, 48, 49, 50, 51, 52, 53, 54, 55, 56, 57, 48, 49, 50, 51, 52, 53, 54, 55, 56, 57, 48, 49, 50, 51, 52, 53, 54, 55, 56, 57]⟩ : ByteArray), (⟨#[48, 49, 50, 51, 52, 53, 54, 55, 56, 57, 48, 49, 50, 51, 52, 53, 54, 55, 56, 57, 48, 49, 50, 51, 52, 53, 54, 55, 56, 57, 48, 49, 50, 51, 52, 53, 54, 55, 56, 57, 48]⟩ : ByteArray), (⟨#[31]⟩ : ByteArray), (⟨#[32]⟩ : ByteArray)] : List ByteArray))).bind fun bt185 => (some (a1_0, a1_1, bt185.1, l1_3, bt185.2.1, bt185.2.2))) else (if bt167.1 = 3 then ((spec_l1Below.f s0_0 bt167.2.1 bt167.2.2 12).bind fun bt188 => (if 0 ≤ t164 then (if t164 < (l1_3.length : Int) then (some (a1_0, a1_1, a1_2, (l1_3.set (t164 : Int).toNat (⟨wrap64 (bt188.1 - 1), (rd_T100 l1_3 t164).f1, (rd_T100 l1_3 t164).f2, (rd_T100 l1_3 t164).f3, (rd_T100 l1_3 t164).f4⟩ : S100)), bt188.2.1, bt188.2.2)) else (none)) else (none))) else (if bt167.1 = 4 then ((spec_l1Below.f s0_0 bt167.2.1 bt167.2.2 4).bind fun bt192 => (if 0 ≤ t164 then (if t164 < (l1_3.length : Int) then (some (a1_0, a1_1, a1_2, (l1_3.set (t164 : Int).toNat (⟨(rd_T100 l1_3 t164).f0, wrap64 (bt192.1 - 1), (rd_T100 l1_3 t164).f2, (rd_T100 l1_3 t164).f3, (rd_T100 l1_3 t164).f4⟩ : S100)), bt192.2.1, bt192.2.2)) else (none)) else (none))) else (if bt167.1 = 5 then ((spec_l1Below.f s0_0 bt167.2.1 bt167.2.2 4).bind fun bt196 => (if 0 ≤ t164 then (if t164 < (l1_3.length : Int) then (some (a1_0, a1_1, a1_2, (l1_3.set (t164 : Int).toNat (⟨(rd_T100 l1_3 t164).f0, (rd_T100 l1_3 t164).f1, wrap64 (bt196.1 - 1), (rd_T100 l1_3 t164).f3, (rd_T100 l1_3 t164).f4⟩ : S100)), bt196.2.1, bt196.2.2)) else (none)) else (none))) else (if bt167.1 = 6 then (if 0 ≤ t164 then (if t164 < (l1_3.length : Int) then ((spec_l1PickInt.f s0_0 bt167.2.1 bt167.2.2 (([1, (-1), 100000000000] : List Int))).bind fun bt204 => (some (a1_0, a1_1, a1_2, (l1_3.set (t164 : Int).toNat (⟨(rd_T100 l1_3 t164).f0, (rd_T100 l1_3 t164).f1, (rd_T100 l1_3 t164).f2, wrap64 (((rd_T100 l1_3 t164).f3) + bt204.1), (rd_T100 l1_3 t164).f4⟩ : S100)), bt204.2.1, bt204.2.2))) else (none)) else (none)) else (if bt167.1 = 7 then (if 0 ≤ t164 then (if t164 < (l1_3.length : Int) then (some (a1_0, a1_1, a1_2, (l1_3.set (t164 : Int).toNat (⟨(rd_T100 l1_3 t164).f0, (rd_T100 l1_3 t164).f1, (rd_T100 l1_3 t164).f2, (rd_T100 l1_3 t164).f3, wrap64 (((rd_T100 l1_3 t164).f4) + 1)⟩ : S100)), bt167.2.1, bt167.2.2)) else (none)) else (none)) else (if bt167.1 = 8 then (if 0 ≤ t164 then (if t164 ≤ (l1_3.length : Int) then (some (a1_0, a1_1, a1_2, (l1_3.take (t164 : Int).toNat), bt167.2.1, bt167.2.2)) else (none)) else (none)) else (some (a1_0, a1_1, a1_2, l1_3, bt167.2.1, bt167.2.2)))))))))))) = some (r1, r2, r3, r4, r5, r6) := H
   have A20 := Aside0.mk A200
   clear A200
   replace H := Option.bind_eq_some_iff.mp H
   obtain ⟨⟨t167, t168, t169⟩, A210, H⟩ := H
   replace H : (if t167 = 0 then ((spec_l1PickInt.f s0_0 t168 t169 (([(-1), 40001] : List Int))).bind fun bt173 => (some (bt173.1, a1_1, a1_2, l1_3, bt173.2.1, bt173.2.2))) else (if t167 = 1 then ((spec_l1PickInt.f s0_0 t168 t169 (([(-1), 1000, 1001] : List Int))).bind fun bt179 => (some (a1_0, bt179.1, a1_2, l1_3, bt179.2.1, bt179.2.2))) else (if t167 = 2 then ((spec_l1Pick.f s0_0 t168 t169 (([(⟨#[97, 10, 98]⟩ : ByteArray), (⟨#[48, 49, 50, 51, 52, 53, 54, 55, 56, 57, 48, 49, 50, 51, 52, 53, 54, 55, 56, 57, 48, 49, 50, 51, 52, 53, 54, 55, 56, 57, 48, 49, 50, 51, 52, 53, 54, 55, 56, 57]⟩ : ByteArray), (⟨#[48, 49, 50, 51, 52, 53, 54, 55, 56, 57, 48, 49, 50, 51, 52, 53, 54, 55, 56, 57, 48, 49, 50, 51, 52, 53, 54, 55, 56, 57, 48, 49, 50, 51, 52, 53, 54, 55, 56, 57, 48]⟩ : ByteArray), (⟨#[31]⟩ : ByteArray), (⟨#[32]⟩ : ByteArray)] : List ByteArray))).bind fun bt185 => (some (a1_0, a1_1, bt185.1, l1_3, bt185.2.1, bt185.2.2))) else (if t167 = 3 then ((spec_l1Below.f s0_0 t168 t169 12).bind fun bt188 => (if 0 ≤ t164 then (if t164 < (l1_3.length : Int) then (some (a1_0, a1_1, a1_2, (l1_3.set (t164 : Int).toNat (⟨wrap64 (bt188.1 - 1), (rd_T100 l1_3 t164).f1, (rd_T100 l1_3 t164).f2, (rd_T100 l1_3 t164).f3, (rd_T100 l1_3 t164).f4⟩ : S100)), bt188.2.1, bt188.2.2)) else (none)) else (none))) else (if t167 = 4 then ((spec_l1Below.f s0_0 t168 t169 4).bind fun bt192 => (if 0 ≤ t164 then (if t164 < (l1_3.length : Int) then (some (a1_0, a1_1, a1_2, (l1_3.set (t164 : Int).toNat (⟨(rd_T100 l1_3 t164).f0, wrap64 (bt192.1 - 1), (rd_T100 l1_3 t164).f2, (rd_T100 l1_3 t164).f3, (rd_T100 l1_3 t164).f4⟩ : S100)), bt192.2.1, bt192.2.2)) else (none)) else (none))) else (if t167 = 5 then ((spec_l1Below.f s0_0 t168 t169 4).bind fun bt196 => (if 0 ≤ t164 then (if t164 < (l1_3.length : Int) then (some (a1_0, a1_1, a1_2, (l1_3.set (t164 : Int).toNat (⟨(rd_T100 l1_3 t164).f0, (rd_T100 l1_3 t164).f1, wrap64 (bt196.1 - 1), (rd_T100 l1_3 t164).f3, (rd_T100 l1_3 t164).f4⟩ : S100)), bt196.2.1, bt196.2.2)) else (none)) else (none))) else (if t167 = 6 then (if 0 ≤ t164 then (if t164 < (l1_3.length : Int) then ((spec_l1PickInt.f s0_0 t168 t169 (([1, (-1), 100000000000] : List Int))).bind fun bt204 => (some (a1_0, a1_1, a1_2, (l1_3.set (t164 : Int).toNat (⟨(rd_T100 l1_3 t164).f0, (rd_T100 l1_3 t164).f1, (rd_T100 l1_3 t164).f2, wrap64 (((rd_T100 l1_3 t164).f3) + bt204.1), (rd_T100 l1_3 t164).f4⟩ : S100)), bt204.2.1, bt204.2.2))) else (none)) else (none)) else (if t167 = 7 then (if 0 ≤ t164 then (if t164 < (l1_3.length : Int) then (some (a1_0, a1_1, a1_2, (l1_3.set (t164 : Int).toNat (⟨(rd_T100 l1_3 t164).f0, (rd_T100 l1_3 t164).f1, (rd_T100 l1_3 t164).f2, (rd_T100 l1_3 t164).f3, wrap64 (((rd_T100 l1_3 t164).f4) + 1)⟩ : S100)), t168, t169)) else (none)) else (none)) else (if t167 = 8 then (if 0 ≤ t164 then (if t164 ≤ (l1_3.length : Int) then (some (a1_0, a1_1, a1_2, (l1_3.take (t164 : Int).toNat), t168, t169)) else (none)) else (none)) else (some (a1_0, a1_1, a1_2, l1_3, t168, t169))))))))))) = some (r1, r2, r3, r4, r5, r6) := H
   have A21 := Aside0.mk A210
   clear A210
   by_cases c22 : t167 = 0
   ·rw [if_pos c22] at H
    have c22b0 : (t167 == 0) = true := beq_iff_eq.mpr c22
    have c22b1 : (t167 != 0) = false := bne_eq_false_iff_eq.mpr c22
    clear c22
    obtain ⟨y170, hy170⟩ : ∃ y_ : List Int, y_ = (([(-1), 40001] : List Int)) := ⟨_, rfl⟩
    replace H : ((spec_l1PickInt.f s0_0 t168 t169 y170).bind fun bt173 => (some (bt173.1, a1_1, a1_2, l1_3, bt173.2.1, bt173.2.2))) = some (r1, r2, r3, r4, r5, r6) := by first | (rw [hy170]; with_reducible exact H) | (have H2_ := (Option.bind_some _ _).symm.trans H; rw [hy170]; with_reducible exact H2_) | (have H2_ := (Option.bind_some _ _).symm.trans H; with_reducible exact H2_) | with_reducible exact H | (rw [hy170]; exact H) | exact H
    have Ny170 := Aside0.mk hy170
    clear hy170
    replace H := Option.bind_eq_some_iff.mp H
    obtain ⟨⟨t173, t174, t175⟩, A230, H⟩ := H
    replace H : (some (t173, a1_1, a1_2, l1_3, t174, t175)) = some (r1, r2, r3, r4, r5, r6) := H
    have A23 := Aside0.mk A230
    clear A230
    simp only [Option.some.injEq, Prod.mk.injEq] at H
    obtain ⟨rfl, rfl, rfl, rfl, rfl, rfl⟩ := H
    have hnb24 := NB159_160.out
    have hnc24 := NB160_159.out
    have hnb25 := NB159_0.out
    have hnc25 := NB0_159.out
    have hcz26_0 : wc.cell? ⟨gb159, 0, none⟩ = some (.int .i64 a1_0) := (qb0 BK159.out 0).trans rfl
    have hcz26_1 : wc.cell? ⟨gb159, 1, none⟩ = some (.int .i64 a1_1) := (qb0 BK159.out 1).trans rfl
    have hcz26_2 : wc.cell? ⟨gb159, 2, none⟩ = some (.string a1_2) := (qb0 BK159.out 2).trans rfl
    have hcz26_3 : wc.cell? ⟨gb159, 3, none⟩ = some (.slice Ao4 l1_3.length co4) := (qb0 BK159.out 3).trans rfl
    have hfz26_0 := qa0 BK159.out 0
    have hfz26_1 := qa0 BK159.out 1
    have hfz26_2 := qa0 BK159.out 2
    have hfz26_3 := qa0 BK159.out 3
    go_wp2_with (first | ((with_reducible refine qg0 (f := 61) rfl ?_); refine qt0 (some 20) rfl rfl Try.func61 z3_11 rfl #[.pointer (some ⟨g, 0, none⟩), .int .i64 (l1_3.length : Int)] rfl z3_6 ?_; (with_reducible refine (spec_l1Below.calls g s0_0 x1001_2 x1002_2 (l1_3.length : Int) t164 t165 t166 w0 _ ?side1 ?side2 A20.out).mono ?_); (case side1 => exact z3_0); (case side2 => exact z3_2); rintro e w27 ⟨rfl, hi, hb, hk⟩; refine ⟨_, rfl, ?_⟩; have n0_ := Aside0.mk (Kd.qm0 (Kd.qy0 (IsS186.apart (show IsS186 w0 _ g s0_0 x1001_2 x1002_2 from z3_0) z3_7 z3_16) hk (fun _ h => h.2)) (fun _ h => h.1)); have n1_ := Aside0.mk (qc0.blk hk (g' := gb159) (o := .cells #[.int .i64 a1_0, .int .i64 a1_1, .string a1_2, .slice Ao4 l1_3.length co4] 98 (0, 0)) z3_4 NB159_0.out (by simp)); have n2_ := Aside0.mk (qc0.blk hk (g' := gb160) (o := .cells #[.int .i64 0, .int .i64 0, .string (⟨#[]⟩ : ByteArray), .slice none 0 0] 98 (0, 0)) z3_5 NB160_0.out (by simp)); have n3_ := Aside0.mk (Kept.qk1 (S := (fun k_ => (P1_3_ k_) ∨ k_ = g)) z3_1 hk (.inl (.inr rfl))); have n4_ := Aside0.mk (hb); have n5_ := Aside0.mk (hi); clear HO_160003; clear BK159; clear BK160; clear HK; clear HB; clear HI0; have HO_160003 := n0_; have BK159 := n1_; have BK160 := n2_; have HK := n3_; have HB := n4_; have HI0 := n5_; clear n0_ n1_ n2_ n3_ n4_ n5_; (try clear hb); (try clear hb2); (try clear hk); (try clear hi)) | ((with_reducible refine qg0 (f := 61) rfl ?_); refine qt0 (some 22) rfl rfl Try.func61 z3_11 rfl #[.pointer (some ⟨g, 0, none⟩), .int .i64 9] rfl z3_6 ?_; (with_reducible refine (spec_l1Below.calls g s0_0 t165 t166 9 t167 t168 t169 w0 _ ?side1 ?side2 A21.out).mono ?_); (case side1 => exact z3_0); (case side2 => exact z3_2); rintro e w28 ⟨rfl, hi, hb, hk⟩; refine ⟨_, rfl, ?_⟩; have n0_ := Aside0.mk (Kd.qm0 (Kd.qy0 (IsS186.apart (show IsS186 w0 _ g s0_0 t165 t166 from z3_0) z3_7 z3_16) hk (fun _ h => h.2)) (fun _ h => h.1)); have n1_ := Aside0.mk (qc0.blk hk (g' := gb159) (o := .cells #[.int .i64 a1_0, .int .i64 a1_1, .string a1_2, .slice Ao4 l1_3.length co4] 98 (0, 0)) z3_4 NB159_0.out (by simp)); have n2_ := Aside0.mk (qc0.blk hk (g' := gb160) (o := .cells #[.int .i64 0, .int .i64 0, .string (⟨#[]⟩ : ByteArray), .slice none 0 0] 98 (0, 0)) z3_5 NB160_0.out (by simp)); have n3_ := Aside0.mk (Kept.qk1 (S := (fun k_ => (P1_3_ k_) ∨ k_ = g)) z3_1 hk (.inl (.inr rfl))); have n4_ := Aside0.mk (hb); have n5_ := Aside0.mk (hi); clear HO_160003; clear BK159; clear BK160; clear HK; clear HB; clear HI0; have HO_160003 := n0_; have BK159 := n1_; have BK160 := n2_; have HK := n3_; have HB := n4_; have HI0 := n5_; clear n0_ n1_ n2_ n3_ n4_ n5_; (try clear hb); (try clear hb2); (try clear hk); (try clear hi)) | ((with_reducible refine qa1 (N := 26) rfl ?_); (try (refine gate_guard (by rfl) ?_; dsimp only)); refine Kd.R_lit (Kd.int .i64) _ 3 ?hg (N := 26) ?hd (xs := ([(-1), 40001] : List Int)) (inner := [.int .i64 (-1), .int .i64 40001]) (ok := fun _ => True) (okp := fun _ => True) ?hr ?hp (fun _ hk => hk) trivial (Below.refl _ _) (Nat.le_refl _) (by simp) ?_; (case hd => rfl); (case hg => rfl); (case hr => exact z3_22); (case hp => exact (Reps.one (show Kd.M (Kd.int .i64) _ _ _ (-1) [.int .i64 (-1)] from rfl) (Reps.one (show Kd.M (Kd.int .i64) _ _ _ 40001 [.int .i64 40001] from rfl) (Reps.none _ _)))); intro v171 w29 ho30 hb hg_ hnew_; clear hg_ hnew_; (first | rw [← Ny170.out] at ho30 | (simp only [Int.reduceToNat] at ho30; rw [← Ny170.out] at ho30)); have n0_ := Aside0.mk (Kd.qy1 z3_7 hb); have n1_ := Aside0.mk (Kd.qu1 (Kd.R_newM (M := fun k_ => (P1_3_ k_ ∨ w.heap.size ≤ k_)) ho30 z3_10 (fun k_ h_ => .inr h_)) (qv0 z3_2)); have n2_ := Aside0.mk (qz0 (g := gb159) (o := .cells #[.int .i64 a1_0, .int .i64 a1_1, .string a1_2, .slice Ao4 l1_3.length co4] 98 (0, 0)) z3_4 hb); have n3_ := Aside0.mk (qz0 (g := gb160) (o := .cells #[.int .i64 0, .int .i64 0, .string (⟨#[]⟩ : ByteArray), .slice none 0 0] 98 (0, 0)) z3_5 hb); have n4_ := Aside0.mk (IsS186.below z3_0 hb); have n5_ := Aside0.mk (Kept.below (S := (fun k_ => (P1_3_ k_) ∨ k_ = g)) z3_1 hb); have n6_ := Aside0.mk (ql0 z3_2 hb); clear HO_160003; clear BK159; clear BK160; clear HI0; clear HK; clear HB; have HO_160003 := n0_; have HO172 := n1_; have BK159 := n2_; have BK160 := n3_; have HI0 := n4_; have HK := n5_; have HB := n6_; clear n0_ n1_ n2_ n3_ n4_ n5_ n6_; clear hb ho30; obtain ⟨Ao31, co31, eo31⟩ := Kd.qn1 HO172.out; subst eo31) | ((with_reducible refine qg0 (f := 64) rfl ?_); refine qt0 (some 27) rfl rfl Try.func64 z3_11 rfl #[.pointer (some ⟨g, 0, none⟩), .slice Ao31 y170.length co31] rfl z3_6 ?_; (with_reducible refine (spec_l1PickInt.calls g s0_0 t168 t169 _ _ y170 t173 t174 t175 w0 _ ?side1 ?side2 ?side3 ?side4 ?side5 A23.out).mono ?_); (case side1 => exact z3_0); (case side2 => exact z3_2); (case side3 => repeat (first | exact (Kd.qn0 HO172.out).2.2 | (with_reducible refine Kd.qx1 ?_ _) | (with_reducible refine Kd.qw1 ?_ _) | (with_reducible refine Kd.qg2 ?_))); (case side4 => exact (Kd.qn0 HO172.out).2.1); (case side5 => exact far_slice (IsS186.own_ne HI0.out HO172.out z3_16)); rintro e w32 ⟨rfl, hi, hb, hk⟩; refine ⟨_, rfl, ?_⟩; have n0_ := Aside0.mk (Kd.qm0 (Kd.qy0 (IsS186.apart (show IsS186 w0 _ g s0_0 t168 t169 from z3_0) z3_7 z3_16) hk (fun _ h => h.2)) (fun _ h => h.1)); have n1_ := Aside0.mk (qc0.blk hk (g' := gb159) (o := .cells #[.int .i64 a1_0, .int .i64 a1_1, .string a1_2, .slice Ao4 l1_3.length co4] 98 (0, 0)) z3_4 NB159_0.out (by simp)); have n2_ := Aside0.mk (qc0.blk hk (g' := gb160) (o := .cells #[.int .i64 0, .int .i64 0, .string (⟨#[]⟩ : ByteArray), .slice none 0 0] 98 (0, 0)) z3_5 NB160_0.out (by simp)); have n3_ := Aside0.mk (Kd.qm0 (Kd.qy0 (IsS186.apart (show IsS186 w0 _ g s0_0 t168 t169 from z3_0) (by (with_reducible repeat (first | apply Kd.qr0 | apply Kd.qp0 | apply Kd.qu0)); exact HO172.out) z3_16) hk (fun _ h => h.2)) (fun _ h => h.1)); have n4_ := Aside0.mk (Kept.qk1 (S := (fun k_ => (P1_3_ k_) ∨ k_ = g)) z3_1 hk (.inl (.inr rfl))); have n5_ := Aside0.mk (hb); have n6_ := Aside0.mk (hi); clear HO_160003; clear BK159; clear BK160; clear HO172; clear HK; clear HB; clear HI0; have HO_160003 := n0_; have BK159 := n1_; have BK160 := n2_; have HO172 := n3_; have HK := n4_; have HB := n5_; have HI0 := n6_; clear n0_ n1_ n2_ n3_ n4_ n5_ n6_; (try clear hb); (try clear hb2); (try clear hk); (try clear hi); have hcz33_0 : w32.cell? ⟨gb159, 0, none⟩ = some (.int .i64 a1_0) := (qb0 BK159.out 0).trans rfl; have hcz33_1 : w32.cell? ⟨gb159, 1, none⟩ = some (.int .i64 a1_1) := (qb0 BK159.out 1).trans rfl; have hcz33_2 : w32.cell? ⟨gb159, 2, none⟩ = some (.string a1_2) := (qb0 BK159.out 2).trans rfl; have hcz33_3 : w32.cell? ⟨gb159, 3, none⟩ = some (.slice Ao4 l1_3.length co4) := (qb0 BK159.out 3).trans rfl; have hfz33_0 := qa0 BK159.out 0; have hfz33_1 := qa0 BK159.out 1; have hfz33_2 := qa0 BK159.out 2; have hfz33_3 := qa0 BK159.out 3; have hnb34 := NB160_0.out; have hnc34 := NB0_160.out; have hcz35_0 : w32.cell? ⟨gb160, 0, none⟩ = some (.int .i64 0) := (qb0 BK160.out 0).trans rfl; have hcz35_1 : w32.cell? ⟨gb160, 1, none⟩ = some (.int .i64 0) := (qb0 BK160.out 1).trans rfl; have hcz35_2 : w32.cell? ⟨gb160, 2, none⟩ = some (.string (⟨#[]⟩ : ByteArray)) := (qb0 BK160.out 2).trans rfl; have hcz35_3 : w32.cell? ⟨gb160, 3, none⟩ = some (.slice none 0 0) := (qb0 BK160.out 3).trans rfl; have hfz35_0 := qa0 BK160.out 0; have hfz35_1 := qa0 BK160.out 1; have hfz35_2 := qa0 BK160.out 2; have hfz35_3 := qa0 BK160.out 3))
    refine bodyPost_ret (results_cell_row rfl _ _ gb160 98 #[.int .i64 t173, .int .i64 a1_1, .string a1_2, .slice Ao4 l1_3.length co4] (0, 0) _ rfl (by (with_reducible repeat (first | refine qe0 ?_ _ | refine qf0 ?_ | refine qd0 ?_ _)); refine qo0 (cs := #[.int .i64 t173, .int .i64 a1_1, .string a1_2, .slice none 0 0]) ?_ 3 _ rfl; (with_reducible repeat (first | refine qe0 ?_ _ | refine qf0 ?_ | refine qd0 ?_ _)); refine qo0 (cs := #[.int .i64 t173, .int .i64 a1_1, .string (⟨#[]⟩ : ByteArray), .slice none 0 0]) ?_ 2 _ rfl; (with_reducible repeat (first | refine qe0 ?_ _ | refine qf0 ?_ | refine qd0 ?_ _)); refine qo0 (cs := #[.int .i64 t173, .int .i64 0, .string (⟨#[]⟩ : ByteArray), .slice none 0 0]) ?_ 1 _ rfl; (with_reducible repeat (first | refine qe0 ?_ _ | refine qf0 ?_ | refine qd0 ?_ _)); refine qo0 (cs := #[.int .i64 0, .int .i64 0, .string (⟨#[]⟩ : ByteArray), .slice none 0 0]) ?_ 0 _ rfl; (with_reducible repeat (first | refine qe0 ?_ _ | refine qf0 ?_ | refine qd0 ?_ _)); refine blk_far ?_ NB160_159.out _; (with_reducible repeat (first | refine qe0 ?_ _ | refine qf0 ?_ | refine qd0 ?_ _)); exact BK160.out) Try.underlying98 rfl z3_11) rfl ?_
    exact ⟨_, z3_12, by (with_reducible repeat (first | apply Kd.qr0 | apply Kd.qp0 | apply Kd.qu0)); exact Kd.qm0 (Kd.R_far (p := ⟨gb160, 3, none⟩) (Kd.R_far (p := ⟨gb160, 2, none⟩) (Kd.R_far (p := ⟨gb160, 1, none⟩) (Kd.R_far (p := ⟨gb160, 0, none⟩) (Kd.R_far (p := ⟨gb159, 0, none⟩) (Kd.qi1 (Kd.qi1 HO_160003.out BK159.out z3_16) BK160.out z3_16) (fun _ hk => hk.1.2) (.int .i64 t173)) (fun _ hk => hk.2) (.int .i64 t173)) (fun _ hk => hk.2) (.int .i64 a1_1)) (fun _ hk => hk.2) (.string a1_2)) (fun _ hk => hk.2) (.slice Ao4 l1_3.length co4)) (fun _ hk => hk.1.1), z3_0, z3_2, z3_1⟩
   rw [if_neg c22] at H
   have c22b0 : (t167 == 0) = false := beq_eq_false_iff_ne.mpr c22
   have c22b1 : (t167 != 0) = true := bne_iff_ne.mpr c22
   by_cases c36 : t167 = 1
   ·rw [if_pos c36] at H
    have c36b0 : (t167 == 1) = true := beq_iff_eq.mpr c36
    have c36b1 : (t167 != 1) = false := bne_eq_false_iff_eq.mpr c36
    clear c36
    obtain ⟨y176, hy176⟩ : ∃ y_ : List Int, y_ = (([(-1), 1000, 1001] : List Int)) := ⟨_, rfl⟩
    replace H : ((spec_l1PickInt.f s0_0 t168 t169 y176).bind fun bt179 => (some (a1_0, bt179.1, a1_2, l1_3, bt179.2.1, bt179.2.2))) = some (r1, r2, r3, r4, r5, r6) := by first | (rw [hy176]; with_reducible exact H) | (have H2_ := (Option.bind_some _ _).symm.trans H; rw [hy176]; with_reducible exact H2_) | (have H2_ := (Option.bind_some _ _).symm.trans H; with_reducible exact H2_) | with_reducible exact H | (rw [hy176]; exact H) | exact H
    have Ny176 := Aside0.mk hy176
    clear hy176
    replace H := Option.bind_eq_some_iff.mp H
    obtain ⟨⟨t179, t180, t181⟩, A370, H⟩ := H
    replace H : (some (a1_0, t179, a1_2, l1_3, t180, t181)) = some (r1, r2, r3, r4, r5, r6) := H
    have A37 := Aside0.mk A370
    clear A370
    simp only [Option.some.injEq, Prod.mk.injEq] at H
    obtain ⟨rfl, rfl, rfl, rfl, rfl, rfl⟩ := H
    have hnb38 := NB159_160.out
    have hnc38 := NB160_159.out
    have hnb39 := NB159_0.out
    have hnc39 := NB0_159.out
    have hcz40_0 : wc.cell? ⟨gb159, 0, none⟩ = some (.int .i64 a1_0) := (qb0 BK159.out 0).trans rfl
    have hcz40_1 : wc.cell? ⟨gb159, 1, none⟩ = some (.int .i64 a1_1) := (qb0 BK159.out 1).trans rfl
    have hcz40_2 : wc.cell? ⟨gb159, 2, none⟩ = some (.string a1_2) := (qb0 BK159.out 2).trans rfl
    have hcz40_3 : wc.cell? ⟨gb159, 3, none⟩ = some (.slice Ao4 l1_3.length co4) := (qb0 BK159.out 3).trans rfl
    have hfz40_0 := qa0 BK159.out 0
    have hfz40_1 := qa0 BK159.out 1
    have hfz40_2 := qa0 BK159.out 2
    have hfz40_3 := qa0 BK159.out 3
    go_wp2_with (first | ((with_reducible refine qg0 (f := 61) rfl ?_); refine qt0 (some 20) rfl rfl Try.func61 z3_11 rfl #[.pointer (some ⟨g, 0, none⟩), .int .i64 (l1_3.length : Int)] rfl z3_6 ?_; (with_reducible refine (spec_l1Below.calls g s0_0 x1001_2 x1002_2 (l1_3.length : Int) t164 t165 t166 w0 _ ?side1 ?side2 A20.out).mono ?_); (case side1 => exact z3_0); (case side2 => exact z3_2); rintro e w41 ⟨rfl, hi, hb, hk⟩; refine ⟨_, rfl, ?_⟩; have n0_ := Aside0.mk (Kd.qm0 (Kd.qy0 (IsS186.apart (show IsS186 w0 _ g s0_0 x1001_2 x1002_2 from z3_0) z3_7 z3_16) hk (fun _ h => h.2)) (fun _ h => h.1)); have n1_ := Aside0.mk (qc0.blk hk (g' := gb159) (o := .cells #[.int .i64 a1_0, .int .i64 a1_1, .string a1_2, .slice Ao4 l1_3.length co4] 98 (0, 0)) z3_4 NB159_0.out (by simp)); have n2_ := Aside0.mk (qc0.blk hk (g' := gb160) (o := .cells #[.int .i64 0, .int .i64 0, .string (⟨#[]⟩ : ByteArray), .slice none 0 0] 98 (0, 0)) z3_5 NB160_0.out (by simp)); have n3_ := Aside0.mk (Kept.qk1 (S := (fun k_ => (P1_3_ k_) ∨ k_ = g)) z3_1 hk (.inl (.inr rfl))); have n4_ := Aside0.mk (hb); have n5_ := Aside0.mk (hi); clear HO_160003; clear BK159; clear BK160; clear HK; clear HB; clear HI0; have HO_160003 := n0_; have BK159 := n1_; have BK160 := n2_; have HK := n3_; have HB := n4_; have HI0 := n5_; clear n0_ n1_ n2_ n3_ n4_ n5_; (try clear hb); (try clear hb2); (try clear hk); (try clear hi)) | ((with_reducible refine qg0 (f := 61) rfl ?_); refine qt0 (some 22) rfl rfl Try.func61 z3_11 rfl #[.pointer (some ⟨g, 0, none⟩), .int .i64 9] rfl z3_6 ?_; (with_reducible refine (spec_l1Below.calls g s0_0 t165 t166 9 t167 t168 t169 w0 _ ?side1 ?side2 A21.out).mono ?_); (case side1 => exact z3_0); (case side2 => exact z3_2); rintro e w42 ⟨rfl, hi, hb, hk⟩; refine ⟨_, rfl, ?_⟩; have n0_ := Aside0.mk (Kd.qm0 (Kd.qy0 (IsS186.apart (show IsS186 w0 _ g s0_0 t165 t166 from z3_0) z3_7 z3_16) hk (fun _ h => h.2)) (fun _ h => h.1)); have n1_ := Aside0.mk (qc0.blk hk (g' := gb159) (o := .cells #[.int .i64 a1_0, .int .i64 a1_1, .string a1_2, .slice Ao4 l1_3.length co4] 98 (0, 0)) z3_4 NB159_0.out (by simp)); have n2_ := Aside0.mk (qc0.blk hk (g' := gb160) (o := .cells #[.int .i64 0, .int .i64 0, .string (⟨#[]⟩ : ByteArray), .slice none 0 0] 98 (0, 0)) z3_5 NB160_0.out (by simp)); have n3_ := Aside0.mk (Kept.qk1 (S := (fun k_ => (P1_3_ k_) ∨ k_ = g)) z3_1 hk (.inl (.inr rfl))); have n4_ := Aside0.mk (hb); have n5_ := Aside0.mk (hi); clear HO_160003; clear BK159; clear BK160; clear HK; clear HB; clear HI0; have HO_160003 := n0_; have BK159 := n1_; have BK160 := n2_; have HK := n3_; have HB := n4_; have HI0 := n5_; clear n0_ n1_ n2_ n3_ n4_ n5_; (try clear hb); (try clear hb2); (try clear hk); (try clear hi)) | ((with_reducible refine qa1 (N := 32) rfl ?_); (try (refine gate_guard (by rfl) ?_; dsimp only)); refine Kd.R_lit (Kd.int .i64) _ 3 ?hg (N := 32) ?hd (xs := ([(-1), 1000, 1001] : List Int)) (inner := [.int .i64 (-1), .int .i64 1000, .int .i64 1001]) (ok := fun _ => True) (okp := fun _ => True) ?hr ?hp (fun _ hk => hk) trivial (Below.refl _ _) (Nat.le_refl _) (by simp) ?_; (case hd => rfl); (case hg => rfl); (case hr => exact z3_22); (case hp => exact (Reps.one (show Kd.M (Kd.int .i64) _ _ _ (-1) [.int .i64 (-1)] from rfl) (Reps.one (show Kd.M (Kd.int .i64) _ _ _ 1000 [.int .i64 1000] from rfl) (Reps.one (show Kd.M (Kd.int .i64) _ _ _ 1001 [.int .i64 1001] from rfl) (Reps.none _ _))))); intro v177 w43 ho44 hb hg_ hnew_; clear hg_ hnew_; (first | rw [← Ny176.out] at ho44 | (simp only [Int.reduceToNat] at ho44; rw [← Ny176.out] at ho44)); have n0_ := Aside0.mk (Kd.qy1 z3_7 hb); have n1_ := Aside0.mk (Kd.qu1 (Kd.R_newM (M := fun k_ => (P1_3_ k_ ∨ w.heap.size ≤ k_)) ho44 z3_10 (fun k_ h_ => .inr h_)) (qv0 z3_2)); have n2_ := Aside0.mk (qz0 (g := gb159) (o := .cells #[.int .i64 a1_0, .int .i64 a1_1, .string a1_2, .slice Ao4 l1_3.length co4] 98 (0, 0)) z3_4 hb); have n3_ := Aside0.mk (qz0 (g := gb160) (o := .cells #[.int .i64 0, .int .i64 0, .string (⟨#[]⟩ : ByteArray), .slice none 0 0] 98 (0, 0)) z3_5 hb); have n4_ := Aside0.mk (IsS186.below z3_0 hb); have n5_ := Aside0.mk (Kept.below (S := (fun k_ => (P1_3_ k_) ∨ k_ = g)) z3_1 hb); have n6_ := Aside0.mk (ql0 z3_2 hb); clear HO_160003; clear BK159; clear BK160; clear HI0; clear HK; clear HB; have HO_160003 := n0_; have HO178 := n1_; have BK159 := n2_; have BK160 := n3_; have HI0 := n4_; have HK := n5_; have HB := n6_; clear n0_ n1_ n2_ n3_ n4_ n5_ n6_; clear hb ho44; obtain ⟨Ao45, co45, eo45⟩ := Kd.qn1 HO178.out; subst eo45) | ((with_reducible refine qg0 (f := 64) rfl ?_); refine qt0 (some 33) rfl rfl Try.func64 z3_11 rfl #[.pointer (some ⟨g, 0, none⟩), .slice Ao45 y176.length co45] rfl z3_6 ?_; (with_reducible refine (spec_l1PickInt.calls g s0_0 t168 t169 _ _ y176 t179 t180 t181 w0 _ ?side1 ?side2 ?side3 ?side4 ?side5 A37.out).mono ?_); (case side1 => exact z3_0); (case side2 => exact z3_2); (case side3 => repeat (first | exact (Kd.qn0 HO178.out).2.2 | (with_reducible refine Kd.qx1 ?_ _) | (with_reducible refine Kd.qw1 ?_ _) | (with_reducible refine Kd.qg2 ?_))); (case side4 => exact (Kd.qn0 HO178.out).2.1); (case side5 => exact far_slice (IsS186.own_ne HI0.out HO178.out z3_16)); rintro e w46 ⟨rfl, hi, hb, hk⟩; refine ⟨_, rfl, ?_⟩; have n0_ := Aside0.mk (Kd.qm0 (Kd.qy0 (IsS186.apart (show IsS186 w0 _ g s0_0 t168 t169 from z3_0) z3_7 z3_16) hk (fun _ h => h.2)) (fun _ h => h.1)); have n1_ := Aside0.mk (qc0.blk hk (g' := gb159) (o := .cells #[.int .i64 a1_0, .int .i64 a1_1, .string a1_2, .slice Ao4 l1_3.length co4] 98 (0, 0)) z3_4 NB159_0.out (by simp)); have n2_ := Aside0.mk (qc0.blk hk (g' := gb160) (o := .cells #[.int .i64 0, .int .i64 0, .string (⟨#[]⟩ : ByteArray), .slice none 0 0] 98 (0, 0)) z3_5 NB160_0.out (by simp)); have n3_ := Aside0.mk (Kd.qm0 (Kd.qy0 (IsS186.apart (show IsS186 w0 _ g s0_0 t168 t169 from z3_0) (by (with_reducible repeat (first | apply Kd.qr0 | apply Kd.qp0 | apply Kd.qu0)); exact HO178.out) z3_16) hk (fun _ h => h.2)) (fun _ h => h.1)); have n4_ := Aside0.mk (Kept.qk1 (S := (fun k_ => (P1_3_ k_) ∨ k_ = g)) z3_1 hk (.inl (.inr rfl))); have n5_ := Aside0.mk (hb); have n6_ := Aside0.mk (hi); clear HO_160003; clear BK159; clear BK160; clear HO178; clear HK; clear HB; clear HI0; have HO_160003 := n0_; have BK159 := n1_; have BK160 := n2_; have HO178 := n3_; have HK := n4_; have HB := n5_; have HI0 := n6_; clear n0_ n1_ n2_ n3_ n4_ n5_ n6_; (try clear hb); (try clear hb2); (try clear hk); (try clear hi); have hcz47_0 : w46.cell? ⟨gb159, 0, none⟩ = some (.int .i64 a1_0) := (qb0 BK159.out 0).trans rfl; have hcz47_1 : w46.cell? ⟨gb159, 1, none⟩ = some (.int .i64 a1_1) := (qb0 BK159.out 1).trans rfl; have hcz47_2 : w46.cell? ⟨gb159, 2, none⟩ = some (.string a1_2) := (qb0 BK159.out 2).trans rfl; have hcz47_3 : w46.cell? ⟨gb159, 3, none⟩ = some (.slice Ao4 l1_3.length co4) := (qb0 BK159.out 3).trans rfl; have hfz47_0 := qa0 BK159.out 0; have hfz47_1 := qa0 BK159.out 1; have hfz47_2 := qa0 BK159.out 2; have hfz47_3 := qa0 BK159.out 3; have hnb48 := NB160_0.out; have hnc48 := NB0_160.out; have hcz49_0 : w46.cell? ⟨gb160, 0, none⟩ = some (.int .i64 0) := (qb0 BK160.out 0).trans rfl; have hcz49_1 : w46.cell? ⟨gb160, 1, none⟩ = some (.int .i64 0) := (qb0 BK160.out 1).trans rfl; have hcz49_2 : w46.cell? ⟨gb160, 2, none⟩ = some (.string (⟨#[]⟩ : ByteArray)) := (qb0 BK160.out 2).trans rfl; have hcz49_3 : w46.cell? ⟨gb160, 3, none⟩ = some (.slice none 0 0) := (qb0 BK160.out 3).trans rfl; have hfz49_0 := qa0 BK160.out 0; have hfz49_1 := qa0 BK160.out 1; have hfz49_2 := qa0 BK160.out 2; have hfz49_3 := qa0 BK160.out 3))
    refine bodyPost_ret (results_cell_row rfl _ _ gb160 98 #[.int .i64 a1_0, .int .i64 t179, .string a1_2, .slice Ao4 l1_3.length co4] (0, 0) _ rfl (by (with_reducible repeat (first | refine qe0 ?_ _ | refine qf0 ?_ | refine qd0 ?_ _)); refine qo0 (cs := #[.int .i64 a1_0, .int .i64 t179, .string a1_2, .slice none 0 0]) ?_ 3 _ rfl; (with_reducible repeat (first | refine qe0 ?_ _ | refine qf0 ?_ | refine qd0 ?_ _)); refine qo0 (cs := #[.int .i64 a1_0, .int .i64 t179, .string (⟨#[]⟩ : ByteArray), .slice none 0 0]) ?_ 2 _ rfl; (with_reducible repeat (first | refine qe0 ?_ _ | refine qf0 ?_ | refine qd0 ?_ _)); refine qo0 (cs := #[.int .i64 a1_0, .int .i64 0, .string (⟨#[]⟩ : ByteArray), .slice none 0 0]) ?_ 1 _ rfl; (with_reducible repeat (first | refine qe0 ?_ _ | refine qf0 ?_ | refine qd0 ?_ _)); refine qo0 (cs := #[.int .i64 0, .int .i64 0, .string (⟨#[]⟩ : ByteArray), .slice none 0 0]) ?_ 0 _ rfl; (with_reducible repeat (first | refine qe0 ?_ _ | refine qf0 ?_ | refine qd0 ?_ _)); refine blk_far ?_ NB160_159.out _; (with_reducible repeat (first | refine qe0 ?_ _ | refine qf0 ?_ | refine qd0 ?_ _)); exact BK160.out) Try.underlying98 rfl z3_11) rfl ?_
    exact ⟨_, z3_12, by (with_reducible repeat (first | apply Kd.qr0 | apply Kd.qp0 | apply Kd.qu0)); exact Kd.qm0 (Kd.R_far (p := ⟨gb160, 3, none⟩) (Kd.R_far (p := ⟨gb160, 2, none⟩) (Kd.R_far (p := ⟨gb160, 1, none⟩) (Kd.R_far (p := ⟨gb160, 0, none⟩) (Kd.R_far (p := ⟨gb159, 1, none⟩) (Kd.qi1 (Kd.qi1 HO_160003.out BK159.out z3_16) BK160.out z3_16) (fun _ hk => hk.1.2) (.int .i64 t179)) (fun _ hk => hk.2) (.int .i64 a1_0)) (fun _ hk => hk.2) (.int .i64 t179)) (fun _ hk => hk.2) (.string a1_2)) (fun _ hk => hk.2) (.slice Ao4 l1_3.length co4)) (fun _ hk => hk.1.1), z3_0, z3_2, z3_1⟩
   rw [if_neg c36] at H
   have c36b0 : (t167 == 1) = false := beq_eq_false_iff_ne.mpr c36
   have c36b1 : (t167 != 1) = true := bne_iff_ne.mpr c36
   by_cases c50 : t167 = 2
   ·rw [if_pos c50] at H
    have c50b0 : (t167 == 2) = true := beq_iff_eq.mpr c50
    have c50b1 : (t167 != 2) = false := bne_eq_false_iff_eq.mpr c50
    clear c50
    obtain ⟨y182, hy182⟩ : ∃ y_ : List ByteArray, y_ = (([(⟨#[97, 10, 98]⟩ : ByteArray), (⟨#[48, 49, 50, 51, 52, 53, 54, 55, 56, 57, 48, 49, 50, 51, 52, 53, 54, 55, 56, 57, 48, 49, 50, 51, 52, 53, 54, 55, 56, 57, 48, 49, 50, 51, 52, 53, 54, 55, 56, 57]⟩ : ByteArray), (⟨#[48, 49, 50, 51, 52, 53, 54, 55, 56, 57, 48, 49, 50, 51, 52, 53, 54, 55, 56, 57, 48, 49, 50, 51, 52, 53, 54, 55, 56, 57, 48, 49, 50, 51, 52, 53, 54, 55, 56, 57, 48]⟩ : ByteArray), (⟨#[31]⟩ : ByteArray), (⟨#[32]⟩ : ByteArray)] : List ByteArray)) := ⟨_, rfl⟩
    replace H : ((spec_l1Pick.f s0_0 t168 t169 y182).bind fun bt185 => (some (a1_0, a1_1, bt185.1, l1_3, bt185.2.1, bt185.2.2))) = some (r1, r2, r3, r4, r5, r6) := by first | (rw [hy182]; with_reducible exact H) | (have H2_ := (Option.bind_some _ _).symm.trans H; rw [hy182]; with_reducible exact H2_) | (have H2_ := (Option.bind_some _ _).symm.trans H; with_reducible exact H2_) | with_reducible exact H | (rw [hy182]; exact H) | exact H
    have Ny182 := Aside0.mk hy182
    clear hy182
    replace H := Option.bind_eq_some_iff.mp H
    obtain ⟨⟨t185, t186, t187⟩, A510, H⟩ := H
    replace H : (some (a1_0, a1_1, t185, l1_3, t186, t187)) = some (r1, r2, r3, r4, r5, r6) := H
    have A51 := Aside0.mk A510
    clear A510
    simp only [Option.some.injEq, Prod.mk.injEq] at H
    obtain ⟨rfl, rfl, rfl, rfl, rfl, rfl⟩ := H
    have hnb52 := NB159_160.out
    have hnc52 := NB160_159.out
    have hnb53 := NB159_0.out
    have hnc53 := NB0_159.out
    have hcz54_0 : wc.cell? ⟨gb159, 0, none⟩ = some (.int .i64 a1_0) := (qb0 BK159.out 0).trans rfl
    have hcz54_1 : wc.cell? ⟨gb159, 1, none⟩ = some (.int .i64 a1_1) := (qb0 BK159.out 1).trans rfl
    have hcz54_2 : wc.cell? ⟨gb159, 2, none⟩ = some (.string a1_2) := (qb0 BK159.out 2).trans rfl
    have hcz54_3 : wc.cell? ⟨gb159, 3, none⟩ = some (.slice Ao4 l1_3.length co4) := (qb0 BK159.out 3).trans rfl
    have hfz54_0 := qa0 BK159.out 0
    have hfz54_1 := qa0 BK159.out 1
    have hfz54_2 := qa0 BK159.out 2
    have hfz54_3 := qa0 BK159.out 3
    go_wp2_with (first | ((with_reducible refine qg0 (f := 61) rfl ?_); refine qt0 (some 20) rfl rfl Try.func61 z3_11 rfl #[.pointer (some ⟨g, 0, none⟩), .int .i64 (l1_3.length : Int)] rfl z3_6 ?_; (with_reducible refine (spec_l1Below.calls g s0_0 x1001_2 x1002_2 (l1_3.length : Int) t164 t165 t166 w0 _ ?side1 ?side2 A20.out).mono ?_); (case side1 => exact z3_0); (case side2 => exact z3_2); rintro e w55 ⟨rfl, hi, hb, hk⟩; refine ⟨_, rfl, ?_⟩; have n0_ := Aside0.mk (Kd.qm0 (Kd.qy0 (IsS186.apart (show IsS186 w0 _ g s0_0 x1001_2 x1002_2 from z3_0) z3_7 z3_16) hk (fun _ h => h.2)) (fun _ h => h.1)); have n1_ := Aside0.mk (qc0.blk hk (g' := gb159) (o := .cells #[.int .i64 a1_0, .int .i64 a1_1, .string a1_2, .slice Ao4 l1_3.length co4] 98 (0, 0)) z3_4 NB159_0.out (by simp)); have n2_ := Aside0.mk (qc0.blk hk (g' := gb160) (o := .cells #[.int .i64 0, .int .i64 0, .string (⟨#[]⟩ : ByteArray), .slice none 0 0] 98 (0, 0)) z3_5 NB160_0.out (by simp)); have n3_ := Aside0.mk (Kept.qk1 (S := (fun k_ => (P1_3_ k_) ∨ k_ = g)) z3_1 hk (.inl (.inr rfl))); have n4_ := Aside0.mk (hb); have n5_ := Aside0.mk (hi); clear HO_160003; clear BK159; clear BK160; clear HK; clear HB; clear HI0; have HO_160003 := n0_; have BK159 := n1_; have BK160 := n2_; have HK := n3_; have HB := n4_; have HI0 := n5_; clear n0_ n1_ n2_ n3_ n4_ n5_; (try clear hb); (try clear hb2); (try clear hk); (try clear hi)) | ((with_reducible refine qg0 (f := 61) rfl ?_); refine qt0 (some 22) rfl rfl Try.func61 z3_11 rfl #[.pointer (some ⟨g, 0, none⟩), .int .i64 9] rfl z3_6 ?_; (with_reducible refine (spec_l1Below.calls g s0_0 t165 t166 9 t167 t168 t169 w0 _ ?side1 ?side2 A21.out).mono ?_); (case side1 => exact z3_0); (case side2 => exact z3_2); rintro e w56 ⟨rfl, hi, hb, hk⟩; refine ⟨_, rfl, ?_⟩; have n0_ := Aside0.mk (Kd.qm0 (Kd.qy0 (IsS186.apart (show IsS186 w0 _ g s0_0 t165 t166 from z3_0) z3_7 z3_16) hk (fun _ h => h.2)) (fun _ h => h.1)); have n1_ := Aside0.mk (qc0.blk hk (g' := gb159) (o := .cells #[.int .i64 a1_0, .int .i64 a1_1, .string a1_2, .slice Ao4 l1_3.length co4] 98 (0, 0)) z3_4 NB159_0.out (by simp)); have n2_ := Aside0.mk (qc0.blk hk (g' := gb160) (o := .cells #[.int .i64 0, .int .i64 0, .string (⟨#[]⟩ : ByteArray), .slice none 0 0] 98 (0, 0)) z3_5 NB160_0.out (by simp)); have n3_ := Aside0.mk (Kept.qk1 (S := (fun k_ => (P1_3_ k_) ∨ k_ = g)) z3_1 hk (.inl (.inr rfl))); have n4_ := Aside0.mk (hb); have n5_ := Aside0.mk (hi); clear HO_160003; clear BK159; clear BK160; clear HK; clear HB; clear HI0; have HO_160003 := n0_; have BK159 := n1_; have BK160 := n2_; have HK := n3_; have HB := n4_; have HI0 := n5_; clear n0_ n1_ n2_ n3_ n4_ n5_; (try clear hb); (try clear hb2); (try clear hk); (try clear hi)) | ((with_reducible refine qa1 (N := 38) rfl ?_); (try (refine gate_guard (by rfl) ?_; dsimp only)); refine Kd.R_lit Kd.string _ 9 ?hg (N := 38) ?hd (xs := ([(⟨#[97, 10, 98]⟩ : ByteArray), (⟨#[48, 49, 50, 51, 52, 53, 54, 55, 56, 57, 48, 49, 50, 51, 52, 53, 54, 55, 56, 57, 48, 49, 50, 51, 52, 53, 54, 55, 56, 57, 48, 49, 50, 51, 52, 53, 54, 55, 56, 57]⟩ : ByteArray), (⟨#[48, 49, 50, 51, 52, 53, 54, 55, 56, 57, 48, 49, 50, 51, 52, 53, 54, 55, 56, 57, 48, 49, 50, 51, 52, 53, 54, 55, 56, 57, 48, 49, 50, 51, 52, 53, 54, 55, 56, 57, 48]⟩ : ByteArray), (⟨#[31]⟩ : ByteArray), (⟨#[32]⟩ : ByteArray)] : List ByteArray)) (inner := [.string (⟨#[97, 10, 98]⟩ : ByteArray), .string (⟨#[48, 49, 50, 51, 52, 53, 54, 55, 56, 57, 48, 49, 50, 51, 52, 53, 54, 55, 56, 57, 48, 49, 50, 51, 52, 53, 54, 55, 56, 57, 48, 49, 50, 51, 52, 53, 54, 55, 56, 57]⟩ : ByteArray), .string (⟨#[48, 49, 50, 51, 52, 53, 54, 55, 56, 57, 48, 49, 50, 51, 52, 53, 54, 55, 56, 57, 48, 49, 50, 51, 52, 53, 54, 55, 56, 57, 48, 49, 50, 51, 52, 53, 54, 55, 56, 57, 48]⟩ : ByteArray), .string (⟨#[31]⟩ : ByteArray), .string (⟨#[32]⟩ : ByteArray)]) (ok := fun _ => True) (okp := fun _ => True) ?hr ?hp (fun _ hk => hk) trivial (Below.refl _ _) (Nat.le_refl _) (by simp) ?_; (case hd => rfl); (case hg => rfl); (case hr => exact z3_22); (case hp => exact (Reps.one (show Kd.M Kd.string _ _ _ (⟨#[97, 10, 98]⟩ : ByteArray) [.string (⟨#[97, 10, 98]⟩ : ByteArray)] from rfl) (Reps.one (show Kd.M Kd.string _ _ _ (⟨#[48, 49, 50, 51, 52, 53, 54, 55, 56, 57, 48, 49, 50, 51, 52, 53, 54, 55, 56, 57, 48, 49, 50, 51, 52, 53, 54, 55, 56, 57, 48, 49, 50, 51, 52, 53, 54, 55, 56, 57]⟩ : ByteArray) [.string (⟨#[48, 49, 50, 51, 52, 53, 54, 55, 56, 57, 48, 49, 50, 51, 52, 53, 54, 55, 56, 57, 48, 49, 50, 51, 52, 53, 54, 55, 56, 57, 48, 49, 50, 51, 52, 53, 54, 55, 56, 57]⟩ : ByteArray)] from rfl) (Reps.one (show Kd.M Kd.string _ _ _ (⟨#[48, 49, 50, 51, 52, 53, 54, 55, 56, 57, 48, 49, 50, 51, 52, 53, 54, 55, 56, 57, 48, 49, 50, 51, 52, 53, 54, 55, 56, 57, 48, 49, 50, 51, 52, 53, 54, 55, 56, 57, 48]⟩ : ByteArray) [.string (⟨#[48, 49, 50, 51, 52, 53, 54, 55, 56, 57, 48, 49, 50, 51, 52, 53, 54, 55, 56, 57, 48, 49, 50, 51, 52, 53, 54, 55, 56, 57, 48, 49, 50, 51, 52, 53, 54, 55, 56, 57, 48]⟩ : ByteArray)] from rfl) (Reps.one (show Kd.M Kd.string _ _ _ (⟨#[31]⟩ : ByteArray) [.string (⟨#[31]⟩ : ByteArray)] from rfl) (Reps.one (show Kd.M Kd.string _ _ _ (⟨#[32]⟩ : ByteArray) [.string (⟨#[32]⟩ : ByteArray)] from rfl) (Reps.none _ _))))))); intro v183 w57 ho58 hb hg_ hnew_; clear hg_ hnew_; (first | rw [← Ny182.out] at ho58 | (simp only [Int.reduceToNat] at ho58; rw [← Ny182.out] at ho58)); have n0_ := Aside0.mk (Kd.qy1 z3_7 hb); have n1_ := Aside0.mk (Kd.qu1 (Kd.R_newM (M := fun k_ => (P1_3_ k_ ∨ w.heap.size ≤ k_)) ho58 z3_10 (fun k_ h_ => .inr h_)) (qv0 z3_2)); have n2_ := Aside0.mk (qz0 (g := gb159) (o := .cells #[.int .i64 a1_0, .int .i64 a1_1, .string a1_2, .slice Ao4 l1_3.length co4] 98 (0, 0)) z3_4 hb); have n3_ := Aside0.mk (qz0 (g := gb160) (o := .cells #[.int .i64 0, .int .i64 0, .string (⟨#[]⟩ : ByteArray), .slice none 0 0] 98 (0, 0)) z3_5 hb); have n4_ := Aside0.mk (IsS186.below z3_0 hb); have n5_ := Aside0.mk (Kept.below (S := (fun k_ => (P1_3_ k_) ∨ k_ = g)) z3_1 hb); have n6_ := Aside0.mk (ql0 z3_2 hb); clear HO_160003; clear BK159; clear BK160; clear HI0; clear HK; clear HB; have HO_160003 := n0_; have HO184 := n1_; have BK159 := n2_; have BK160 := n3_; have HI0 := n4_; have HK := n5_; have HB := n6_; clear n0_ n1_ n2_ n3_ n4_ n5_ n6_; clear hb ho58; obtain ⟨Ao59, co59, eo59⟩ := Kd.qn1 HO184.out; subst eo59) | ((with_reducible refine qg0 (f := 76) rfl ?_); refine qt0 (some 39) rfl rfl Try.func76 z3_11 rfl #[.pointer (some ⟨g, 0, none⟩), .slice Ao59 y182.length co59] rfl z3_6 ?_; (with_reducible refine (spec_l1Pick.calls g s0_0 t168 t169 _ _ y182 t185 t186 t187 w0 _ ?side1 ?side2 ?side3 ?side4 ?side5 A51.out).mono ?_); (case side1 => exact z3_0); (case side2 => exact z3_2); (case side3 => repeat (first | exact (Kd.qn0 HO184.out).2.2 | (with_reducible refine Kd.qx1 ?_ _) | (with_reducible refine Kd.qw1 ?_ _) | (with_reducible refine Kd.qg2 ?_))); (case side4 => exact (Kd.qn0 HO184.out).2.1); (case side5 => exact far_slice (IsS186.own_ne HI0.out HO184.out z3_16)); rintro e w60 ⟨rfl, hi, hb, hk⟩; refine ⟨_, rfl, ?_⟩; have n0_ := Aside0.mk (Kd.qm0 (Kd.qy0 (IsS186.apart (show IsS186 w0 _ g s0_0 t168 t169 from z3_0) z3_7 z3_16) hk (fun _ h => h.2)) (fun _ h => h.1)); have n1_ := Aside0.mk (qc0.blk hk (g' := gb159) (o := .cells #[.int .i64 a1_0, .int .i64 a1_1, .string a1_2, .slice Ao4 l1_3.length co4] 98 (0, 0)) z3_4 NB159_0.out (by simp)); have n2_ := Aside0.mk (qc0.blk hk (g' := gb160) (o := .cells #[.int .i64 0, .int .i64 0, .string (⟨#[]⟩ : ByteArray), .slice none 0 0] 98 (0, 0)) z3_5 NB160_0.out (by simp)); have n3_ := Aside0.mk (Kd.qm0 (Kd.qy0 (IsS186.apart (show IsS186 w0 _ g s0_0 t168 t169 from z3_0) (by (with_reducible repeat (first | apply Kd.qr0 | apply Kd.qp0 | apply Kd.qu0)); exact HO184.out) z3_16) hk (fun _ h => h.2)) (fun _ h => h.1)); have n4_ := Aside0.mk (Kept.qk1 (S := (fun k_ => (P1_3_ k_) ∨ k_ = g)) z3_1 hk (.inl (.inr rfl))); have n5_ := Aside0.mk (hb); have n6_ := Aside0.mk (hi); clear HO_160003; clear BK159; clear BK160; clear HO184; clear HK; clear HB; clear HI0; have HO_160003 := n0_; have BK159 := n1_; have BK160 := n2_; have HO184 := n3_; have HK := n4_; have HB := n5_; have HI0 := n6_; clear n0_ n1_ n2_ n3_ n4_ n5_ n6_; (try clear hb); (try clear hb2); (try clear hk); (try clear hi); have hcz61_0 : w60.cell? ⟨gb159, 0, none⟩ = some (.int .i64 a1_0) := (qb0 BK159.out 0).trans rfl; have hcz61_1 : w60.cell? ⟨gb159, 1, none⟩ = some (.int .i64 a1_1) := (qb0 BK159.out 1).trans rfl; have hcz61_2 : w60.cell? ⟨gb159, 2, none⟩ = some (.string a1_2) := (qb0 BK159.out 2).trans rfl; have hcz61_3 : w60.cell? ⟨gb159, 3, none⟩ = some (.slice Ao4 l1_3.length co4) := (qb0 BK159.out 3).trans rfl; have hfz61_0 := qa0 BK159.out 0; have hfz61_1 := qa0 BK159.out 1; have hfz61_2 := qa0 BK159.out 2; have hfz61_3 := qa0 BK159.out 3; have hnb62 := NB160_0.out; have hnc62 := NB0_160.out; have hcz63_0 : w60.cell? ⟨gb160, 0, none⟩ = some (.int .i64 0) := (qb0 BK160.out 0).trans rfl; have hcz63_1 : w60.cell? ⟨gb160, 1, none⟩ = some (.int .i64 0) := (qb0 BK160.out 1).trans rfl; have hcz63_2 : w60.cell? ⟨gb160, 2, none⟩ = some (.string (⟨#[]⟩ : ByteArray)) := (qb0 BK160.out 2).trans rfl; have hcz63_3 : w60.cell? ⟨gb160, 3, none⟩ = some (.slice none 0 0) := (qb0 BK160.out 3).trans rfl; have hfz63_0 := qa0 BK160.out 0; have hfz63_1 := qa0 BK160.out 1; have hfz63_2 := qa0 BK160.out 2; have hfz63_3 := qa0 BK160.out 3))
    refine bodyPost_ret (results_cell_row rfl _ _ gb160 98 #[.int .i64 a1_0, .int .i64 a1_1, .string t185, .slice Ao4 l1_3.length co4] (0, 0) _ rfl (by (with_reducible repeat (first | refine qe0 ?_ _ | refine qf0 ?_ | refine qd0 ?_ _)); refine qo0 (cs := #[.int .i64 a1_0, .int .i64 a1_1, .string t185, .slice none 0 0]) ?_ 3 _ rfl; (with_reducible repeat (first | refine qe0 ?_ _ | refine qf0 ?_ | refine qd0 ?_ _)); refine qo0 (cs := #[.int .i64 a1_0, .int .i64 a1_1, .string (⟨#[]⟩ : ByteArray), .slice none 0 0]) ?_ 2 _ rfl; (with_reducible repeat (first | refine qe0 ?_ _ | refine qf0 ?_ | refine qd0 ?_ _)); refine qo0 (cs := #[.int .i64 a1_0, .int .i64 0, .string (⟨#[]⟩ : ByteArray), .slice none 0 0]) ?_ 1 _ rfl; (with_reducible repeat (first | refine qe0 ?_ _ | refine qf0 ?_ | refine qd0 ?_ _)); refine qo0 (cs := #[.int .i64 0, .int .i64 0, .string (⟨#[]⟩ : ByteArray), .slice none 0 0]) ?_ 0 _ rfl; (with_reducible repeat (first | refine qe0 ?_ _ | refine qf0 ?_ | refine qd0 ?_ _)); refine blk_far ?_ NB160_159.out _; (with_reducible repeat (first | refine qe0 ?_ _ | refine qf0 ?_ | refine qd0 ?_ _)); exact BK160.out) Try.underlying98 rfl z3_11) rfl ?_
    exact ⟨_, z3_12, by (with_reducible repeat (first | apply Kd.qr0 | apply Kd.qp0 | apply Kd.qu0)); exact Kd.qm0 (Kd.R_far (p := ⟨gb160, 3, none⟩) (Kd.R_far (p := ⟨gb160, 2, none⟩) (Kd.R_far (p := ⟨gb160, 1, none⟩) (Kd.R_far (p := ⟨gb160, 0, none⟩) (Kd.R_far (p := ⟨gb159, 2, none⟩) (Kd.qi1 (Kd.qi1 HO_160003.out BK159.out z3_16) BK160.out z3_16) (fun _ hk => hk.1.2) (.string t185)) (fun _ hk => hk.2) (.int .i64 a1_0)) (fun _ hk => hk.2) (.int .i64 a1_1)) (fun _ hk => hk.2) (.string t185)) (fun _ hk => hk.2) (.slice Ao4 l1_3.length co4)) (fun _ hk => hk.1.1), z3_0, z3_2, z3_1⟩
   rw [if_neg c50] at H
   have c50b0 : (t167 == 2) = false := beq_eq_false_iff_ne.mpr c50
   have c50b1 : (t167 != 2) = true := bne_iff_ne.mpr c50
   by_cases c64 : t167 = 3
   ·rw [if_pos c64] at H
    have c64b0 : (t167 == 3) = true := beq_iff_eq.mpr c64
    have c64b1 : (t167 != 3) = false := bne_eq_false_iff_eq.mpr c64
    clear c64
    replace H := Option.bind_eq_some_iff.mp H
    obtain ⟨⟨t188, t189, t190⟩, A650, H⟩ := H
    replace H : (if 0 ≤ t164 then (if t164 < (l1_3.length : Int) then (some (a1_0, a1_1, a1_2, (l1_3.set (t164 : Int).toNat (⟨wrap64 (t188 - 1), (rd_T100 l1_3 t164).f1, (rd_T100 l1_3 t164).f2, (rd_T100 l1_3 t164).f3, (rd_T100 l1_3 t164).f4⟩ : S100)), t189, t190)) else (none)) else (none)) = some (r1, r2, r3, r4, r5, r6) := H
    have A65 := Aside0.mk A650
    clear A650
    by_cases c66 : 0 ≤ t164
    case neg => rw [if_neg c66] at H; exact absurd H (by simp)
    rw [if_pos c66] at H
    have c66b0 : decide (0 ≤ t164) = true := decide_eq_true c66
    clear c66
    by_cases c67 : t164 < (l1_3.length : Int)
    case neg => rw [if_neg c67] at H; exact absurd H (by simp)
    rw [if_pos c67] at H
    have c67b0 : decide (t164 < (l1_3.length : Int)) = true := decide_eq_true c67
    clear c67
    obtain ⟨y191, hy191⟩ : ∃ y_ : List (S100), y_ = (l1_3.set (t164 : Int).toNat (⟨wrap64 (t188 - 1), (rd_T100 l1_3 t164).f1, (rd_T100 l1_3 t164).f2, (rd_T100 l1_3 t164).f3, (rd_T100 l1_3 t164).f4⟩ : S100)) := ⟨_, rfl⟩
    replace H : (some (a1_0, a1_1, a1_2, y191, t189, t190)) = some (r1, r2, r3, r4, r5, r6) := by first | (rw [hy191]; with_reducible exact H) | (have H2_ := (Option.bind_some _ _).symm.trans H; rw [hy191]; with_reducible exact H2_) | (have H2_ := (Option.bind_some _ _).symm.trans H; with_reducible exact H2_) | with_reducible exact H | (rw [hy191]; exact H) | exact H
    have Ny191 := Aside0.mk hy191
    clear hy191
    simp only [Option.some.injEq, Prod.mk.injEq] at H
    obtain ⟨rfl, rfl, rfl, rfl, rfl, rfl⟩ := H
    have hnb69 := NB159_160.out
    have hnc69 := NB160_159.out
    have hnb70 := NB159_0.out
    have hnc70 := NB0_159.out
    have hcz71_0 : wc.cell? ⟨gb159, 0, none⟩ = some (.int .i64 a1_0) := (qb0 BK159.out 0).trans rfl
    have hcz71_1 : wc.cell? ⟨gb159, 1, none⟩ = some (.int .i64 a1_1) := (qb0 BK159.out 1).trans rfl
    have hcz71_2 : wc.cell? ⟨gb159, 2, none⟩ = some (.string a1_2) := (qb0 BK159.out 2).trans rfl
    have hcz71_3 : wc.cell? ⟨gb159, 3, none⟩ = some (.slice Ao4 l1_3.length co4) := (qb0 BK159.out 3).trans rfl
    have hfz71_0 := qa0 BK159.out 0
    have hfz71_1 := qa0 BK159.out 1
    have hfz71_2 := qa0 BK159.out 2
    have hfz71_3 := qa0 BK159.out 3
    try go_wp2_with (first | ((with_reducible refine qg0 (f := 61) rfl ?_); refine qt0 (some 20) rfl rfl Try.func61 z3_11 rfl #[.pointer (some ⟨g, 0, none⟩), .int .i64 (l1_3.length : Int)] rfl z3_6 ?_; (with_reducible refine (spec_l1Below.calls g s0_0 x1001_2 x1002_2 (l1_3.length : Int) t164 t165 t166 w0 _ ?side1 ?side2 A20.out).mono ?_); (case side1 => exact z3_0); (case side2 => exact z3_2); rintro e w72 ⟨rfl, hi, hb, hk⟩; refine ⟨_, rfl, ?_⟩; have n0_ := Aside0.mk (Kd.qm0 (Kd.qy0 (IsS186.apart (show IsS186 w0 _ g s0_0 x1001_2 x1002_2 from z3_0) z3_7 z3_16) hk (fun _ h => h.2)) (fun _ h => h.1)); have n1_ := Aside0.mk (qc0.blk hk (g' := gb159) (o := .cells #[.int .i64 a1_0, .int .i64 a1_1, .string a1_2, .slice Ao4 l1_3.length co4] 98 (0, 0)) z3_4 NB159_0.out (by simp)); have n2_ := Aside0.mk (qc0.blk hk (g' := gb160) (o := .cells #[.int .i64 0, .int .i64 0, .string (⟨#[]⟩ : ByteArray), .slice none 0 0] 98 (0, 0)) z3_5 NB160_0.out (by simp)); have n3_ := Aside0.mk (Kept.qk1 (S := (fun k_ => (P1_3_ k_) ∨ k_ = g)) z3_1 hk (.inl (.inr rfl))); have n4_ := Aside0.mk (hb); have n5_ := Aside0.mk (hi); clear HO_160003; clear BK159; clear BK160; clear HK; clear HB; clear HI0; have HO_160003 := n0_; have BK159 := n1_; have BK160 := n2_; have HK := n3_; have HB := n4_; have HI0 := n5_; clear n0_ n1_ n2_ n3_ n4_ n5_; (try clear hb); (try clear hb2); (try clear hk); (try clear hi)) | ((with_reducible refine qg0 (f := 61) rfl ?_); refine qt0 (some 22) rfl rfl Try.func61 z3_11 rfl #[.pointer (some ⟨g, 0, none⟩), .int .i64 9] rfl z3_6 ?_; (with_reducible refine (spec_l1Below.calls g s0_0 t165 t166 9 t167 t168 t169 w0 _ ?side1 ?side2 A21.out).mono ?_); (case side1 => exact z3_0); (case side2 => exact z3_2); rintro e w73 ⟨rfl, hi, hb, hk⟩; refine ⟨_, rfl, ?_⟩; have n0_ := Aside0.mk (Kd.qm0 (Kd.qy0 (IsS186.apart (show IsS186 w0 _ g s0_0 t165 t166 from z3_0) z3_7 z3_16) hk (fun _ h => h.2)) (fun _ h => h.1)); have n1_ := Aside0.mk (qc0.blk hk (g' := gb159) (o := .cells #[.int .i64 a1_0, .int .i64 a1_1, .string a1_2, .slice Ao4 l1_3.length co4] 98 (0, 0)) z3_4 NB159_0.out (by simp)); have n2_ := Aside0.mk (qc0.blk hk (g' := gb160) (o := .cells #[.int .i64 0, .int .i64 0, .string (⟨#[]⟩ : ByteArray), .slice none 0 0] 98 (0, 0)) z3_5 NB160_0.out (by simp)); have n3_ := Aside0.mk (Kept.qk1 (S := (fun k_ => (P1_3_ k_) ∨ k_ = g)) z3_1 hk (.inl (.inr rfl))); have n4_ := Aside0.mk (hb); have n5_ := Aside0.mk (hi); clear HO_160003; clear BK159; clear BK160; clear HK; clear HB; clear HI0; have HO_160003 := n0_; have BK159 := n1_; have BK160 := n2_; have HK := n3_; have HB := n4_; have HI0 := n5_; clear n0_ n1_ n2_ n3_ n4_ n5_; (try clear hb); (try clear hb2); (try clear hk); (try clear hi)))
    have n0_ := Aside0.mk (Kd.qu0 HO_160003.out)
    have n1_ := Aside0.mk (qf0 BK159.out)
    have n2_ := Aside0.mk (qf0 BK160.out)
    have n3_ := Aside0.mk (IsS186.drew HI0.out)
    have n4_ := Aside0.mk (Kept.drew HK.out)
    have n5_ := Aside0.mk (qi0 HB.out)
    clear HO_160003
    clear BK159
    clear BK160
    clear HI0
    clear HK
    clear HB
    have HO_160003 := n0_
    have BK159 := n1_
    have BK160 := n2_
    have HI0 := n3_
    have HK := n4_
    have HB := n5_
    clear n0_ n1_ n2_ n3_ n4_ n5_
    refine start_ (n := 9) (S := fun w' => w'.cell? ⟨gb159, 0, none⟩ = some (.int .i64 a1_0) ∧ w'.cell? ⟨gb159, 1, none⟩ = some (.int .i64 a1_1) ∧ w'.cell? ⟨gb159, 2, none⟩ = some (.string a1_2) ∧ w'.cell? ⟨gb159, 3, none⟩ = some (.slice Ao4 l1_3.length co4)) (ds := [8]) #[false, false, false, false, false, false, false, false, false] z3_11 rfl rfl ⟨(qb0 BK159.out 0).trans rfl, (qb0 BK159.out 1).trans rfl, (qb0 BK159.out 2).trans rfl, (qb0 BK159.out 3).trans rfl⟩ (fun hHeld => ?_); refine with_tabW spec_l5SpoilEntry.tab12 spec_l5SpoilEntry.bits12 (fun HT_ HW_ => ?_)
    generalize w73.drew = w74 at HO_160003 BK159 BK160 HI0 HK HB hHeld ⊢
    refine pure_ (i := 0) (N := some 43) (v := ?_) (a' := ?_) #[true, false, false, false, false, false, false, false, false] rfl rfl (qs0 HT_.out z3_11) (fun _ _ _ h => h) (Or.inl ⟨by rfl, ?_⟩) ?_ ?_
    rotate_left
    ·intro w'
     go_simp
     with_reducible rfl
    rotate_left
    ·simp only [Act.put, List.setIfInBounds_toArray, List.set_cons_zero, List.set_cons_succ, i64_w, i32_w]
     rfl
    refine pure_ (i := 2) (N := some 45) (v := ?_) (a' := ?_) #[true, false, true, false, false, false, false, false, false] rfl rfl (qs0 HT_.out z3_11) (fun _ _ _ h => h) (Or.inl ⟨by rfl, ?_⟩) ?_ ?_
    rotate_left
    ·intro w'
     go_simp
     with_reducible rfl
    rotate_left
    ·simp only [Act.put, List.setIfInBounds_toArray, List.set_cons_zero, List.set_cons_succ, i64_w, i32_w]
     rfl
    refine pure_ (i := 3) (N := some 46) (v := ?_) (a' := ?_) #[true, false, true, true, false, false, false, false, false] rfl rfl (qs0 HT_.out z3_11) (fun _ _ _ h => h) (Or.inl ⟨by rfl, ?_⟩) ?_ ?_
    rotate_left
    ·intro w'
     go_simp
     with_reducible rfl
    rotate_left
    ·simp only [Act.put, List.setIfInBounds_toArray, List.set_cons_zero, List.set_cons_succ, i64_w, i32_w]
     rfl
    refine take_ (i := 1) (N := some 44) (v := ?_) (a' := ?_) #[true, true, true, true, false, false, false, false, false] rfl rfl (ql1 HT_.out HW_.out z3_11) (fun _ _ _ h => h) (Or.inl ⟨by rfl, ?_⟩) hHeld ?_ ?_
    rotate_left
    ·rintro w' ⟨s0, s1, s2, s3⟩
     go_simp
     with_reducible rfl
    rotate_left
    ·simp only [Act.put, List.setIfInBounds_toArray, List.set_cons_zero, List.set_cons_succ, i64_w, i32_w]
     rfl
    refine one_ (i := 4) (N := some 47) #[true, true, true, true, true, false, false, false, false] rfl rfl (qt1 HT_.out z3_11) z3_16 (fun K hK => ?_)
    refine goes_ Try.func61 z3_11 rfl #[.pointer (some ⟨g, 0, none⟩), .int .i64 12] (by rfl) rfl rfl z3_6 ?_
    with_reducible refine (spec_l1Below.calls g s0_0 t168 t169 12 t188 t189 t190 w0 _ ?side1 ?side2 A65.out).mono ?_
    (case side1 => exact z3_0)
    (case side2 => exact z3_2)
    rintro e w75 ⟨rfl, hi, hb, hk⟩
    refine ⟨_, rfl, ?_⟩
    have n0_ := Aside0.mk (Kd.qm0 (Kd.qy0 (IsS186.apart (show IsS186 w0 _ g s0_0 t168 t169 from z3_0) z3_7 z3_16) hk (fun _ h => h.2)) (fun _ h => h.1))
    have n1_ := Aside0.mk (qc0.blk hk (g' := gb159) (o := .cells #[.int .i64 a1_0, .int .i64 a1_1, .string a1_2, .slice Ao4 l1_3.length co4] 98 (0, 0)) z3_4 NB159_0.out (by simp))
    have n2_ := Aside0.mk (qc0.blk hk (g' := gb160) (o := .cells #[.int .i64 0, .int .i64 0, .string (⟨#[]⟩ : ByteArray), .slice none 0 0] 98 (0, 0)) z3_5 NB160_0.out (by simp))
    have n3_ := Aside0.mk (Kept.qk1 (S := (fun k_ => (P1_3_ k_) ∨ k_ = g)) z3_1 hk (.inl (.inr rfl)))
    have n4_ := Aside0.mk (hb)
    have n5_ := Aside0.mk (hi)
    clear HO_160003
    clear BK159
    clear BK160
    clear HK
    clear HB
    clear HI0
    have HO_160003 := n0_
    have BK159 := n1_
    have BK160 := n2_
    have HK := n3_
    have HB := n4_
    have HI0 := n5_
    clear n0_ n1_ n2_ n3_ n4_ n5_
    (try clear hb)
    (try clear hb2)
    (try clear hk)
    (try clear hi)
    have p68 : 0 ≤ (t164 : Int) := of_decide_eq_true z3_8
    have q68 : (t164 : Int) < ((l1_3.length : Int) : Int) := of_decide_eq_true z3_8
    obtain ⟨go68, co68, eo68, gb68, gl68, cl68, HG68⟩ := Kd.R_form HO_160003.out (by omega)
    (first | cases eo68 | (injection eo68 with ea_ en_ ec_; (first | subst ea_ | (injection ea_ with ea_; subst ea_)); subst ec_; clear en_))
    have GB68 := Aside0.mk gb68
    have GG68 := Aside0.mk HG68
    clear gb68 gl68 HG68
    have HMgo68 := Aside0.mk (show (P1_3_ go68 ∨ w.heap.size ≤ go68) from (HO_160003.out.1 _ rfl))
    obtain ⟨ce68, hcl68, hM68, hcc68, hfr68⟩ := Kd.R_elem HO_160003.out z100 (t164 : Int) p68 q68
    obtain rfl := k100_openM hM68
    have hx68_0 : World.cell? _ ⟨go68, (t164 : Int).toNat * 5, none⟩ = some (.int .i64 ((rd_T100 l1_3 t164).f0)) := hcc68 0 _ rfl
    have hx68_1 : World.cell? _ ⟨go68, (t164 : Int).toNat * 5 + 1, none⟩ = some (.int .i64 ((rd_T100 l1_3 t164).f1)) := hcc68 1 _ rfl
    have hx68_2 : World.cell? _ ⟨go68, (t164 : Int).toNat * 5 + 2, none⟩ = some (.int .i64 ((rd_T100 l1_3 t164).f2)) := hcc68 2 _ rfl
    have hx68_3 : World.cell? _ ⟨go68, (t164 : Int).toNat * 5 + 3, none⟩ = some (.int .i64 ((rd_T100 l1_3 t164).f3)) := hcc68 3 _ rfl
    have hx68_4 : World.cell? _ ⟨go68, (t164 : Int).toNat * 5 + 4, none⟩ = some (.int .i64 ((rd_T100 l1_3 t164).f4)) := hcc68 4 _ rfl
    have hf68_0 : World.frozen? _ ⟨go68, (t164 : Int).toNat * 5, none⟩ = false := hfr68 0
    have hf68_1 : World.frozen? _ ⟨go68, (t164 : Int).toNat * 5 + 1, none⟩ = false := hfr68 1
    have hf68_2 : World.frozen? _ ⟨go68, (t164 : Int).toNat * 5 + 2, none⟩ = false := hfr68 2
    have hf68_3 : World.frozen? _ ⟨go68, (t164 : Int).toNat * 5 + 3, none⟩ = false := hfr68 3
    have hf68_4 : World.frozen? _ ⟨go68, (t164 : Int).toNat * 5 + 4, none⟩ = false := hfr68 4
    clear hcl68 hcc68 hfr68 hM68
    replace p68 := eq_true p68
    replace q68 := eq_true q68
    have HN0_go68 := Aside0.mk (show g ≠ go68 from by have h_ := IsS186.own_ne HI0.out HO_160003.out z3_16; intro e_; exact h_ (by rw [e_]; rfl))
    obtain ⟨ce76, hcl76, hM76, hcc76, hfr76⟩ := Kd.R_elem HO_160003.out z100 (t164 : Int) (of_decide_eq_true z3_8) (by have h_ : (t164 : Int) < ((l1_3.length : Int) : Int) := of_decide_eq_true z3_8; first | exact h_ | (have e_ := (Kd.qn0 HO_160003.out).1; omega) | simpa using h_)
    obtain rfl := k100_openM hM76
    have HP76 := (Kd.R_seg HO_160003.out (t164 : Int) (of_decide_eq_true z3_8) (by have h_ : (t164 : Int) < ((l1_3.length : Int) : Int) := of_decide_eq_true z3_8; first | exact h_ | (have e_ := (Kd.qn0 HO_160003.out).1; omega) | simpa using h_) (seg := [.int .i64 (wrap64 (t188 - 1))]) (j := 0) hcl76 hcc76 (show 1 ≤ 5 from z3_16) (x' := (⟨wrap64 (t188 - 1), (rd_T100 l1_3 t164).f1, (rd_T100 l1_3 t164).f2, (rd_T100 l1_3 t164).f3, (rd_T100 l1_3 t164).f4⟩ : S100)) (k100_mkM _ _ _ (⟨wrap64 (t188 - 1), (rd_T100 l1_3 t164).f1, (rd_T100 l1_3 t164).f2, (rd_T100 l1_3 t164).f3, (rd_T100 l1_3 t164).f4⟩ : S100) ) (fun _ hk => hk)).1
    rw [← Ny191.out] at HP76
    have HQ76 := Aside0.mk HP76
    clear hcl76 hcc76 hfr76 hM76 HP76
    refine hK.out _ _ ⟨(qb0 BK159.out 0).trans rfl, (qb0 BK159.out 1).trans rfl, (qb0 BK159.out 2).trans rfl, (qb0 BK159.out 3).trans rfl⟩ (fun hHeld => ?_)
    clear hK K
    refine norm_ (a' := ?_) ?_ ?_
    rotate_left
    ·show Act.put _ (some 47) _ = _
     simp only [Act.put, List.setIfInBounds_toArray, List.set_cons_zero, List.set_cons_succ, i64_w, i32_w]
     rfl
    refine pure_ (i := 5) (N := some 48) (v := ?_) (a' := ?_) #[true, true, true, true, true, true, false, false, false] rfl rfl (qs0 HT_.out z3_11) (fun _ _ _ h => h) (Or.inl ⟨by rfl, ?_⟩) ?_ ?_
    rotate_left
    ·intro w'
     go_simp
     with_reducible rfl
    rotate_left
    ·simp only [Act.put, List.setIfInBounds_toArray, List.set_cons_zero, List.set_cons_succ, i64_w, i32_w]
     rfl
    refine pure_ (i := 6) (N := some 49) (v := ?_) (a' := ?_) #[true, true, true, true, true, true, true, false, false] rfl rfl (qs0 HT_.out z3_11) (fun _ _ _ h => h) (Or.inl ⟨by rfl, ?_⟩) ?_ ?_
    rotate_left
    ·intro w'
     go_simp
     with_reducible rfl
    rotate_left
    ·simp only [Act.put, List.setIfInBounds_toArray, List.set_cons_zero, List.set_cons_succ, i64_w, i32_w]
     rfl
    refine pure_ (i := 7) (N := some 50) (v := ?_) (a' := ?_) #[true, true, true, true, true, true, true, true, false] rfl rfl (qs0 HT_.out z3_11) (fun _ _ _ h => h) (Or.inl ⟨by rfl, ?_⟩) ?_ ?_
    rotate_left
    ·intro w'
     go_simp
     with_reducible rfl
    rotate_left
    ·simp only [Act.put, List.setIfInBounds_toArray, List.set_cons_zero, List.set_cons_succ, i64_w, i32_w]
     rfl
    refine last_ (i := 8) (N := none) #[true, true, true, true, true, true, true, true, true] rfl rfl (qt1 HT_.out z3_11) z3_16 (fun K hK => ?_)
    refine skip_ (w1 := ?_) (by rfl) rfl ?_ ?_
    rotate_left
    ·go_simp
     rfl
    refine hK.out _ _ ?_
    clear hK K
    refine done_ (done_of HT_.out z3_11) ?_
    have n0_ : Aside0 (Kd.R k100 100 (w75.setCell ⟨go68, (t164 : Int).toNat * 5, none⟩ (.int .i64 (wrap64 (t188 - 1)))) w0.heap.size (fun k_ => (P1_3_ k_ ∨ w.heap.size ≤ k_)) (.slice (some ⟨go68, 0, none⟩) l1_3.length co4) y191) := ⟨by (with_reducible repeat (first | apply Kd.qr0 | apply Kd.qp0 | apply Kd.qu0)); exact HQ76.out⟩
    have n1_ : Aside0 ((w75.setCell ⟨go68, (t164 : Int).toNat * 5, none⟩ (.int .i64 (wrap64 (t188 - 1)))).heap[gb159]? = some (.cells #[.int .i64 a1_0, .int .i64 a1_1, .string a1_2, .slice (some ⟨go68, 0, none⟩) l1_3.length co4] 98 (0, 0))) := ⟨by (with_reducible repeat (first | refine qe0 ?_ _ | refine qf0 ?_ | refine qd0 ?_ _)); refine blk_far ?_ (by have h_ := Kd.R_ne HO_160003.out BK159.out z3_16; intro e_; exact h_ (by rw [e_]; rfl)) _; (with_reducible repeat (first | refine qe0 ?_ _ | refine qf0 ?_ | refine qd0 ?_ _)); exact BK159.out⟩
    have n2_ : Aside0 ((w75.setCell ⟨go68, (t164 : Int).toNat * 5, none⟩ (.int .i64 (wrap64 (t188 - 1)))).heap[gb160]? = some (.cells #[.int .i64 0, .int .i64 0, .string (⟨#[]⟩ : ByteArray), .slice none 0 0] 98 (0, 0))) := ⟨by (with_reducible repeat (first | refine qe0 ?_ _ | refine qf0 ?_ | refine qd0 ?_ _)); refine blk_far ?_ (by have h_ := Kd.R_ne HO_160003.out BK160.out z3_16; intro e_; exact h_ (by rw [e_]; rfl)) _; (with_reducible repeat (first | refine qe0 ?_ _ | refine qf0 ?_ | refine qd0 ?_ _)); exact BK160.out⟩
    have n3_ : Aside0 (IsS186 w0 (w75.setCell ⟨go68, (t164 : Int).toNat * 5, none⟩ (.int .i64 (wrap64 (t188 - 1)))) g s0_0 t189 t190) := ⟨by repeat (first | (with_reducible first | exact HI0.out | apply IsS186.alloc | apply IsS186.drewN | apply IsS186.drew | apply IsS186.set_1 | apply IsS186.set_2 | refine IsS186.far ?_ HN0_go68.out _ | refine IsS186.far ?_ NB0_159.out _ | refine IsS186.far ?_ NB0_160.out _) | exact HI0.out)⟩
    have n4_ : Aside0 (Kept w (w75.setCell ⟨go68, (t164 : Int).toNat * 5, none⟩ (.int .i64 (wrap64 (t188 - 1)))) (fun k_ => (P1_3_ k_) ∨ k_ = g)) := ⟨by repeat (first | (with_reducible first | exact HK.out | apply Kept.alloc | apply Kept.drewN | apply Kept.drew | refine Kept.setCell ?_ (Or.imp_left Or.inl HMgo68.out) _ | refine Kept.setCell ?_ (.inl (.inr rfl)) _ | refine Kept.setCell ?_ (.inr GW159.out) _ | refine Kept.setCell ?_ (.inr GW160.out) _) | exact HK.out)⟩
    have n5_ : Aside0 (Below w0.heap.size w0 (w75.setCell ⟨go68, (t164 : Int).toNat * 5, none⟩ (.int .i64 (wrap64 (t188 - 1))))) := ⟨by repeat (first | (with_reducible first | exact HB.out | apply qj0 | apply qh0 | apply qi0 | refine qk0 ?_ GB68.out | refine qk0 ?_ (IsS186.ge HI0.out) | refine qk0 ?_ GE159.out | refine qk0 ?_ GE160.out) | exact HB.out)⟩
    (try clear HO_160003)
    (try clear BK159)
    (try clear BK160)
    (try clear HI0)
    (try clear HK)
    (try clear HB)
    generalize (w75.setCell ⟨go68, (t164 : Int).toNat * 5, none⟩ (.int .i64 (wrap64 (t188 - 1)))) = w77 at n0_ n1_ n2_ n3_ n4_ n5_ ⊢
    have HO_160003 := n0_
    have BK159 := n1_
    have BK160 := n2_
    have HI0 := n3_
    have HK := n4_
    have HB := n5_
    clear n0_ n1_ n2_ n3_ n4_ n5_
    have hcz78_0 : w77.cell? ⟨gb159, 0, none⟩ = some (.int .i64 a1_0) := (qb0 BK159.out 0).trans rfl
    have hcz78_1 : w77.cell? ⟨gb159, 1, none⟩ = some (.int .i64 a1_1) := (qb0 BK159.out 1).trans rfl
    have hcz78_2 : w77.cell? ⟨gb159, 2, none⟩ = some (.string a1_2) := (qb0 BK159.out 2).trans rfl
    have hcz78_3 : w77.cell? ⟨gb159, 3, none⟩ = some (.slice (some ⟨go68, 0, none⟩) l1_3.length co4) := (qb0 BK159.out 3).trans rfl
    have hfz78_0 := qa0 BK159.out 0
    have hfz78_1 := qa0 BK159.out 1
    have hfz78_2 := qa0 BK159.out 2
    have hfz78_3 := qa0 BK159.out 3
    have hnb79 := NB160_0.out
    have hnc79 := NB0_160.out
    have hcz80_0 : w77.cell? ⟨gb160, 0, none⟩ = some (.int .i64 0) := (qb0 BK160.out 0).trans rfl
    have hcz80_1 : w77.cell? ⟨gb160, 1, none⟩ = some (.int .i64 0) := (qb0 BK160.out 1).trans rfl
    have hcz80_2 : w77.cell? ⟨gb160, 2, none⟩ = some (.string (⟨#[]⟩ : ByteArray)) := (qb0 BK160.out 2).trans rfl
    have hcz80_3 : w77.cell? ⟨gb160, 3, none⟩ = some (.slice none 0 0) := (qb0 BK160.out 3).trans rfl
    have hfz80_0 := qa0 BK160.out 0
    have hfz80_1 := qa0 BK160.out 1
    have hfz80_2 := qa0 BK160.out 2
    have hfz80_3 := qa0 BK160.out 3
    try go_wp2
    refine bodyPost_ret (results_cell_row rfl _ _ gb160 98 #[.int .i64 a1_0, .int .i64 a1_1, .string a1_2, .slice (some ⟨go68, 0, none⟩) l1_3.length co4] (0, 0) _ rfl z3_3 Try.underlying98 rfl z3_11) rfl ?_
    exact ⟨_, z3_12, by (with_reducible repeat (first | apply Kd.qr0 | apply Kd.qp0 | apply Kd.qu0)); exact Kd.qm0 (Kd.R_far (p := ⟨gb160, 3, none⟩) (Kd.R_far (p := ⟨gb160, 2, none⟩) (Kd.R_far (p := ⟨gb160, 1, none⟩) (Kd.R_far (p := ⟨gb160, 0, none⟩) (Kd.qi1 HO_160003.out BK160.out z3_16) (fun _ hk => hk.2) (.int .i64 a1_0)) (fun _ hk => hk.2) (.int .i64 a1_1)) (fun _ hk => hk.2) (.string a1_2)) (fun _ hk => hk.2) (.slice (some ⟨go68, 0, none⟩) l1_3.length co4)) (fun _ hk => hk.1), z3_0, z3_2, z3_1⟩
   rw [if_neg c64] at H
   have c64b0 : (t167 == 3) = false := beq_eq_false_iff_ne.mpr c64
   have c64b1 : (t167 != 3) = true := bne_iff_ne.mpr c64
   by_cases c81 : t167 = 4
   ·rw [if_pos c81] at H
    have c81b0 : (t167 == 4) = true := beq_iff_eq.mpr c81
    have c81b1 : (t167 != 4) = false := bne_eq_false_iff_eq.mpr c81
    clear c81
    replace H := Option.bind_eq_some_iff.mp H
    obtain ⟨⟨t192, t193, t194⟩, A820, H⟩ := H
    replace H : (if 0 ≤ t164 then (if t164 < (l1_3.length : Int) then (some (a1_0, a1_1, a1_2, (l1_3.set (t164 : Int).toNat (⟨(rd_T100 l1_3 t164).f0, wrap64 (t192 - 1), (rd_T100 l1_3 t164).f2, (rd_T100 l1_3 t164).f3, (rd_T100 l1_3 t164).f4⟩ : S100)), t193, t194)) else (none)) else (none)) = some (r1, r2, r3, r4, r5, r6) := H
    have A82 := Aside0.mk A820
    clear A820
    by_cases c83 : 0 ≤ t164
    case neg => rw [if_neg c83] at H; exact absurd H (by simp)
    rw [if_pos c83] at H
    have c83b0 : decide (0 ≤ t164) = true := decide_eq_true c83
    clear c83
    by_cases c84 : t164 < (l1_3.length : Int)
    case neg => rw [if_neg c84] at H; exact absurd H (by simp)
    rw [if_pos c84] at H
    have c84b0 : decide (t164 < (l1_3.length : Int)) = true := decide_eq_true c84
    clear c84
    obtain ⟨y195, hy195⟩ : ∃ y_ : List (S100), y_ = (l1_3.set (t164 : Int).toNat (⟨(rd_T100 l1_3 t164).f0, wrap64 (t192 - 1), (rd_T100 l1_3 t164).f2, (rd_T100 l1_3 t164).f3, (rd_T100 l1_3 t164).f4⟩ : S100)) := ⟨_, rfl⟩
    replace H : (some (a1_0, a1_1, a1_2, y195, t193, t194)) = some (r1, r2, r3, r4, r5, r6) := by first | (rw [hy195]; with_reducible exact H) | (have H2_ := (Option.bind_some _ _).symm.trans H; rw [hy195]; with_reducible exact H2_) | (have H2_ := (Option.bind_some _ _).symm.trans H; with_reducible exact H2_) | with_reducible exact H | (rw [hy195]; exact H) | exact H
    have Ny195 := Aside0.mk hy195
    clear hy195
    simp only [Option.some.injEq, Prod.mk.injEq] at H
    obtain ⟨rfl, rfl, rfl, rfl, rfl, rfl⟩ := H
    have hnb86 := NB159_160.out
    have hnc86 := NB160_159.out
    have hnb87 := NB159_0.out
    have hnc87 := NB0_159.out
    have hcz88_0 : wc.cell? ⟨gb159, 0, none⟩ = some (.int .i64 a1_0) := (qb0 BK159.out 0).trans rfl
    have hcz88_1 : wc.cell? ⟨gb159, 1, none⟩ = some (.int .i64 a1_1) := (qb0 BK159.out 1).trans rfl
    have hcz88_2 : wc.cell? ⟨gb159, 2, none⟩ = some (.string a1_2) := (qb0 BK159.out 2).trans rfl
    have hcz88_3 : wc.cell? ⟨gb159, 3, none⟩ = some (.slice Ao4 l1_3.length co4) := (qb0 BK159.out 3).trans rfl
    have hfz88_0 := qa0 BK159.out 0
    have hfz88_1 := qa0 BK159.out 1
    have hfz88_2 := qa0 BK159.out 2
    have hfz88_3 := qa0 BK159.out 3
    try go_wp2_with (first | ((with_reducible refine qg0 (f := 61) rfl ?_); refine qt0 (some 20) rfl rfl Try.func61 z3_11 rfl #[.pointer (some ⟨g, 0, none⟩), .int .i64 (l1_3.length : Int)] rfl z3_6 ?_; (with_reducible refine (spec_l1Below.calls g s0_0 x1001_2 x1002_2 (l1_3.length : Int) t164 t165 t166 w0 _ ?side1 ?side2 A20.out).mono ?_); (case side1 => exact z3_0); (case side2 => exact z3_2); rintro e w89 ⟨rfl, hi, hb, hk⟩; refine ⟨_, rfl, ?_⟩; have n0_ := Aside0.mk (Kd.qm0 (Kd.qy0 (IsS186.apart (show IsS186 w0 _ g s0_0 x1001_2 x1002_2 from z3_0) z3_7 z3_16) hk (fun _ h => h.2)) (fun _ h => h.1)); have n1_ := Aside0.mk (qc0.blk hk (g' := gb159) (o := .cells #[.int .i64 a1_0, .int .i64 a1_1, .string a1_2, .slice Ao4 l1_3.length co4] 98 (0, 0)) z3_4 NB159_0.out (by simp)); have n2_ := Aside0.mk (qc0.blk hk (g' := gb160) (o := .cells #[.int .i64 0, .int .i64 0, .string (⟨#[]⟩ : ByteArray), .slice none 0 0] 98 (0, 0)) z3_5 NB160_0.out (by simp)); have n3_ := Aside0.mk (Kept.qk1 (S := (fun k_ => (P1_3_ k_) ∨ k_ = g)) z3_1 hk (.inl (.inr rfl))); have n4_ := Aside0.mk (hb); have n5_ := Aside0.mk (hi); clear HO_160003; clear BK159; clear BK160; clear HK; clear HB; clear HI0; have HO_160003 := n0_; have BK159 := n1_; have BK160 := n2_; have HK := n3_; have HB := n4_; have HI0 := n5_; clear n0_ n1_ n2_ n3_ n4_ n5_; (try clear hb); (try clear hb2); (try clear hk); (try clear hi)) | ((with_reducible refine qg0 (f := 61) rfl ?_); refine qt0 (some 22) rfl rfl Try.func61 z3_11 rfl #[.pointer (some ⟨g, 0, none⟩), .int .i64 9] rfl z3_6 ?_; (with_reducible refine (spec_l1Below.calls g s0_0 t165 t166 9 t167 t168 t169 w0 _ ?side1 ?side2 A21.out).mono ?_); (case side1 => exact z3_0); (case side2 => exact z3_2); rintro e w90 ⟨rfl, hi, hb, hk⟩; refine ⟨_, rfl, ?_⟩; have n0_ := Aside0.mk (Kd.qm0 (Kd.qy0 (IsS186.apart (show IsS186 w0 _ g s0_0 t165 t166 from z3_0) z3_7 z3_16) hk (fun _ h => h.2)) (fun _ h => h.1)); have n1_ := Aside0.mk (qc0.blk hk (g' := gb159) (o := .cells #[.int .i64 a1_0, .int .i64 a1_1, .string a1_2, .slice Ao4 l1_3.length co4] 98 (0, 0)) z3_4 NB159_0.out (by simp)); have n2_ := Aside0.mk (qc0.blk hk (g' := gb160) (o := .cells #[.int .i64 0, .int .i64 0, .string (⟨#[]⟩ : ByteArray), .slice none 0 0] 98 (0, 0)) z3_5 NB160_0.out (by simp)); have n3_ := Aside0.mk (Kept.qk1 (S := (fun k_ => (P1_3_ k_) ∨ k_ = g)) z3_1 hk (.inl (.inr rfl))); have n4_ := Aside0.mk (hb); have n5_ := Aside0.mk (hi); clear HO_160003; clear BK159; clear BK160; clear HK; clear HB; clear HI0; have HO_160003 := n0_; have BK159 := n1_; have BK160 := n2_; have HK := n3_; have HB := n4_; have HI0 := n5_; clear n0_ n1_ n2_ n3_ n4_ n5_; (try clear hb); (try clear hb2); (try clear hk); (try clear hi)))
    have n0_ := Aside0.mk (Kd.qu0 HO_160003.out)
    have n1_ := Aside0.mk (qf0 BK159.out)
    have n2_ := Aside0.mk (qf0 BK160.out)
    have n3_ := Aside0.mk (IsS186.drew HI0.out)
    have n4_ := Aside0.mk (Kept.drew HK.out)
    have n5_ := Aside0.mk (qi0 HB.out)
    clear HO_160003
    clear BK159
    clear BK160
    clear HI0
    clear HK
    clear HB
    have HO_160003 := n0_
    have BK159 := n1_
    have BK160 := n2_
    have HI0 := n3_
    have HK := n4_
    have HB := n5_
    clear n0_ n1_ n2_ n3_ n4_ n5_
    refine start_ (n := 9) (S := fun w' => w'.cell? ⟨gb159, 0, none⟩ = some (.int .i64 a1_0) ∧ w'.cell? ⟨gb159, 1, none⟩ = some (.int .i64 a1_1) ∧ w'.cell? ⟨gb159, 2, none⟩ = some (.string a1_2) ∧ w'.cell? ⟨gb159, 3, none⟩ = some (.slice Ao4 l1_3.length co4)) (ds := [8]) #[false, false, false, false, false, false, false, false, false] z3_11 rfl rfl ⟨(qb0 BK159.out 0).trans rfl, (qb0 BK159.out 1).trans rfl, (qb0 BK159.out 2).trans rfl, (qb0 BK159.out 3).trans rfl⟩ (fun hHeld => ?_); refine with_tabW spec_l5SpoilEntry.tab14 spec_l5SpoilEntry.bits14 (fun HT_ HW_ => ?_)
    generalize w90.drew = w91 at HO_160003 BK159 BK160 HI0 HK HB hHeld ⊢
    refine pure_ (i := 0) (N := some 53) (v := ?_) (a' := ?_) #[true, false, false, false, false, false, false, false, false] rfl rfl (qs0 HT_.out z3_11) (fun _ _ _ h => h) (Or.inl ⟨by rfl, ?_⟩) ?_ ?_
    rotate_left
    ·intro w'
     go_simp
     with_reducible rfl
    rotate_left
    ·simp only [Act.put, List.setIfInBounds_toArray, List.set_cons_zero, List.set_cons_succ, i64_w, i32_w]
     rfl
    refine pure_ (i := 2) (N := some 55) (v := ?_) (a' := ?_) #[true, false, true, false, false, false, false, false, false] rfl rfl (qs0 HT_.out z3_11) (fun _ _ _ h => h) (Or.inl ⟨by rfl, ?_⟩) ?_ ?_
    rotate_left
    ·intro w'
     go_simp
     with_reducible rfl
    rotate_left
    ·simp only [Act.put, List.setIfInBounds_toArray, List.set_cons_zero, List.set_cons_succ, i64_w, i32_w]
     rfl
    refine pure_ (i := 3) (N := some 56) (v := ?_) (a' := ?_) #[true, false, true, true, false, false, false, false, false] rfl rfl (qs0 HT_.out z3_11) (fun _ _ _ h => h) (Or.inl ⟨by rfl, ?_⟩) ?_ ?_
    rotate_left
    ·intro w'
     go_simp
     with_reducible rfl
    rotate_left
    ·simp only [Act.put, List.setIfInBounds_toArray, List.set_cons_zero, List.set_cons_succ, i64_w, i32_w]
     rfl
    refine take_ (i := 1) (N := some 54) (v := ?_) (a' := ?_) #[true, true, true, true, false, false, false, false, false] rfl rfl (ql1 HT_.out HW_.out z3_11) (fun _ _ _ h => h) (Or.inl ⟨by rfl, ?_⟩) hHeld ?_ ?_
    rotate_left
    ·rintro w' ⟨s0, s1, s2, s3⟩
     go_simp
     with_reducible rfl
    rotate_left
    ·simp only [Act.put, List.setIfInBounds_toArray, List.set_cons_zero, List.set_cons_succ, i64_w, i32_w]
     rfl
    refine one_ (i := 4) (N := some 57) #[true, true, true, true, true, false, false, false, false] rfl rfl (qt1 HT_.out z3_11) z3_16 (fun K hK => ?_)
    refine goes_ Try.func61 z3_11 rfl #[.pointer (some ⟨g, 0, none⟩), .int .i64 4] (by rfl) rfl rfl z3_6 ?_
    with_reducible refine (spec_l1Below.calls g s0_0 t168 t169 4 t192 t193 t194 w0 _ ?side1 ?side2 A82.out).mono ?_
    (case side1 => exact z3_0)
    (case side2 => exact z3_2)
    rintro e w92 ⟨rfl, hi, hb, hk⟩
    refine ⟨_, rfl, ?_⟩
    have n0_ := Aside0.mk (Kd.qm0 (Kd.qy0 (IsS186.apart (show IsS186 w0 _ g s0_0 t168 t169 from z3_0) z3_7 z3_16) hk (fun _ h => h.2)) (fun _ h => h.1))
    have n1_ := Aside0.mk (qc0.blk hk (g' := gb159) (o := .cells #[.int .i64 a1_0, .int .i64 a1_1, .string a1_2, .slice Ao4 l1_3.length co4] 98 (0, 0)) z3_4 NB159_0.out (by simp))
    have n2_ := Aside0.mk (qc0.blk hk (g' := gb160) (o := .cells #[.int .i64 0, .int .i64 0, .string (⟨#[]⟩ : ByteArray), .slice none 0 0] 98 (0, 0)) z3_5 NB160_0.out (by simp))
    have n3_ := Aside0.mk (Kept.qk1 (S := (fun k_ => (P1_3_ k_) ∨ k_ = g)) z3_1 hk (.inl (.inr rfl)))
    have n4_ := Aside0.mk (hb)
    have n5_ := Aside0.mk (hi)
    clear HO_160003
    clear BK159
    clear BK160
    clear HK
    clear HB
    clear HI0
    have HO_160003 := n0_
    have BK159 := n1_
    have BK160 := n2_
    have HK := n3_
    have HB := n4_
    have HI0 := n5_
    clear n0_ n1_ n2_ n3_ n4_ n5_
    (try clear hb)
    (try clear hb2)
    (try clear hk)
    (try clear hi)
    have p85 : 0 ≤ (t164 : Int) := of_decide_eq_true z3_8
    have q85 : (t164 : Int) < ((l1_3.length : Int) : Int) := of_decide_eq_true z3_8
    obtain ⟨go85, co85, eo85, gb85, gl85, cl85, HG85⟩ := Kd.R_form HO_160003.out (by omega)
    (first | cases eo85 | (injection eo85 with ea_ en_ ec_; (first | subst ea_ | (injection ea_ with ea_; subst ea_)); subst ec_; clear en_))
    have GB85 := Aside0.mk gb85
    have GG85 := Aside0.mk HG85
    clear gb85 gl85 HG85
    have HMgo85 := Aside0.mk (show (P1_3_ go85 ∨ w.heap.size ≤ go85) from (HO_160003.out.1 _ rfl))
    obtain ⟨ce85, hcl85, hM85, hcc85, hfr85⟩ := Kd.R_elem HO_160003.out z100 (t164 : Int) p85 q85
    obtain rfl := k100_openM hM85
    have hx85_0 : World.cell? _ ⟨go85, (t164 : Int).toNat * 5, none⟩ = some (.int .i64 ((rd_T100 l1_3 t164).f0)) := hcc85 0 _ rfl
    have hx85_1 : World.cell? _ ⟨go85, (t164 : Int).toNat * 5 + 1, none⟩ = some (.int .i64 ((rd_T100 l1_3 t164).f1)) := hcc85 1 _ rfl
    have hx85_2 : World.cell? _ ⟨go85, (t164 : Int).toNat * 5 + 2, none⟩ = some (.int .i64 ((rd_T100 l1_3 t164).f2)) := hcc85 2 _ rfl
    have hx85_3 : World.cell? _ ⟨go85, (t164 : Int).toNat * 5 + 3, none⟩ = some (.int .i64 ((rd_T100 l1_3 t164).f3)) := hcc85 3 _ rfl
    have hx85_4 : World.cell? _ ⟨go85, (t164 : Int).toNat * 5 + 4, none⟩ = some (.int .i64 ((rd_T100 l1_3 t164).f4)) := hcc85 4 _ rfl
    have hf85_0 : World.frozen? _ ⟨go85, (t164 : Int).toNat * 5, none⟩ = false := hfr85 0
    have hf85_1 : World.frozen? _ ⟨go85, (t164 : Int).toNat * 5 + 1, none⟩ = false := hfr85 1
    have hf85_2 : World.frozen? _ ⟨go85, (t164 : Int).toNat * 5 + 2, none⟩ = false := hfr85 2
    have hf85_3 : World.frozen? _ ⟨go85, (t164 : Int).toNat * 5 + 3, none⟩ = false := hfr85 3
    have hf85_4 : World.frozen? _ ⟨go85, (t164 : Int).toNat * 5 + 4, none⟩ = false := hfr85 4
    clear hcl85 hcc85 hfr85 hM85
    replace p85 := eq_true p85
    replace q85 := eq_true q85
    have HN0_go85 := Aside0.mk (show g ≠ go85 from by have h_ := IsS186.own_ne HI0.out HO_160003.out z3_16; intro e_; exact h_ (by rw [e_]; rfl))
    obtain ⟨ce93, hcl93, hM93, hcc93, hfr93⟩ := Kd.R_elem HO_160003.out z100 (t164 : Int) (of_decide_eq_true z3_8) (by have h_ : (t164 : Int) < ((l1_3.length : Int) : Int) := of_decide_eq_true z3_8; first | exact h_ | (have e_ := (Kd.qn0 HO_160003.out).1; omega) | simpa using h_)
    obtain rfl := k100_openM hM93
    have HP93 := (Kd.R_seg HO_160003.out (t164 : Int) (of_decide_eq_true z3_8) (by have h_ : (t164 : Int) < ((l1_3.length : Int) : Int) := of_decide_eq_true z3_8; first | exact h_ | (have e_ := (Kd.qn0 HO_160003.out).1; omega) | simpa using h_) (seg := [.int .i64 (wrap64 (t192 - 1))]) (j := 1) hcl93 hcc93 (show 2 ≤ 5 from z3_16) (x' := (⟨(rd_T100 l1_3 t164).f0, wrap64 (t192 - 1), (rd_T100 l1_3 t164).f2, (rd_T100 l1_3 t164).f3, (rd_T100 l1_3 t164).f4⟩ : S100)) (k100_mkM _ _ _ (⟨(rd_T100 l1_3 t164).f0, wrap64 (t192 - 1), (rd_T100 l1_3 t164).f2, (rd_T100 l1_3 t164).f3, (rd_T100 l1_3 t164).f4⟩ : S100) ) (fun _ hk => hk)).1
    rw [← Ny195.out] at HP93
    have HQ93 := Aside0.mk HP93
    clear hcl93 hcc93 hfr93 hM93 HP93
    refine hK.out _ _ ⟨(qb0 BK159.out 0).trans rfl, (qb0 BK159.out 1).trans rfl, (qb0 BK159.out 2).trans rfl, (qb0 BK159.out 3).trans rfl⟩ (fun hHeld => ?_)
    clear hK K
    refine norm_ (a' := ?_) ?_ ?_
    rotate_left
    ·show Act.put _ (some 57) _ = _
     simp only [Act.put, List.setIfInBounds_toArray, List.set_cons_zero, List.set_cons_succ, i64_w, i32_w]
     rfl
    refine pure_ (i := 5) (N := some 58) (v := ?_) (a' := ?_) #[true, true, true, true, true, true, false, false, false] rfl rfl (qs0 HT_.out z3_11) (fun _ _ _ h => h) (Or.inl ⟨by rfl, ?_⟩) ?_ ?_
    rotate_left
    ·intro w'
     go_simp
     with_reducible rfl
    rotate_left
    ·simp only [Act.put, List.setIfInBounds_toArray, List.set_cons_zero, List.set_cons_succ, i64_w, i32_w]
     rfl
    refine pure_ (i := 6) (N := some 59) (v := ?_) (a' := ?_) #[true, true, true, true, true, true, true, false, false] rfl rfl (qs0 HT_.out z3_11) (fun _ _ _ h => h) (Or.inl ⟨by rfl, ?_⟩) ?_ ?_
    rotate_left
    ·intro w'
     go_simp
     with_reducible rfl
    rotate_left
    ·simp only [Act.put, List.setIfInBounds_toArray, List.set_cons_zero, List.set_cons_succ, i64_w, i32_w]
     rfl
    refine pure_ (i := 7) (N := some 60) (v := ?_) (a' := ?_) #[true, true, true, true, true, true, true, true, false] rfl rfl (qs0 HT_.out z3_11) (fun _ _ _ h => h) (Or.inl ⟨by rfl, ?_⟩) ?_ ?_
    rotate_left
    ·intro w'
     go_simp
     with_reducible rfl
    rotate_left
    ·simp only [Act.put, List.setIfInBounds_toArray, List.set_cons_zero, List.set_cons_succ, i64_w, i32_w]
     rfl
    refine last_ (i := 8) (N := none) #[true, true, true, true, true, true, true, true, true] rfl rfl (qt1 HT_.out z3_11) z3_16 (fun K hK => ?_)
    refine skip_ (w1 := ?_) (by rfl) rfl ?_ ?_
    rotate_left
    ·go_simp
     rfl
    refine hK.out _ _ ?_
    clear hK K
    refine done_ (done_of HT_.out z3_11) ?_
    have n0_ : Aside0 (Kd.R k100 100 (w92.setCell ⟨go85, (t164 : Int).toNat * 5 + 1, none⟩ (.int .i64 (wrap64 (t192 - 1)))) w0.heap.size (fun k_ => (P1_3_ k_ ∨ w.heap.size ≤ k_)) (.slice (some ⟨go85, 0, none⟩) l1_3.length co4) y195) := ⟨by (with_reducible repeat (first | apply Kd.qr0 | apply Kd.qp0 | apply Kd.qu0)); exact HQ93.out⟩
    have n1_ : Aside0 ((w92.setCell ⟨go85, (t164 : Int).toNat * 5 + 1, none⟩ (.int .i64 (wrap64 (t192 - 1)))).heap[gb159]? = some (.cells #[.int .i64 a1_0, .int .i64 a1_1, .string a1_2, .slice (some ⟨go85, 0, none⟩) l1_3.length co4] 98 (0, 0))) := ⟨by (with_reducible repeat (first | refine qe0 ?_ _ | refine qf0 ?_ | refine qd0 ?_ _)); refine blk_far ?_ (by have h_ := Kd.R_ne HO_160003.out BK159.out z3_16; intro e_; exact h_ (by rw [e_]; rfl)) _; (with_reducible repeat (first | refine qe0 ?_ _ | refine qf0 ?_ | refine qd0 ?_ _)); exact BK159.out⟩
    have n2_ : Aside0 ((w92.setCell ⟨go85, (t164 : Int).toNat * 5 + 1, none⟩ (.int .i64 (wrap64 (t192 - 1)))).heap[gb160]? = some (.cells #[.int .i64 0, .int .i64 0, .string (⟨#[]⟩ : ByteArray), .slice none 0 0] 98 (0, 0))) := ⟨by (with_reducible repeat (first | refine qe0 ?_ _ | refine qf0 ?_ | refine qd0 ?_ _)); refine blk_far ?_ (by have h_ := Kd.R_ne HO_160003.out BK160.out z3_16; intro e_; exact h_ (by rw [e_]; rfl)) _; (with_reducible repeat (first | refine qe0 ?_ _ | refine qf0 ?_ | refine qd0 ?_ _)); exact BK160.out⟩
    have n3_ : Aside0 (IsS186 w0 (w92.setCell ⟨go85, (t164 : Int).toNat * 5 + 1, none⟩ (.int .i64 (wrap64 (t192 - 1)))) g s0_0 t193 t194) := ⟨by repeat (first | (with_reducible first | exact HI0.out | apply IsS186.alloc | apply IsS186.drewN | apply IsS186.drew | apply IsS186.set_1 | apply IsS186.set_2 | refine IsS186.far ?_ HN0_go85.out _ | refine IsS186.far ?_ NB0_159.out _ | refine IsS186.far ?_ NB0_160.out _) | exact HI0.out)⟩
    have n4_ : Aside0 (Kept w (w92.setCell ⟨go85, (t164 : Int).toNat * 5 + 1, none⟩ (.int .i64 (wrap64 (t192 - 1)))) (fun k_ => (P1_3_ k_) ∨ k_ = g)) := ⟨by repeat (first | (with_reducible first | exact HK.out | apply Kept.alloc | apply Kept.drewN | apply Kept.drew | refine Kept.setCell ?_ (Or.imp_left Or.inl HMgo85.out) _ | refine Kept.setCell ?_ (.inl (.inr rfl)) _ | refine Kept.setCell ?_ (.inr GW159.out) _ | refine Kept.setCell ?_ (.inr GW160.out) _) | exact HK.out)⟩
    have n5_ : Aside0 (Below w0.heap.size w0 (w92.setCell ⟨go85, (t164 : Int).toNat * 5 + 1, none⟩ (.int .i64 (wrap64 (t192 - 1))))) := ⟨by repeat (first | (with_reducible first | exact HB.out | apply qj0 | apply qh0 | apply qi0 | refine qk0 ?_ GB85.out | refine qk0 ?_ (IsS186.ge HI0.out) | refine qk0 ?_ GE159.out | refine qk0 ?_ GE160.out) | exact HB.out)⟩
    (try clear HO_160003)
    (try clear BK159)
    (try clear BK160)
    (try clear HI0)
    (try clear HK)
    (try clear HB)
    generalize (w92.setCell ⟨go85, (t164 : Int).toNat * 5 + 1, none⟩ (.int .i64 (wrap64 (t192 - 1)))) = w94 at n0_ n1_ n2_ n3_ n4_ n5_ ⊢
    have HO_160003 := n0_
    have BK159 := n1_
    have BK160 := n2_
    have HI0 := n3_
    have HK := n4_
    have HB := n5_
    clear n0_ n1_ n2_ n3_ n4_ n5_
    have hcz95_0 : w94.cell? ⟨gb159, 0, none⟩ = some (.int .i64 a1_0) := (qb0 BK159.out 0).trans rfl
    have hcz95_1 : w94.cell? ⟨gb159, 1, none⟩ = some (.int .i64 a1_1) := (qb0 BK159.out 1).trans rfl
    have hcz95_2 : w94.cell? ⟨gb159, 2, none⟩ = some (.string a1_2) := (qb0 BK159.out 2).trans rfl
    have hcz95_3 : w94.cell? ⟨gb159, 3, none⟩ = some (.slice (some ⟨go85, 0, none⟩) l1_3.length co4) := (qb0 BK159.out 3).trans rfl
    have hfz95_0 := qa0 BK159.out 0
    have hfz95_1 := qa0 BK159.out 1
    have hfz95_2 := qa0 BK159.out 2
    have hfz95_3 := qa0 BK159.out 3
    have hnb96 := NB160_0.out
    have hnc96 := NB0_160.out
    have hcz97_0 : w94.cell? ⟨gb160, 0, none⟩ = some (.int .i64 0) := (qb0 BK160.out 0).trans rfl
    have hcz97_1 : w94.cell? ⟨gb160, 1, none⟩ = some (.int .i64 0) := (qb0 BK160.out 1).trans rfl
    have hcz97_2 : w94.cell? ⟨gb160, 2, none⟩ = some (.string (⟨#[]⟩ : ByteArray)) := (qb0 BK160.out 2).trans rfl
    have hcz97_3 : w94.cell? ⟨gb160, 3, none⟩ = some (.slice none 0 0) := (qb0 BK160.out 3).trans rfl
    have hfz97_0 := qa0 BK160.out 0
    have hfz97_1 := qa0 BK160.out 1
    have hfz97_2 := qa0 BK160.out 2
    have hfz97_3 := qa0 BK160.out 3
    try go_wp2
    refine bodyPost_ret (results_cell_row rfl _ _ gb160 98 #[.int .i64 a1_0, .int .i64 a1_1, .string a1_2, .slice (some ⟨go85, 0, none⟩) l1_3.length co4] (0, 0) _ rfl z3_3 Try.underlying98 rfl z3_11) rfl ?_
    exact ⟨_, z3_12, by (with_reducible repeat (first | apply Kd.qr0 | apply Kd.qp0 | apply Kd.qu0)); exact Kd.qm0 (Kd.R_far (p := ⟨gb160, 3, none⟩) (Kd.R_far (p := ⟨gb160, 2, none⟩) (Kd.R_far (p := ⟨gb160, 1, none⟩) (Kd.R_far (p := ⟨gb160, 0, none⟩) (Kd.qi1 HO_160003.out BK160.out z3_16) (fun _ hk => hk.2) (.int .i64 a1_0)) (fun _ hk => hk.2) (.int .i64 a1_1)) (fun _ hk => hk.2) (.string a1_2)) (fun _ hk => hk.2) (.slice (some ⟨go85, 0, none⟩) l1_3.length co4)) (fun _ hk => hk.1), z3_0, z3_2, z3_1⟩
   rw [if_neg c81] at H
   have c81b0 : (t167 == 4) = false := beq_eq_false_iff_ne.mpr c81
   have c81b1 : (t167 != 4) = true := bne_iff_ne.mpr c81
   by_cases c98 : t167 = 5
   ·rw [if_pos c98] at H
    have c98b0 : (t167 == 5) = true := beq_iff_eq.mpr c98
    have c98b1 : (t167 != 5) = false := bne_eq_false_iff_eq.mpr c98
    clear c98
    replace H := Option.bind_eq_some_iff.mp H
    obtain ⟨⟨t196, t197, t198⟩, A990, H⟩ := H
    replace H : (if 0 ≤ t164 then (if t164 < (l1_3.length : Int) then (some (a1_0, a1_1, a1_2, (l1_3.set (t164 : Int).toNat (⟨(rd_T100 l1_3 t164).f0, (rd_T100 l1_3 t164).f1, wrap64 (t196 - 1), (rd_T100 l1_3 t164).f3, (rd_T100 l1_3 t164).f4⟩ : S100)), t197, t198)) else (none)) else (none)) = some (r1, r2, r3, r4, r5, r6) := H
    have A99 := Aside0.mk A990
    clear A990
    by_cases c100 : 0 ≤ t164
    case neg => rw [if_neg c100] at H; exact absurd H (by simp)
    rw [if_pos c100] at H
    have c100b0 : decide (0 ≤ t164) = true := decide_eq_true c100
    clear c100
    by_cases c101 : t164 < (l1_3.length : Int)
    case neg => rw [if_neg c101] at H; exact absurd H (by simp)
    rw [if_pos c101] at H
    have c101b0 : decide (t164 < (l1_3.length : Int)) = true := decide_eq_true c101
    clear c101
    obtain ⟨y199, hy199⟩ : ∃ y_ : List (S100), y_ = (l1_3.set (t164 : Int).toNat (⟨(rd_T100 l1_3 t164).f0, (rd_T100 l1_3 t164).f1, wrap64 (t196 - 1), (rd_T100 l1_3 t164).f3, (rd_T100 l1_3 t164).f4⟩ : S100)) := ⟨_, rfl⟩
    replace H : (some (a1_0, a1_1, a1_2, y199, t197, t198)) = some (r1, r2, r3, r4, r5, r6) := by first | (rw [hy199]; with_reducible exact H) | (have H2_ := (Option.bind_some _ _).symm.trans H; rw [hy199]; with_reducible exact H2_) | (have H2_ := (Option.bind_some _ _).symm.trans H; with_reducible exact H2_) | with_reducible exact H | (rw [hy199]; exact H) | exact H
    have Ny199 := Aside0.mk hy199
    clear hy199
    simp only [Option.some.injEq, Prod.mk.injEq] at H
    obtain ⟨rfl, rfl, rfl, rfl, rfl, rfl⟩ := H
    have hnb103 := NB159_160.out
    have hnc103 := NB160_159.out
    have hnb104 := NB159_0.out
    have hnc104 := NB0_159.out
    have hcz105_0 : wc.cell? ⟨gb159, 0, none⟩ = some (.int .i64 a1_0) := (qb0 BK159.out 0).trans rfl
    have hcz105_1 : wc.cell? ⟨gb159, 1, none⟩ = some (.int .i64 a1_1) := (qb0 BK159.out 1).trans rfl
    have hcz105_2 : wc.cell? ⟨gb159, 2, none⟩ = some (.string a1_2) := (qb0 BK159.out 2).trans rfl
    have hcz105_3 : wc.cell? ⟨gb159, 3, none⟩ = some (.slice Ao4 l1_3.length co4) := (qb0 BK159.out 3).trans rfl
    have hfz105_0 := qa0 BK159.out 0
    have hfz105_1 := qa0 BK159.out 1
    have hfz105_2 := qa0 BK159.out 2
    have hfz105_3 := qa0 BK159.out 3
    try go_wp2_with (first | ((with_reducible refine qg0 (f := 61) rfl ?_); refine qt0 (some 20) rfl rfl Try.func61 z3_11 rfl #[.pointer (some ⟨g, 0, none⟩), .int .i64 (l1_3.length : Int)] rfl z3_6 ?_; (with_reducible refine (spec_l1Below.calls g s0_0 x1001_2 x1002_2 (l1_3.length : Int) t164 t165 t166 w0 _ ?side1 ?side2 A20.out).mono ?_); (case side1 => exact z3_0); (case side2 => exact z3_2); rintro e w106 ⟨rfl, hi, hb, hk⟩; refine ⟨_, rfl, ?_⟩; have n0_ := Aside0.mk (Kd.qm0 (Kd.qy0 (IsS186.apart (show IsS186 w0 _ g s0_0 x1001_2 x1002_2 from z3_0) z3_7 z3_16) hk (fun _ h => h.2)) (fun _ h => h.1)); have n1_ := Aside0.mk (qc0.blk hk (g' := gb159) (o := .cells #[.int .i64 a1_0, .int .i64 a1_1, .string a1_2, .slice Ao4 l1_3.length co4] 98 (0, 0)) z3_4 NB159_0.out (by simp)); have n2_ := Aside0.mk (qc0.blk hk (g' := gb160) (o := .cells #[.int .i64 0, .int .i64 0, .string (⟨#[]⟩ : ByteArray), .slice none 0 0] 98 (0, 0)) z3_5 NB160_0.out (by simp)); have n3_ := Aside0.mk (Kept.qk1 (S := (fun k_ => (P1_3_ k_) ∨ k_ = g)) z3_1 hk (.inl (.inr rfl))); have n4_ := Aside0.mk (hb); have n5_ := Aside0.mk (hi); clear HO_160003; clear BK159; clear BK160; clear HK; clear HB; clear HI0; have HO_160003 := n0_; have BK159 := n1_; have BK160 := n2_; have HK := n3_; have HB := n4_; have HI0 := n5_; clear n0_ n1_ n2_ n3_ n4_ n5_; (try clear hb); (try clear hb2); (try clear hk); (try clear hi)) | ((with_reducible refine qg0 (f := 61) rfl ?_); refine qt0 (some 22) rfl rfl Try.func61 z3_11 rfl #[.pointer (some ⟨g, 0, none⟩), .int .i64 9] rfl z3_6 ?_; (with_reducible refine (spec_l1Below.calls g s0_0 t165 t166 9 t167 t168 t169 w0 _ ?side1 ?side2 A21.out).mono ?_); (case side1 => exact z3_0); (case side2 => exact z3_2); rintro e w107 ⟨rfl, hi, hb, hk⟩; refine ⟨_, rfl, ?_⟩; have n0_ := Aside0.mk (Kd.qm0 (Kd.qy0 (IsS186.apart (show IsS186 w0 _ g s0_0 t165 t166 from z3_0) z3_7 z3_16) hk (fun _ h => h.2)) (fun _ h => h.1)); have n1_ := Aside0.mk (qc0.blk hk (g' := gb159) (o := .cells #[.int .i64 a1_0, .int .i64 a1_1, .string a1_2, .slice Ao4 l1_3.length co4] 98 (0, 0)) z3_4 NB159_0.out (by simp)); have n2_ := Aside0.mk (qc0.blk hk (g' := gb160) (o := .cells #[.int .i64 0, .int .i64 0, .string (⟨#[]⟩ : ByteArray), .slice none 0 0] 98 (0, 0)) z3_5 NB160_0.out (by simp)); have n3_ := Aside0.mk (Kept.qk1 (S := (fun k_ => (P1_3_ k_) ∨ k_ = g)) z3_1 hk (.inl (.inr rfl))); have n4_ := Aside0.mk (hb); have n5_ := Aside0.mk (hi); clear HO_160003; clear BK159; clear BK160; clear HK; clear HB; clear HI0; have HO_160003 := n0_; have BK159 := n1_; have BK160 := n2_; have HK := n3_; have HB := n4_; have HI0 := n5_; clear n0_ n1_ n2_ n3_ n4_ n5_; (try clear hb); (try clear hb2); (try clear hk); (try clear hi)))
    have n0_ := Aside0.mk (Kd.qu0 HO_160003.out)
    have n1_ := Aside0.mk (qf0 BK159.out)
    have n2_ := Aside0.mk (qf0 BK160.out)
    have n3_ := Aside0.mk (IsS186.drew HI0.out)
    have n4_ := Aside0.mk (Kept.drew HK.out)
    have n5_ := Aside0.mk (qi0 HB.out)
    clear HO_160003
    clear BK159
    clear BK160
    clear HI0
    clear HK
    clear HB
    have HO_160003 := n0_
    have BK159 := n1_
    have BK160 := n2_
    have HI0 := n3_
    have HK := n4_
    have HB := n5_
    clear n0_ n1_ n2_ n3_ n4_ n5_
    refine start_ (n := 9) (S := fun w' => w'.cell? ⟨gb159, 0, none⟩ = some (.int .i64 a1_0) ∧ w'.cell? ⟨gb159, 1, none⟩ = some (.int .i64 a1_1) ∧ w'.cell? ⟨gb159, 2, none⟩ = some (.string a1_2) ∧ w'.cell? ⟨gb159, 3, none⟩ = some (.slice Ao4 l1_3.length co4)) (ds := [8]) #[false, false, false, false, false, false, false, false, false] z3_11 rfl rfl ⟨(qb0 BK159.out 0).trans rfl, (qb0 BK159.out 1).trans rfl, (qb0 BK159.out 2).trans rfl, (qb0 BK159.out 3).trans rfl⟩ (fun hHeld => ?_); refine with_tabW spec_l5SpoilEntry.tab16 spec_l5SpoilEntry.bits16 (fun HT_ HW_ => ?_)
    generalize w107.drew = w108 at HO_160003 BK159 BK160 HI0 HK HB hHeld ⊢
    refine pure_ (i := 0) (N := some 63) (v := ?_) (a' := ?_) #[true, false, false, false, false, false, false, false, false] rfl rfl (qs0 HT_.out z3_11) (fun _ _ _ h => h) (Or.inl ⟨by rfl, ?_⟩) ?_ ?_
    rotate_left
    ·intro w'
     go_simp
     with_reducible rfl
    rotate_left
    ·simp only [Act.put, List.setIfInBounds_toArray, List.set_cons_zero, List.set_cons_succ, i64_w, i32_w]
     rfl
    refine pure_ (i := 2) (N := some 65) (v := ?_) (a' := ?_) #[true, false, true, false, false, false, false, false, false] rfl rfl (qs0 HT_.out z3_11) (fun _ _ _ h => h) (Or.inl ⟨by rfl, ?_⟩) ?_ ?_
    rotate_left
    ·intro w'
     go_simp
     with_reducible rfl
    rotate_left
    ·simp only [Act.put, List.setIfInBounds_toArray, List.set_cons_zero, List.set_cons_succ, i64_w, i32_w]
     rfl
    refine pure_ (i := 3) (N := some 66) (v := ?_) (a' := ?_) #[true, false, true, true, false, false, false, false, false] rfl rfl (qs0 HT_.out z3_11) (fun _ _ _ h => h) (Or.inl ⟨by rfl, ?_⟩) ?_ ?_
    rotate_left
    ·intro w'
     go_simp
     with_reducible rfl
    rotate_left
    ·simp only [Act.put, List.setIfInBounds_toArray, List.set_cons_zero, List.set_cons_succ, i64_w, i32_w]
     rfl
    refine take_ (i := 1) (N := some 64) (v := ?_) (a' := ?_) #[true, true, true, true, false, false, false, false, false] rfl rfl (ql1 HT_.out HW_.out z3_11) (fun _ _ _ h => h) (Or.inl ⟨by rfl, ?_⟩) hHeld ?_ ?_
    rotate_left
    ·rintro w' ⟨s0, s1, s2, s3⟩
     go_simp
     with_reducible rfl
    rotate_left
    ·simp only [Act.put, List.setIfInBounds_toArray, List.set_cons_zero, List.set_cons_succ, i64_w, i32_w]
     rfl
    refine one_ (i := 4) (N := some 67) #[true, true, true, true, true, false, false, false, false] rfl rfl (qt1 HT_.out z3_11) z3_16 (fun K hK => ?_)
    refine goes_ Try.func61 z3_11 rfl #[.pointer (some ⟨g, 0, none⟩), .int .i64 4] (by rfl) rfl rfl z3_6 ?_
    with_reducible refine (spec_l1Below.calls g s0_0 t168 t169 4 t196 t197 t198 w0 _ ?side1 ?side2 A99.out).mono ?_
    (case side1 => exact z3_0)
    (case side2 => exact z3_2)
    rintro e w109 ⟨rfl, hi, hb, hk⟩
    refine ⟨_, rfl, ?_⟩
    have n0_ := Aside0.mk (Kd.qm0 (Kd.qy0 (IsS186.apart (show IsS186 w0 _ g s0_0 t168 t169 from z3_0) z3_7 z3_16) hk (fun _ h => h.2)) (fun _ h => h.1))
    have n1_ := Aside0.mk (qc0.blk hk (g' := gb159) (o := .cells #[.int .i64 a1_0, .int .i64 a1_1, .string a1_2, .slice Ao4 l1_3.length co4] 98 (0, 0)) z3_4 NB159_0.out (by simp))
    have n2_ := Aside0.mk (qc0.blk hk (g' := gb160) (o := .cells #[.int .i64 0, .int .i64 0, .string (⟨#[]⟩ : ByteArray), .slice none 0 0] 98 (0, 0)) z3_5 NB160_0.out (by simp))
    have n3_ := Aside0.mk (Kept.qk1 (S := (fun k_ => (P1_3_ k_) ∨ k_ = g)) z3_1 hk (.inl (.inr rfl)))
    have n4_ := Aside0.mk (hb)
    have n5_ := Aside0.mk (hi)
    clear HO_160003
    clear BK159
    clear BK160
    clear HK
    clear HB
    clear HI0
    have HO_160003 := n0_
    have BK159 := n1_
    have BK160 := n2_
    have HK := n3_
    have HB := n4_
    have HI0 := n5_
    clear n0_ n1_ n2_ n3_ n4_ n5_
    (try clear hb)
    (try clear hb2)
    (try clear hk)
    (try clear hi)
    have p102 : 0 ≤ (t164 : Int) := of_decide_eq_true z3_8
    have q102 : (t164 : Int) < ((l1_3.length : Int) : Int) := of_decide_eq_true z3_8
    obtain ⟨go102, co102, eo102, gb102, gl102, cl102, HG102⟩ := Kd.R_form HO_160003.out (by omega)
    (first | cases eo102 | (injection eo102 with ea_ en_ ec_; (first | subst ea_ | (injection ea_ with ea_; subst ea_)); subst ec_; clear en_))
    have GB102 := Aside0.mk gb102
    have GG102 := Aside0.mk HG102
    clear gb102 gl102 HG102
    have HMgo102 := Aside0.mk (show (P1_3_ go102 ∨ w.heap.size ≤ go102) from (HO_160003.out.1 _ rfl))
    obtain ⟨ce102, hcl102, hM102, hcc102, hfr102⟩ := Kd.R_elem HO_160003.out z100 (t164 : Int) p102 q102
    obtain rfl := k100_openM hM102
    have hx102_0 : World.cell? _ ⟨go102, (t164 : Int).toNat * 5, none⟩ = some (.int .i64 ((rd_T100 l1_3 t164).f0)) := hcc102 0 _ rfl
    have hx102_1 : World.cell? _ ⟨go102, (t164 : Int).toNat * 5 + 1, none⟩ = some (.int .i64 ((rd_T100 l1_3 t164).f1)) := hcc102 1 _ rfl
    have hx102_2 : World.cell? _ ⟨go102, (t164 : Int).toNat * 5 + 2, none⟩ = some (.int .i64 ((rd_T100 l1_3 t164).f2)) := hcc102 2 _ rfl
    have hx102_3 : World.cell? _ ⟨go102, (t164 : Int).toNat * 5 + 3, none⟩ = some (.int .i64 ((rd_T100 l1_3 t164).f3)) := hcc102 3 _ rfl
    have hx102_4 : World.cell? _ ⟨go102, (t164 : Int).toNat * 5 + 4, none⟩ = some (.int .i64 ((rd_T100 l1_3 t164).f4)) := hcc102 4 _ rfl
    have hf102_0 : World.frozen? _ ⟨go102, (t164 : Int).toNat * 5, none⟩ = false := hfr102 0
    have hf102_1 : World.frozen? _ ⟨go102, (t164 : Int).toNat * 5 + 1, none⟩ = false := hfr102 1
    have hf102_2 : World.frozen? _ ⟨go102, (t164 : Int).toNat * 5 + 2, none⟩ = false := hfr102 2
    have hf102_3 : World.frozen? _ ⟨go102, (t164 : Int).toNat * 5 + 3, none⟩ = false := hfr102 3
    have hf102_4 : World.frozen? _ ⟨go102, (t164 : Int).toNat * 5 + 4, none⟩ = false := hfr102 4
    clear hcl102 hcc102 hfr102 hM102
    replace p102 := eq_true p102
    replace q102 := eq_true q102
    have HN0_go102 := Aside0.mk (show g ≠ go102 from by have h_ := IsS186.own_ne HI0.out HO_160003.out z3_16; intro e_; exact h_ (by rw [e_]; rfl))
    obtain ⟨ce110, hcl110, hM110, hcc110, hfr110⟩ := Kd.R_elem HO_160003.out z100 (t164 : Int) (of_decide_eq_true z3_8) (by have h_ : (t164 : Int) < ((l1_3.length : Int) : Int) := of_decide_eq_true z3_8; first | exact h_ | (have e_ := (Kd.qn0 HO_160003.out).1; omega) | simpa using h_)
    obtain rfl := k100_openM hM110
    have HP110 := (Kd.R_seg HO_160003.out (t164 : Int) (of_decide_eq_true z3_8) (by have h_ : (t164 : Int) < ((l1_3.length : Int) : Int) := of_decide_eq_true z3_8; first | exact h_ | (have e_ := (Kd.qn0 HO_160003.out).1; omega) | simpa using h_) (seg := [.int .i64 (wrap64 (t196 - 1))]) (j := 2) hcl110 hcc110 (show 3 ≤ 5 from z3_16) (x' := (⟨(rd_T100 l1_3 t164).f0, (rd_T100 l1_3 t164).f1, wrap64 (t196 - 1), (rd_T100 l1_3 t164).f3, (rd_T100 l1_3 t164).f4⟩ : S100)) (k100_mkM _ _ _ (⟨(rd_T100 l1_3 t164).f0, (rd_T100 l1_3 t164).f1, wrap64 (t196 - 1), (rd_T100 l1_3 t164).f3, (rd_T100 l1_3 t164).f4⟩ : S100) ) (fun _ hk => hk)).1
    rw [← Ny199.out] at HP110
    have HQ110 := Aside0.mk HP110
    clear hcl110 hcc110 hfr110 hM110 HP110
    refine hK.out _ _ ⟨(qb0 BK159.out 0).trans rfl, (qb0 BK159.out 1).trans rfl, (qb0 BK159.out 2).trans rfl, (qb0 BK159.out 3).trans rfl⟩ (fun hHeld => ?_)
    clear hK K
    refine norm_ (a' := ?_) ?_ ?_
    rotate_left
    ·show Act.put _ (some 67) _ = _
     simp only [Act.put, List.setIfInBounds_toArray, List.set_cons_zero, List.set_cons_succ, i64_w, i32_w]
     rfl
    refine pure_ (i := 5) (N := some 68) (v := ?_) (a' := ?_) #[true, true, true, true, true, true, false, false, false] rfl rfl (qs0 HT_.out z3_11) (fun _ _ _ h => h) (Or.inl ⟨by rfl, ?_⟩) ?_ ?_
    rotate_left
    ·intro w'
     go_simp
     with_reducible rfl
    rotate_left
    ·simp only [Act.put, List.setIfInBounds_toArray, List.set_cons_zero, List.set_cons_succ, i64_w, i32_w]
     rfl
    refine pure_ (i := 6) (N := some 69) (v := ?_) (a' := ?_) #[true, true, true, true, true, true, true, false, false] rfl rfl (qs0 HT_.out z3_11) (fun _ _ _ h => h) (Or.inl ⟨by rfl, ?_⟩) ?_ ?_
    rotate_left
    ·intro w'
     go_simp
     with_reducible rfl
    rotate_left
    ·simp only [Act.put, List.setIfInBounds_toArray, List.set_cons_zero, List.set_cons_succ, i64_w, i32_w]
     rfl
    refine pure_ (i := 7) (N := some 70) (v := ?_) (a' := ?_) #[true, true, true, true, true, true, true, true, false] rfl rfl (qs0 HT_.out z3_11) (fun _ _ _ h => h) (Or.inl ⟨by rfl, ?_⟩) ?_ ?_
    rotate_left
    ·intro w'
     go_simp
     with_reducible rfl
    rotate_left
    ·simp only [Act.put, List.setIfInBounds_toArray, List.set_cons_zero, List.set_cons_succ, i64_w, i32_w]
     rfl
    refine last_ (i := 8) (N := none) #[true, true, true, true, true, true, true, true, true] rfl rfl (qt1 HT_.out z3_11) z3_16 (fun K hK => ?_)
    refine skip_ (w1 := ?_) (by rfl) rfl ?_ ?_
    rotate_left
    ·go_simp
     rfl
    refine hK.out _ _ ?_
    clear hK K
    refine done_ (done_of HT_.out z3_11) ?_
    have n0_ : Aside0 (Kd.R k100 100 (w109.setCell ⟨go102, (t164 : Int).toNat * 5 + 2, none⟩ (.int .i64 (wrap64 (t196 - 1)))) w0.heap.size (fun k_ => (P1_3_ k_ ∨ w.heap.size ≤ k_)) (.slice (some ⟨go102, 0, none⟩) l1_3.length co4) y199) := ⟨by (with_reducible repeat (first | apply Kd.qr0 | apply Kd.qp0 | apply Kd.qu0)); exact HQ110.out⟩
    have n1_ : Aside0 ((w109.setCell ⟨go102, (t164 : Int).toNat * 5 + 2, none⟩ (.int .i64 (wrap64 (t196 - 1)))).heap[gb159]? = some (.cells #[.int .i64 a1_0, .int .i64 a1_1, .string a1_2, .slice (some ⟨go102, 0, none⟩) l1_3.length co4] 98 (0, 0))) := ⟨by (with_reducible repeat (first | refine qe0 ?_ _ | refine qf0 ?_ | refine qd0 ?_ _)); refine blk_far ?_ (by have h_ := Kd.R_ne HO_160003.out BK159.out z3_16; intro e_; exact h_ (by rw [e_]; rfl)) _; (with_reducible repeat (first | refine qe0 ?_ _ | refine qf0 ?_ | refine qd0 ?_ _)); exact BK159.out⟩
    have n2_ : Aside0 ((w109.setCell ⟨go102, (t164 : Int).toNat * 5 + 2, none⟩ (.int .i64 (wrap64 (t196 - 1)))).heap[gb160]? = some (.cells #[.int .i64 0, .int .i64 0, .string (⟨#[]⟩ : ByteArray), .slice none 0 0] 98 (0, 0))) := ⟨by (with_reducible repeat (first | refine qe0 ?_ _ | refine qf0 ?_ | refine qd0 ?_ _)); refine blk_far ?_ (by have h_ := Kd.R_ne HO_160003.out BK160.out z3_16; intro e_; exact h_ (by rw [e_]; rfl)) _; (with_reducible repeat (first | refine qe0 ?_ _ | refine qf0 ?_ | refine qd0 ?_ _)); exact BK160.out⟩
    have n3_ : Aside0 (IsS186 w0 (w109.setCell ⟨go102, (t164 : Int).toNat * 5 + 2, none⟩ (.int .i64 (wrap64 (t196 - 1)))) g s0_0 t197 t198) := ⟨by repeat (first | (with_reducible first | exact HI0.out | apply IsS186.alloc | apply IsS186.drewN | apply IsS186.drew | apply IsS186.set_1 | apply IsS186.set_2 | refine IsS186.far ?_ HN0_go102.out _ | refine IsS186.far ?_ NB0_159.out _ | refine IsS186.far ?_ NB0_160.out _) | exact HI0.out)⟩
    have n4_ : Aside0 (Kept w (w109.setCell ⟨go102, (t164 : Int).toNat * 5 + 2, none⟩ (.int .i64 (wrap64 (t196 - 1)))) (fun k_ => (P1_3_ k_) ∨ k_ = g)) := ⟨by repeat (first | (with_reducible first | exact HK.out | apply Kept.alloc | apply Kept.drewN | apply Kept.drew | refine Kept.setCell ?_ (Or.imp_left Or.inl HMgo102.out) _ | refine Kept.setCell ?_ (.inl (.inr rfl)) _ | refine Kept.setCell ?_ (.inr GW159.out) _ | refine Kept.setCell ?_ (.inr GW160.out) _) | exact HK.out)⟩
    have n5_ : Aside0 (Below w0.heap.size w0 (w109.setCell ⟨go102, (t164 : Int).toNat * 5 + 2, none⟩ (.int .i64 (wrap64 (t196 - 1))))) := ⟨by repeat (first | (with_reducible first | exact HB.out | apply qj0 | apply qh0 | apply qi0 | refine qk0 ?_ GB102.out | refine qk0 ?_ (IsS186.ge HI0.out) | refine qk0 ?_ GE159.out | refine qk0 ?_ GE160.out) | exact HB.out)⟩
    (try clear HO_160003)
    (try clear BK159)
    (try clear BK160)
    (try clear HI0)
    (try clear HK)
    (try clear HB)
    generalize (w109.setCell ⟨go102, (t164 : Int).toNat * 5 + 2, none⟩ (.int .i64 (wrap64 (t196 - 1)))) = w111 at n0_ n1_ n2_ n3_ n4_ n5_ ⊢
    have HO_160003 := n0_
    have BK159 := n1_
    have BK160 := n2_
    have HI0 := n3_
    have HK := n4_
    have HB := n5_
    clear n0_ n1_ n2_ n3_ n4_ n5_
    have hcz112_0 : w111.cell? ⟨gb159, 0, none⟩ = some (.int .i64 a1_0) := (qb0 BK159.out 0).trans rfl
    have hcz112_1 : w111.cell? ⟨gb159, 1, none⟩ = some (.int .i64 a1_1) := (qb0 BK159.out 1).trans rfl
    have hcz112_2 : w111.cell? ⟨gb159, 2, none⟩ = some (.string a1_2) := (qb0 BK159.out 2).trans rfl
    have hcz112_3 : w111.cell? ⟨gb159, 3, none⟩ = some (.slice (some ⟨go102, 0, none⟩) l1_3.length co4) := (qb0 BK159.out 3).trans rfl
    have hfz112_0 := qa0 BK159.out 0
    have hfz112_1 := qa0 BK159.out 1
    have hfz112_2 := qa0 BK159.out 2
    have hfz112_3 := qa0 BK159.out 3
    have hnb113 := NB160_0.out
    have hnc113 := NB0_160.out
    have hcz114_0 : w111.cell? ⟨gb160, 0, none⟩ = some (.int .i64 0) := (qb0 BK160.out 0).trans rfl
    have hcz114_1 : w111.cell? ⟨gb160, 1, none⟩ = some (.int .i64 0) := (qb0 BK160.out 1).trans rfl
    have hcz114_2 : w111.cell? ⟨gb160, 2, none⟩ = some (.string (⟨#[]⟩ : ByteArray)) := (qb0 BK160.out 2).trans rfl
    have hcz114_3 : w111.cell? ⟨gb160, 3, none⟩ = some (.slice none 0 0) := (qb0 BK160.out 3).trans rfl
    have hfz114_0 := qa0 BK160.out 0
    have hfz114_1 := qa0 BK160.out 1
    have hfz114_2 := qa0 BK160.out 2
    have hfz114_3 := qa0 BK160.out 3
    try go_wp2
    refine bodyPost_ret (results_cell_row rfl _ _ gb160 98 #[.int .i64 a1_0, .int .i64 a1_1, .string a1_2, .slice (some ⟨go102, 0, none⟩) l1_3.length co4] (0, 0) _ rfl z3_3 Try.underlying98 rfl z3_11) rfl ?_
    exact ⟨_, z3_12, by (with_reducible repeat (first | apply Kd.qr0 | apply Kd.qp0 | apply Kd.qu0)); exact Kd.qm0 (Kd.R_far (p := ⟨gb160, 3, none⟩) (Kd.R_far (p := ⟨gb160, 2, none⟩) (Kd.R_far (p := ⟨gb160, 1, none⟩) (Kd.R_far (p := ⟨gb160, 0, none⟩) (Kd.qi1 HO_160003.out BK160.out z3_16) (fun _ hk => hk.2) (.int .i64 a1_0)) (fun _ hk => hk.2) (.int .i64 a1_1)) (fun _ hk => hk.2) (.string a1_2)) (fun _ hk => hk.2) (.slice (some ⟨go102, 0, none⟩) l1_3.length co4)) (fun _ hk => hk.1), z3_0, z3_2, z3_1⟩
   rw [if_neg c98] at H
   have c98b0 : (t167 == 5) = false := beq_eq_false_iff_ne.mpr c98
   have c98b1 : (t167 != 5) = true := bne_iff_ne.mpr c98
   by_cases c115 : t167 = 6
   ·rw [if_pos c115] at H
    have c115b0 : (t167 == 6) = true := beq_iff_eq.mpr c115
    have c115b1 : (t167 != 6) = false := bne_eq_false_iff_eq.mpr c115
    clear c115
    by_cases c116 : 0 ≤ t164
    case neg => rw [if_neg c116] at H; exact absurd H (by simp)
    rw [if_pos c116] at H
    have c116b0 : decide (0 ≤ t164) = true := decide_eq_true c116
    clear c116
    by_cases c117 : t164 < (l1_3.length : Int)
    case neg => rw [if_neg c117] at H; exact absurd H (by simp)
    rw [if_pos c117] at H
    have c117b0 : decide (t164 < (l1_3.length : Int)) = true := decide_eq_true c117
    clear c117
    obtain ⟨y201, hy201⟩ : ∃ y_ : List Int, y_ = (([1, (-1), 100000000000] : List Int)) := ⟨_, rfl⟩
    replace H : ((spec_l1PickInt.f s0_0 t168 t169 y201).bind fun bt204 => (some (a1_0, a1_1, a1_2, (l1_3.set (t164 : Int).toNat (⟨(rd_T100 l1_3 t164).f0, (rd_T100 l1_3 t164).f1, (rd_T100 l1_3 t164).f2, wrap64 (((rd_T100 l1_3 t164).f3) + bt204.1), (rd_T100 l1_3 t164).f4⟩ : S100)), bt204.2.1, bt204.2.2))) = some (r1, r2, r3, r4, r5, r6) := by first | (rw [hy201]; with_reducible exact H) | (have H2_ := (Option.bind_some _ _).symm.trans H; rw [hy201]; with_reducible exact H2_) | (have H2_ := (Option.bind_some _ _).symm.trans H; with_reducible exact H2_) | with_reducible exact H | (rw [hy201]; exact H) | exact H
    have Ny201 := Aside0.mk hy201
    clear hy201
    replace H := Option.bind_eq_some_iff.mp H
    obtain ⟨⟨t204, t205, t206⟩, A1180, H⟩ := H
    replace H : (some (a1_0, a1_1, a1_2, (l1_3.set (t164 : Int).toNat (⟨(rd_T100 l1_3 t164).f0, (rd_T100 l1_3 t164).f1, (rd_T100 l1_3 t164).f2, wrap64 (((rd_T100 l1_3 t164).f3) + t204), (rd_T100 l1_3 t164).f4⟩ : S100)), t205, t206)) = some (r1, r2, r3, r4, r5, r6) := H
    have A118 := Aside0.mk A1180
    clear A1180
    obtain ⟨y207, hy207⟩ : ∃ y_ : List (S100), y_ = (l1_3.set (t164 : Int).toNat (⟨(rd_T100 l1_3 t164).f0, (rd_T100 l1_3 t164).f1, (rd_T100 l1_3 t164).f2, wrap64 (((rd_T100 l1_3 t164).f3) + t204), (rd_T100 l1_3 t164).f4⟩ : S100)) := ⟨_, rfl⟩
    replace H : (some (a1_0, a1_1, a1_2, y207, t205, t206)) = some (r1, r2, r3, r4, r5, r6) := by first | (rw [hy207]; with_reducible exact H) | (have H2_ := (Option.bind_some _ _).symm.trans H; rw [hy207]; with_reducible exact H2_) | (have H2_ := (Option.bind_some _ _).symm.trans H; with_reducible exact H2_) | with_reducible exact H | (rw [hy207]; exact H) | exact H
    have Ny207 := Aside0.mk hy207
    clear hy207
    simp only [Option.some.injEq, Prod.mk.injEq] at H
    obtain ⟨rfl, rfl, rfl, rfl, rfl, rfl⟩ := H
    have hnb120 := NB159_160.out
    have hnc120 := NB160_159.out
    have hnb121 := NB159_0.out
    have hnc121 := NB0_159.out
    have hcz122_0 : wc.cell? ⟨gb159, 0, none⟩ = some (.int .i64 a1_0) := (qb0 BK159.out 0).trans rfl
    have hcz122_1 : wc.cell? ⟨gb159, 1, none⟩ = some (.int .i64 a1_1) := (qb0 BK159.out 1).trans rfl
    have hcz122_2 : wc.cell? ⟨gb159, 2, none⟩ = some (.string a1_2) := (qb0 BK159.out 2).trans rfl
    have hcz122_3 : wc.cell? ⟨gb159, 3, none⟩ = some (.slice Ao4 l1_3.length co4) := (qb0 BK159.out 3).trans rfl
    have hfz122_0 := qa0 BK159.out 0
    have hfz122_1 := qa0 BK159.out 1
    have hfz122_2 := qa0 BK159.out 2
    have hfz122_3 := qa0 BK159.out 3
    try go_wp2_with (first | ((with_reducible refine qg0 (f := 61) rfl ?_); refine qt0 (some 20) rfl rfl Try.func61 z3_11 rfl #[.pointer (some ⟨g, 0, none⟩), .int .i64 (l1_3.length : Int)] rfl z3_6 ?_; (with_reducible refine (spec_l1Below.calls g s0_0 x1001_2 x1002_2 (l1_3.length : Int) t164 t165 t166 w0 _ ?side1 ?side2 A20.out).mono ?_); (case side1 => exact z3_0); (case side2 => exact z3_2); rintro e w123 ⟨rfl, hi, hb, hk⟩; refine ⟨_, rfl, ?_⟩; have n0_ := Aside0.mk (Kd.qm0 (Kd.qy0 (IsS186.apart (show IsS186 w0 _ g s0_0 x1001_2 x1002_2 from z3_0) z3_7 z3_16) hk (fun _ h => h.2)) (fun _ h => h.1)); have n1_ := Aside0.mk (qc0.blk hk (g' := gb159) (o := .cells #[.int .i64 a1_0, .int .i64 a1_1, .string a1_2, .slice Ao4 l1_3.length co4] 98 (0, 0)) z3_4 NB159_0.out (by simp)); have n2_ := Aside0.mk (qc0.blk hk (g' := gb160) (o := .cells #[.int .i64 0, .int .i64 0, .string (⟨#[]⟩ : ByteArray), .slice none 0 0] 98 (0, 0)) z3_5 NB160_0.out (by simp)); have n3_ := Aside0.mk (Kept.qk1 (S := (fun k_ => (P1_3_ k_) ∨ k_ = g)) z3_1 hk (.inl (.inr rfl))); have n4_ := Aside0.mk (hb); have n5_ := Aside0.mk (hi); clear HO_160003; clear BK159; clear BK160; clear HK; clear HB; clear HI0; have HO_160003 := n0_; have BK159 := n1_; have BK160 := n2_; have HK := n3_; have HB := n4_; have HI0 := n5_; clear n0_ n1_ n2_ n3_ n4_ n5_; (try clear hb); (try clear hb2); (try clear hk); (try clear hi)) | ((with_reducible refine qg0 (f := 61) rfl ?_); refine qt0 (some 22) rfl rfl Try.func61 z3_11 rfl #[.pointer (some ⟨g, 0, none⟩), .int .i64 9] rfl z3_6 ?_; (with_reducible refine (spec_l1Below.calls g s0_0 t165 t166 9 t167 t168 t169 w0 _ ?side1 ?side2 A21.out).mono ?_); (case side1 => exact z3_0); (case side2 => exact z3_2); rintro e w124 ⟨rfl, hi, hb, hk⟩; refine ⟨_, rfl, ?_⟩; have n0_ := Aside0.mk (Kd.qm0 (Kd.qy0 (IsS186.apart (show IsS186 w0 _ g s0_0 t165 t166 from z3_0) z3_7 z3_16) hk (fun _ h => h.2)) (fun _ h => h.1)); have n1_ := Aside0.mk (qc0.blk hk (g' := gb159) (o := .cells #[.int .i64 a1_0, .int .i64 a1_1, .string a1_2, .slice Ao4 l1_3.length co4] 98 (0, 0)) z3_4 NB159_0.out (by simp)); have n2_ := Aside0.mk (qc0.blk hk (g' := gb160) (o := .cells #[.int .i64 0, .int .i64 0, .string (⟨#[]⟩ : ByteArray), .slice none 0 0] 98 (0, 0)) z3_5 NB160_0.out (by simp)); have n3_ := Aside0.mk (Kept.qk1 (S := (fun k_ => (P1_3_ k_) ∨ k_ = g)) z3_1 hk (.inl (.inr rfl))); have n4_ := Aside0.mk (hb); have n5_ := Aside0.mk (hi); clear HO_160003; clear BK159; clear BK160; clear HK; clear HB; clear HI0; have HO_160003 := n0_; have BK159 := n1_; have BK160 := n2_; have HK := n3_; have HB := n4_; have HI0 := n5_; clear n0_ n1_ n2_ n3_ n4_ n5_; (try clear hb); (try clear hb2); (try clear hk); (try clear hi)))
    have n0_ := Aside0.mk (Kd.qu0 HO_160003.out)
    have n1_ := Aside0.mk (qf0 BK159.out)
    have n2_ := Aside0.mk (qf0 BK160.out)
    have n3_ := Aside0.mk (IsS186.drew HI0.out)
    have n4_ := Aside0.mk (Kept.drew HK.out)
    have n5_ := Aside0.mk (qi0 HB.out)
    clear HO_160003
    clear BK159
    clear BK160
    clear HI0
    clear HK
    clear HB
    have HO_160003 := n0_
    have BK159 := n1_
    have BK160 := n2_
    have HI0 := n3_
    have HK := n4_
    have HB := n5_
    clear n0_ n1_ n2_ n3_ n4_ n5_
    have p200 : 0 ≤ (t164 : Int) := of_decide_eq_true z3_8
    have q200 : t164 < (l1_3.length : Int) := of_decide_eq_true z3_8
    obtain ⟨ad200, e200, hx200_0, hx200_1, hx200_2, hx200_3, hx200_4⟩ := at_T100 (Kd.qn0 HO_160003.out).2.2 t164 p200 q200
    cases e200
    replace p200 := eq_true p200
    replace q200 := eq_true q200
    refine start_ (n := 16) (S := fun w' => w'.cell? ⟨gb159, 0, none⟩ = some (.int .i64 a1_0) ∧ w'.cell? ⟨gb159, 1, none⟩ = some (.int .i64 a1_1) ∧ w'.cell? ⟨gb159, 2, none⟩ = some (.string a1_2) ∧ w'.cell? ⟨gb159, 3, none⟩ = some (.slice (some ad200) l1_3.length co4) ∧ w'.cell? (ad200.add ((t164).toNat * 5)) = some (.int .i64 ((rd_T100 l1_3 t164).f0)) ∧ w'.cell? ⟨(ad200.add ((t164).toNat * 5)).block, (ad200.add ((t164).toNat * 5)).off + 1, none⟩ = some (.int .i64 ((rd_T100 l1_3 t164).f1)) ∧ w'.cell? ⟨(ad200.add ((t164).toNat * 5)).block, (ad200.add ((t164).toNat * 5)).off + 2, none⟩ = some (.int .i64 ((rd_T100 l1_3 t164).f2)) ∧ w'.cell? ⟨(ad200.add ((t164).toNat * 5)).block, (ad200.add ((t164).toNat * 5)).off + 3, none⟩ = some (.int .i64 ((rd_T100 l1_3 t164).f3)) ∧ w'.cell? ⟨(ad200.add ((t164).toNat * 5)).block, (ad200.add ((t164).toNat * 5)).off + 4, none⟩ = some (.int .i64 ((rd_T100 l1_3 t164).f4))) (ds := [15]) (rb3 [0, 16]) z3_11 rfl rfl ⟨(qb0 BK159.out 0).trans rfl, (qb0 BK159.out 1).trans rfl, (qb0 BK159.out 2).trans rfl, (qb0 BK159.out 3).trans rfl, hx200_0, hx200_1, hx200_2, hx200_3, hx200_4⟩ (fun hHeld => ?_); refine with_tabW spec_l5SpoilEntry.tab18 spec_l5SpoilEntry.bits18 (fun HT_ HW_ => ?_)
    generalize w124.drew = w125 at HO_160003 BK159 BK160 HI0 HK HB hx200_0 hx200_1 hx200_2 hx200_3 hx200_4 hHeld ⊢
    refine pure_ (i := 0) (N := some 73) (v := ?_) (a' := ?_) (rb3 [1, 15]) rfl rfl (qs0 HT_.out z3_11) (fun _ _ _ h => h) (Or.inl ⟨by rfl, ?_⟩) ?_ ?_
    rotate_left
    ·intro w'
     go_simp
     with_reducible rfl
    rotate_left
    ·simp only [Act.put, List.setIfInBounds_toArray, List.set_cons_zero, List.set_cons_succ, i64_w, i32_w]
     rfl
    refine pure_ (i := 2) (N := some 75) (v := ?_) (a' := ?_) (rb3 [1, 1, 1, 13]) rfl rfl (qs0 HT_.out z3_11) (fun _ _ _ h => h) (Or.inl ⟨by rfl, ?_⟩) ?_ ?_
    rotate_left
    ·intro w'
     go_simp
     with_reducible rfl
    rotate_left
    ·simp only [Act.put, List.setIfInBounds_toArray, List.set_cons_zero, List.set_cons_succ, i64_w, i32_w]
     rfl
    refine pure_ (i := 3) (N := some 76) (v := ?_) (a' := ?_) (rb3 [1, 1, 2, 12]) rfl rfl (qs0 HT_.out z3_11) (fun _ _ _ h => h) (Or.inl ⟨by rfl, ?_⟩) ?_ ?_
    rotate_left
    ·intro w'
     go_simp
     with_reducible rfl
    rotate_left
    ·simp only [Act.put, List.setIfInBounds_toArray, List.set_cons_zero, List.set_cons_succ, i64_w, i32_w]
     rfl
    refine pure_ (i := 5) (N := some 78) (v := ?_) (a' := ?_) (rb3 [1, 1, 2, 1, 1, 10]) rfl rfl (qs0 HT_.out z3_11) (fun _ _ _ h => h) (Or.inl ⟨by rfl, ?_⟩) ?_ ?_
    rotate_left
    ·intro w'
     go_simp
     with_reducible rfl
    rotate_left
    ·simp only [Act.put, List.setIfInBounds_toArray, List.set_cons_zero, List.set_cons_succ, i64_w, i32_w]
     rfl
    refine pure_ (i := 9) (N := some 82) (v := ?_) (a' := ?_) (rb3 [1, 1, 2, 1, 1, 3, 1, 6]) rfl rfl (qs0 HT_.out z3_11) (fun _ _ _ h => h) (Or.inl ⟨by rfl, ?_⟩) ?_ ?_
    rotate_left
    ·intro w'
     go_simp
     with_reducible rfl
    rotate_left
    ·simp only [Act.put, List.setIfInBounds_toArray, List.set_cons_zero, List.set_cons_succ, i64_w, i32_w]
     rfl
    refine take_ (i := 1) (N := some 74) (v := ?_) (a' := ?_) (rb3 [4, 1, 1, 3, 1, 6]) rfl rfl (ql1 HT_.out HW_.out z3_11) (fun _ _ _ h => h) (Or.inl ⟨by rfl, ?_⟩) hHeld ?_ ?_
    rotate_left
    ·rintro w' ⟨s0, s1, s2, s3, s4, s5, s6, s7, s8⟩
     go_simp
     with_reducible rfl
    rotate_left
    ·simp only [Act.put, List.setIfInBounds_toArray, List.set_cons_zero, List.set_cons_succ, i64_w, i32_w]
     rfl
    refine take_ (i := 4) (N := some 77) (v := ?_) (a' := ?_) (rb3 [6, 3, 1, 6]) rfl rfl (ql1 HT_.out HW_.out z3_11) (fun _ _ _ h => h) (Or.inl ⟨by rfl, ?_⟩) hHeld ?_ ?_
    rotate_left
    ·rintro w' ⟨s0, s1, s2, s3, s4, s5, s6, s7, s8⟩
     go_simp
     with_reducible rfl
    rotate_left
    ·simp only [Act.put, List.setIfInBounds_toArray, List.set_cons_zero, List.set_cons_succ, i64_w, i32_w]
     rfl
    refine pure_ (i := 6) (N := some 79) (v := ?_) (a' := ?_) (rb3 [7, 2, 1, 6]) rfl rfl (qs0 HT_.out z3_11) (fun _ _ _ h => h) (Or.inl ⟨by rfl, ?_⟩) ?_ ?_
    rotate_left
    ·intro w'
     go_simp
     with_reducible rfl
    rotate_left
    ·simp only [Act.put, List.setIfInBounds_toArray, List.set_cons_zero, List.set_cons_succ, i64_w, i32_w]
     rfl
    refine pure_ (i := 7) (N := some 80) (v := ?_) (a' := ?_) (rb3 [8, 1, 1, 6]) rfl rfl (qs0 HT_.out z3_11) (fun _ _ _ h => h) (Or.inl ⟨by rfl, ?_⟩) ?_ ?_
    rotate_left
    ·intro w'
     go_simp
     with_reducible rfl
    rotate_left
    ·simp only [Act.put, List.setIfInBounds_toArray, List.set_cons_zero, List.set_cons_succ, i64_w, i32_w]
     rfl
    refine take_ (i := 8) (N := some 81) (v := ?_) (a' := ?_) (rb3 [10, 6]) rfl rfl (ql1 HT_.out HW_.out z3_11) (fun _ _ _ h => h) (Or.inl ⟨by rfl, ?_⟩) hHeld ?_ ?_
    rotate_left
    ·rintro w' ⟨s0, s1, s2, s3, s4, s5, s6, s7, s8⟩
     go_simp
     with_reducible rfl
    rotate_left
    ·simp only [Act.put, List.setIfInBounds_toArray, List.set_cons_zero, List.set_cons_succ, i64_w, i32_w]
     rfl
    refine one_ (i := 10) (N := some 83) (rb3 [11, 5]) rfl rfl (qt1 HT_.out z3_11) z3_16 (fun K hK => ?_)
    refine Kd.R_lit_step (Kd.int .i64) _ 3 ?hg (N := 83) ?hd (xs := ([1, (-1), 100000000000] : List Int)) (inner := [.int .i64 1, .int .i64 (-1), .int .i64 100000000000]) (ok := fun _ => True) (okp := fun _ => True) ?hr ?hp (fun _ hk => hk) trivial (Below.refl _ _) (Nat.le_refl _) (by simp) ?_; (case hd => rfl); (case hg => rfl); (case hr => exact z3_22); (case hp => exact (Reps.one (show Kd.M (Kd.int .i64) _ _ _ 1 [.int .i64 1] from rfl) (Reps.one (show Kd.M (Kd.int .i64) _ _ _ (-1) [.int .i64 (-1)] from rfl) (Reps.one (show Kd.M (Kd.int .i64) _ _ _ 100000000000 [.int .i64 100000000000] from rfl) (Reps.none _ _)))))
    intro v202 w126 ho127 hb hg_ hnew_
    have HS4_ := (hb.cell (World.block_lt_of_cell? _ _ (hHeld.2.2.2.2.1))).trans (hHeld.2.2.2.2.1)
    have HS5_ := (hb.cell (World.block_lt_of_cell? _ _ (hHeld.2.2.2.2.2.1))).trans (hHeld.2.2.2.2.2.1)
    have HS6_ := (hb.cell (World.block_lt_of_cell? _ _ (hHeld.2.2.2.2.2.2.1))).trans (hHeld.2.2.2.2.2.2.1)
    have HS7_ := (hb.cell (World.block_lt_of_cell? _ _ (hHeld.2.2.2.2.2.2.2.1))).trans (hHeld.2.2.2.2.2.2.2.1)
    have HS8_ := (hb.cell (World.block_lt_of_cell? _ _ (hHeld.2.2.2.2.2.2.2.2))).trans (hHeld.2.2.2.2.2.2.2.2)
    clear hg_ hnew_
    (first | rw [← Ny201.out] at ho127 | (simp only [Int.reduceToNat] at ho127; rw [← Ny201.out] at ho127))
    have n0_ := Aside0.mk (Kd.qy1 z3_7 hb)
    have n1_ := Aside0.mk (Kd.qu1 (Kd.R_newM (M := fun k_ => (P1_3_ k_ ∨ w.heap.size ≤ k_)) ho127 z3_10 (fun k_ h_ => .inr h_)) (qv0 z3_2))
    have n2_ := Aside0.mk (qz0 (g := gb159) (o := .cells #[.int .i64 a1_0, .int .i64 a1_1, .string a1_2, .slice (some ad200) l1_3.length co4] 98 (0, 0)) z3_4 hb)
    have n3_ := Aside0.mk (qz0 (g := gb160) (o := .cells #[.int .i64 0, .int .i64 0, .string (⟨#[]⟩ : ByteArray), .slice none 0 0] 98 (0, 0)) z3_5 hb)
    have n4_ := Aside0.mk (IsS186.below z3_0 hb)
    have n5_ := Aside0.mk (Kept.below (S := (fun k_ => (P1_3_ k_) ∨ k_ = g)) z3_1 hb)
    have n6_ := Aside0.mk (ql0 z3_2 hb)
    clear HO_160003
    clear BK159
    clear BK160
    clear HI0
    clear HK
    clear HB
    have HO_160003 := n0_
    have HO203 := n1_
    have BK159 := n2_
    have BK160 := n3_
    have HI0 := n4_
    have HK := n5_
    have HB := n6_
    clear n0_ n1_ n2_ n3_ n4_ n5_ n6_
    clear hb ho127
    obtain ⟨Ao128, co128, eo128⟩ := Kd.qn1 HO203.out
    (first | subst eo128 | (injection eo128 with f1_ f2_ f3_; have f4_ := f1_.symm; have f5_ := f3_.symm; clear f1_ f2_ f3_; subst f4_; subst f5_))
    refine hK.out _ _ ⟨(qb0 BK159.out 0).trans rfl, (qb0 BK159.out 1).trans rfl, (qb0 BK159.out 2).trans rfl, (qb0 BK159.out 3).trans rfl, HS4_, HS5_, HS6_, HS7_, HS8_⟩ (fun hHeld => ?_)
    clear hK K
    refine norm_ (a' := ?_) ?_ ?_
    rotate_left
    ·show Act.put _ (some 83) _ = _
     simp only [Act.put, List.setIfInBounds_toArray, List.set_cons_zero, List.set_cons_succ, i64_w, i32_w]
     rfl
    refine one_ (i := 11) (N := some 84) (rb3 [12, 4]) rfl rfl (qt1 HT_.out z3_11) z3_16 (fun K hK => ?_)
    refine goes_ Try.func64 z3_11 rfl #[.pointer (some ⟨g, 0, none⟩), .slice Ao128 y201.length co128] (by rfl) rfl rfl z3_6 ?_
    with_reducible refine (spec_l1PickInt.calls g s0_0 t168 t169 _ _ y201 t204 t205 t206 w0 _ ?side1 ?side2 ?side3 ?side4 ?side5 A118.out).mono ?_
    (case side1 => exact z3_0)
    (case side2 => exact z3_2)
    (case side3 => repeat (first | exact (Kd.qn0 HO203.out).2.2 | (with_reducible refine Kd.qx1 ?_ _) | (with_reducible refine Kd.qw1 ?_ _) | (with_reducible refine Kd.qg2 ?_)))
    (case side4 => exact (Kd.qn0 HO203.out).2.1)
    (case side5 => exact far_slice (IsS186.own_ne HI0.out HO203.out z3_16))
    rintro e w129 ⟨rfl, hi, hb, hk⟩
    have HS4_ := keep_cell hk (hHeld.2.2.2.2.1) z3_9
    have HS5_ := keep_cell hk (hHeld.2.2.2.2.2.1) z3_9
    have HS6_ := keep_cell hk (hHeld.2.2.2.2.2.2.1) z3_9
    have HS7_ := keep_cell hk (hHeld.2.2.2.2.2.2.2.1) z3_9
    have HS8_ := keep_cell hk (hHeld.2.2.2.2.2.2.2.2) z3_9
    refine ⟨_, rfl, ?_⟩
    have n0_ := Aside0.mk (Kd.qm0 (Kd.qy0 (IsS186.apart (show IsS186 w0 _ g s0_0 t168 t169 from z3_0) z3_7 z3_16) hk (fun _ h => h.2)) (fun _ h => h.1))
    have n1_ := Aside0.mk (qc0.blk hk (g' := gb159) (o := .cells #[.int .i64 a1_0, .int .i64 a1_1, .string a1_2, .slice (some ad200) l1_3.length co4] 98 (0, 0)) z3_4 NB159_0.out (by simp))
    have n2_ := Aside0.mk (qc0.blk hk (g' := gb160) (o := .cells #[.int .i64 0, .int .i64 0, .string (⟨#[]⟩ : ByteArray), .slice none 0 0] 98 (0, 0)) z3_5 NB160_0.out (by simp))
    have n3_ := Aside0.mk (Kd.qm0 (Kd.qy0 (IsS186.apart (show IsS186 w0 _ g s0_0 t168 t169 from z3_0) (by (with_reducible repeat (first | apply Kd.qr0 | apply Kd.qp0 | apply Kd.qu0)); exact HO203.out) z3_16) hk (fun _ h => h.2)) (fun _ h => h.1))
    have n4_ := Aside0.mk (Kept.qk1 (S := (fun k_ => (P1_3_ k_) ∨ k_ = g)) z3_1 hk (.inl (.inr rfl)))
    have n5_ := Aside0.mk (hb)
    have n6_ := Aside0.mk (hi)
    clear HO_160003
    clear BK159
    clear BK160
    clear HO203
    clear HK
    clear HB
    clear HI0
    have HO_160003 := n0_
    have BK159 := n1_
    have BK160 := n2_
    have HO203 := n3_
    have HK := n4_
    have HB := n5_
    have HI0 := n6_
    clear n0_ n1_ n2_ n3_ n4_ n5_ n6_
    (try clear hb)
    (try clear hb2)
    (try clear hk)
    (try clear hi)
    have p119 : 0 ≤ (t164 : Int) := of_decide_eq_true z3_8
    have q119 : (t164 : Int) < ((l1_3.length : Int) : Int) := of_decide_eq_true z3_8
    obtain ⟨go119, co119, eo119, gb119, gl119, cl119, HG119⟩ := Kd.R_form HO_160003.out (by omega)
    (first | cases eo119 | (injection eo119 with ea_ en_ ec_; (first | subst ea_ | (injection ea_ with ea_; subst ea_)); subst ec_; clear en_))
    have GB119 := Aside0.mk gb119
    have GG119 := Aside0.mk HG119
    clear gb119 gl119 HG119
    have HMgo119 := Aside0.mk (show (P1_3_ go119 ∨ w.heap.size ≤ go119) from (HO_160003.out.1 _ rfl))
    (first | simp only [add_plain] at hx200_0 | skip)
    (first | simp only [add_plain] at hx200_1 | skip)
    (first | simp only [add_plain] at hx200_2 | skip)
    (first | simp only [add_plain] at hx200_3 | skip)
    (first | simp only [add_plain] at hx200_4 | skip)
    obtain ⟨ce119, hcl119, hM119, hcc119, hfr119⟩ := Kd.R_elem HO_160003.out z100 (t164 : Int) p119 q119
    obtain rfl := k100_openM hM119
    have hx119_0 : World.cell? _ ⟨go119, (t164 : Int).toNat * 5, none⟩ = some (.int .i64 ((rd_T100 l1_3 t164).f0)) := hcc119 0 _ rfl
    have hx119_1 : World.cell? _ ⟨go119, (t164 : Int).toNat * 5 + 1, none⟩ = some (.int .i64 ((rd_T100 l1_3 t164).f1)) := hcc119 1 _ rfl
    have hx119_2 : World.cell? _ ⟨go119, (t164 : Int).toNat * 5 + 2, none⟩ = some (.int .i64 ((rd_T100 l1_3 t164).f2)) := hcc119 2 _ rfl
    have hx119_3 : World.cell? _ ⟨go119, (t164 : Int).toNat * 5 + 3, none⟩ = some (.int .i64 ((rd_T100 l1_3 t164).f3)) := hcc119 3 _ rfl
    have hx119_4 : World.cell? _ ⟨go119, (t164 : Int).toNat * 5 + 4, none⟩ = some (.int .i64 ((rd_T100 l1_3 t164).f4)) := hcc119 4 _ rfl
    have hf119_0 : World.frozen? _ ⟨go119, (t164 : Int).toNat * 5, none⟩ = false := hfr119 0
    have hf119_1 : World.frozen? _ ⟨go119, (t164 : Int).toNat * 5 + 1, none⟩ = false := hfr119 1
    have hf119_2 : World.frozen? _ ⟨go119, (t164 : Int).toNat * 5 + 2, none⟩ = false := hfr119 2
    have hf119_3 : World.frozen? _ ⟨go119, (t164 : Int).toNat * 5 + 3, none⟩ = false := hfr119 3
    have hf119_4 : World.frozen? _ ⟨go119, (t164 : Int).toNat * 5 + 4, none⟩ = false := hfr119 4
    clear hcl119 hcc119 hfr119 hM119
    replace p119 := eq_true p119
    replace q119 := eq_true q119
    have HN0_go119 := Aside0.mk (show g ≠ go119 from by have h_ := IsS186.own_ne HI0.out HO_160003.out z3_16; intro e_; exact h_ (by rw [e_]; rfl))
    obtain ⟨ce130, hcl130, hM130, hcc130, hfr130⟩ := Kd.R_elem HO_160003.out z100 (t164 : Int) (of_decide_eq_true z3_8) (by have h_ : (t164 : Int) < ((l1_3.length : Int) : Int) := of_decide_eq_true z3_8; first | exact h_ | (have e_ := (Kd.qn0 HO_160003.out).1; omega) | simpa using h_)
    obtain rfl := k100_openM hM130
    have HP130 := (Kd.R_seg HO_160003.out (t164 : Int) (of_decide_eq_true z3_8) (by have h_ : (t164 : Int) < ((l1_3.length : Int) : Int) := of_decide_eq_true z3_8; first | exact h_ | (have e_ := (Kd.qn0 HO_160003.out).1; omega) | simpa using h_) (seg := [.int .i64 (wrap64 (((rd_T100 l1_3 t164).f3) + t204))]) (j := 3) hcl130 hcc130 (show 4 ≤ 5 from z3_16) (x' := (⟨(rd_T100 l1_3 t164).f0, (rd_T100 l1_3 t164).f1, (rd_T100 l1_3 t164).f2, wrap64 (((rd_T100 l1_3 t164).f3) + t204), (rd_T100 l1_3 t164).f4⟩ : S100)) (k100_mkM _ _ _ (⟨(rd_T100 l1_3 t164).f0, (rd_T100 l1_3 t164).f1, (rd_T100 l1_3 t164).f2, wrap64 (((rd_T100 l1_3 t164).f3) + t204), (rd_T100 l1_3 t164).f4⟩ : S100) ) (fun _ hk => hk)).1
    rw [← Ny207.out] at HP130
    have HQ130 := Aside0.mk HP130
    clear hcl130 hcc130 hfr130 hM130 HP130
    refine hK.out _ _ ⟨(qb0 BK159.out 0).trans rfl, (qb0 BK159.out 1).trans rfl, (qb0 BK159.out 2).trans rfl, (qb0 BK159.out 3).trans rfl, HS4_, HS5_, HS6_, HS7_, HS8_⟩ (fun hHeld => ?_)
    clear hK K
    refine norm_ (a' := ?_) ?_ ?_
    rotate_left
    ·show Act.put _ (some 84) _ = _
     simp only [Act.put, List.setIfInBounds_toArray, List.set_cons_zero, List.set_cons_succ, i64_w, i32_w]
     rfl
    refine pure_ (i := 12) (N := some 85) (v := ?_) (a' := ?_) (rb3 [13, 3]) rfl rfl (qs0 HT_.out z3_11) (fun _ _ _ h => h) (Or.inl ⟨by rfl, ?_⟩) ?_ ?_
    rotate_left
    ·intro w'
     go_simp
     with_reducible rfl
    rotate_left
    ·simp only [Act.put, List.setIfInBounds_toArray, List.set_cons_zero, List.set_cons_succ, i64_w, i32_w]
     rfl
    refine pure_ (i := 13) (N := some 86) (v := ?_) (a' := ?_) (rb3 [14, 2]) rfl rfl (qs0 HT_.out z3_11) (fun _ _ _ h => h) (Or.inl ⟨by rfl, ?_⟩) ?_ ?_
    rotate_left
    ·intro w'
     go_simp
     with_reducible rfl
    rotate_left
    ·simp only [Act.put, List.setIfInBounds_toArray, List.set_cons_zero, List.set_cons_succ, i64_w, i32_w]
     rfl
    refine pure_ (i := 14) (N := some 87) (v := ?_) (a' := ?_) (rb3 [15, 1]) rfl rfl (qs0 HT_.out z3_11) (fun _ _ _ h => h) (Or.inl ⟨by rfl, ?_⟩) ?_ ?_
    rotate_left
    ·intro w'
     go_simp
     with_reducible rfl
    rotate_left
    ·simp only [Act.put, List.setIfInBounds_toArray, List.set_cons_zero, List.set_cons_succ, i64_w, i32_w]
     rfl
    refine last_ (i := 15) (N := none) (rb3 [16]) rfl rfl (qt1 HT_.out z3_11) z3_16 (fun K hK => ?_)
    refine skip_ (w1 := ?_) (by rfl) rfl ?_ ?_
    rotate_left
    ·go_simp
     rfl
    refine hK.out _ _ ?_
    clear hK K
    refine done_ (done_of HT_.out z3_11) ?_
    have n0_ : Aside0 (Kd.R k100 100 (w129.setCell ⟨go119, (t164 : Int).toNat * 5 + 3, none⟩ (.int .i64 (wrap64 (((rd_T100 l1_3 t164).f3) + t204)))) w0.heap.size (fun k_ => (P1_3_ k_ ∨ w.heap.size ≤ k_)) (.slice (some ⟨go119, 0, none⟩) l1_3.length co4) y207) := ⟨by (with_reducible repeat (first | apply Kd.qr0 | apply Kd.qp0 | apply Kd.qu0)); exact HQ130.out⟩
    have n1_ : Aside0 (Kd.R (Kd.int .i64) 3 (w129.setCell ⟨go119, (t164 : Int).toNat * 5 + 3, none⟩ (.int .i64 (wrap64 (((rd_T100 l1_3 t164).f3) + t204)))) w0.heap.size (fun k_ => (P1_3_ k_ ∨ w.heap.size ≤ k_)) (.slice Ao128 y201.length co128) y201) := ⟨by (with_reducible repeat (first | apply Kd.qr0 | apply Kd.qp0 | apply Kd.qu0)); exact Kd.qm0 (Kd.R_far (p := ⟨go119, (t164 : Int).toNat * 5 + 3, none⟩) (Kd.qi1 HO203.out GG119.out z3_16) (fun _ hk => hk.2) (.int .i64 (wrap64 (((rd_T100 l1_3 t164).f3) + t204)))) (fun _ hk => hk.1.1)⟩
    have n2_ : Aside0 ((w129.setCell ⟨go119, (t164 : Int).toNat * 5 + 3, none⟩ (.int .i64 (wrap64 (((rd_T100 l1_3 t164).f3) + t204)))).heap[gb159]? = some (.cells #[.int .i64 a1_0, .int .i64 a1_1, .string a1_2, .slice (some ⟨go119, 0, none⟩) l1_3.length co4] 98 (0, 0))) := ⟨by (with_reducible repeat (first | refine qe0 ?_ _ | refine qf0 ?_ | refine qd0 ?_ _)); refine blk_far ?_ (by have h_ := Kd.R_ne HO_160003.out BK159.out z3_16; intro e_; exact h_ (by rw [e_]; rfl)) _; (with_reducible repeat (first | refine qe0 ?_ _ | refine qf0 ?_ | refine qd0 ?_ _)); exact BK159.out⟩
    have n3_ : Aside0 ((w129.setCell ⟨go119, (t164 : Int).toNat * 5 + 3, none⟩ (.int .i64 (wrap64 (((rd_T100 l1_3 t164).f3) + t204)))).heap[gb160]? = some (.cells #[.int .i64 0, .int .i64 0, .string (⟨#[]⟩ : ByteArray), .slice none 0 0] 98 (0, 0))) := ⟨by (with_reducible repeat (first | refine qe0 ?_ _ | refine qf0 ?_ | refine qd0 ?_ _)); refine blk_far ?_ (by have h_ := Kd.R_ne HO_160003.out BK160.out z3_16; intro e_; exact h_ (by rw [e_]; rfl)) _; (with_reducible repeat (first | refine qe0 ?_ _ | refine qf0 ?_ | refine qd0 ?_ _)); exact BK160.out⟩
    have n4_ : Aside0 (IsS186 w0 (w129.setCell ⟨go119, (t164 : Int).toNat * 5 + 3, none⟩ (.int .i64 (wrap64 (((rd_T100 l1_3 t164).f3) + t204)))) g s0_0 t205 t206) := ⟨by repeat (first | (with_reducible first | exact HI0.out | apply IsS186.alloc | apply IsS186.drewN | apply IsS186.drew | apply IsS186.set_1 | apply IsS186.set_2 | refine IsS186.far ?_ HN0_go119.out _ | refine IsS186.far ?_ NB0_159.out _ | refine IsS186.far ?_ NB0_160.out _) | exact HI0.out)⟩
    have n5_ : Aside0 (Kept w (w129.setCell ⟨go119, (t164 : Int).toNat * 5 + 3, none⟩ (.int .i64 (wrap64 (((rd_T100 l1_3 t164).f3) + t204)))) (fun k_ => (P1_3_ k_) ∨ k_ = g)) := ⟨by repeat (first | (with_reducible first | exact HK.out | apply Kept.alloc | apply Kept.drewN | apply Kept.drew | refine Kept.setCell ?_ (Or.imp_left Or.inl HMgo119.out) _ | refine Kept.setCell ?_ (.inl (.inr rfl)) _ | refine Kept.setCell ?_ (.inr GW159.out) _ | refine Kept.setCell ?_ (.inr GW160.out) _) | exact HK.out)⟩
    have n6_ : Aside0 (Below w0.heap.size w0 (w129.setCell ⟨go119, (t164 : Int).toNat * 5 + 3, none⟩ (.int .i64 (wrap64 (((rd_T100 l1_3 t164).f3) + t204))))) := ⟨by repeat (first | (with_reducible first | exact HB.out | apply qj0 | apply qh0 | apply qi0 | refine qk0 ?_ GB119.out | refine qk0 ?_ (IsS186.ge HI0.out) | refine qk0 ?_ GE159.out | refine qk0 ?_ GE160.out) | exact HB.out)⟩
    (try clear HO_160003)
    (try clear HO203)
    (try clear BK159)
    (try clear BK160)
    (try clear HI0)
    (try clear HK)
    (try clear HB)
    generalize (w129.setCell ⟨go119, (t164 : Int).toNat * 5 + 3, none⟩ (.int .i64 (wrap64 (((rd_T100 l1_3 t164).f3) + t204)))) = w131 at n0_ n1_ n2_ n3_ n4_ n5_ n6_ ⊢
    have HO_160003 := n0_
    have HO203 := n1_
    have BK159 := n2_
    have BK160 := n3_
    have HI0 := n4_
    have HK := n5_
    have HB := n6_
    clear n0_ n1_ n2_ n3_ n4_ n5_ n6_
    have hcz132_0 : w131.cell? ⟨gb159, 0, none⟩ = some (.int .i64 a1_0) := (qb0 BK159.out 0).trans rfl
    have hcz132_1 : w131.cell? ⟨gb159, 1, none⟩ = some (.int .i64 a1_1) := (qb0 BK159.out 1).trans rfl
    have hcz132_2 : w131.cell? ⟨gb159, 2, none⟩ = some (.string a1_2) := (qb0 BK159.out 2).trans rfl
    have hcz132_3 : w131.cell? ⟨gb159, 3, none⟩ = some (.slice (some ⟨go119, 0, none⟩) l1_3.length co4) := (qb0 BK159.out 3).trans rfl
    have hfz132_0 := qa0 BK159.out 0
    have hfz132_1 := qa0 BK159.out 1
    have hfz132_2 := qa0 BK159.out 2
    have hfz132_3 := qa0 BK159.out 3
    have hnb133 := NB160_0.out
    have hnc133 := NB0_160.out
    have hcz134_0 : w131.cell? ⟨gb160, 0, none⟩ = some (.int .i64 0) := (qb0 BK160.out 0).trans rfl
    have hcz134_1 : w131.cell? ⟨gb160, 1, none⟩ = some (.int .i64 0) := (qb0 BK160.out 1).trans rfl
    have hcz134_2 : w131.cell? ⟨gb160, 2, none⟩ = some (.string (⟨#[]⟩ : ByteArray)) := (qb0 BK160.out 2).trans rfl
    have hcz134_3 : w131.cell? ⟨gb160, 3, none⟩ = some (.slice none 0 0) := (qb0 BK160.out 3).trans rfl
    have hfz134_0 := qa0 BK160.out 0
    have hfz134_1 := qa0 BK160.out 1
    have hfz134_2 := qa0 BK160.out 2
    have hfz134_3 := qa0 BK160.out 3
    try go_wp2
    refine bodyPost_ret (results_cell_row rfl _ _ gb160 98 #[.int .i64 a1_0, .int .i64 a1_1, .string a1_2, .slice (some ⟨go119, 0, none⟩) l1_3.length co4] (0, 0) _ rfl z3_3 Try.underlying98 rfl z3_11) rfl ?_
    exact ⟨_, z3_12, by (with_reducible repeat (first | apply Kd.qr0 | apply Kd.qp0 | apply Kd.qu0)); exact Kd.qm0 (Kd.R_far (p := ⟨gb160, 3, none⟩) (Kd.R_far (p := ⟨gb160, 2, none⟩) (Kd.R_far (p := ⟨gb160, 1, none⟩) (Kd.R_far (p := ⟨gb160, 0, none⟩) (Kd.qi1 HO_160003.out BK160.out z3_16) (fun _ hk => hk.2) (.int .i64 a1_0)) (fun _ hk => hk.2) (.int .i64 a1_1)) (fun _ hk => hk.2) (.string a1_2)) (fun _ hk => hk.2) (.slice (some ⟨go119, 0, none⟩) l1_3.length co4)) (fun _ hk => hk.1), z3_0, z3_2, z3_1⟩
   rw [if_neg c115] at H
   have c115b0 : (t167 == 6) = false := beq_eq_false_iff_ne.mpr c115
   have c115b1 : (t167 != 6) = true := bne_iff_ne.mpr c115
   by_cases c135 : t167 = 7
   ·rw [if_pos c135] at H
    have c135b0 : (t167 == 7) = true := beq_iff_eq.mpr c135
    have c135b1 : (t167 != 7) = false := bne_eq_false_iff_eq.mpr c135
    clear c135
    by_cases c136 : 0 ≤ t164
    case neg => rw [if_neg c136] at H; exact absurd H (by simp)
    rw [if_pos c136] at H
    have c136b0 : decide (0 ≤ t164) = true := decide_eq_true c136
    clear c136
    by_cases c137 : t164 < (l1_3.length : Int)
    case neg => rw [if_neg c137] at H; exact absurd H (by simp)
    rw [if_pos c137] at H
    have c137b0 : decide (t164 < (l1_3.length : Int)) = true := decide_eq_true c137
    clear c137
    obtain ⟨y209, hy209⟩ : ∃ y_ : List (S100), y_ = (l1_3.set (t164 : Int).toNat (⟨(rd_T100 l1_3 t164).f0, (rd_T100 l1_3 t164).f1, (rd_T100 l1_3 t164).f2, (rd_T100 l1_3 t164).f3, wrap64 (((rd_T100 l1_3 t164).f4) + 1)⟩ : S100)) := ⟨_, rfl⟩
    replace H : (some (a1_0, a1_1, a1_2, y209, t168, t169)) = some (r1, r2, r3, r4, r5, r6) := by first | (rw [hy209]; with_reducible exact H) | (have H2_ := (Option.bind_some _ _).symm.trans H; rw [hy209]; with_reducible exact H2_) | (have H2_ := (Option.bind_some _ _).symm.trans H; with_reducible exact H2_) | with_reducible exact H | (rw [hy209]; exact H) | exact H
    have Ny209 := Aside0.mk hy209
    clear hy209
    simp only [Option.some.injEq, Prod.mk.injEq] at H
    obtain ⟨rfl, rfl, rfl, rfl, rfl, rfl⟩ := H
    have hnb139 := NB159_160.out
    have hnc139 := NB160_159.out
    have hnb140 := NB159_0.out
    have hnc140 := NB0_159.out
    have hcz141_0 : wc.cell? ⟨gb159, 0, none⟩ = some (.int .i64 a1_0) := (qb0 BK159.out 0).trans rfl
    have hcz141_1 : wc.cell? ⟨gb159, 1, none⟩ = some (.int .i64 a1_1) := (qb0 BK159.out 1).trans rfl
    have hcz141_2 : wc.cell? ⟨gb159, 2, none⟩ = some (.string a1_2) := (qb0 BK159.out 2).trans rfl
    have hcz141_3 : wc.cell? ⟨gb159, 3, none⟩ = some (.slice Ao4 l1_3.length co4) := (qb0 BK159.out 3).trans rfl
    have hfz141_0 := qa0 BK159.out 0
    have hfz141_1 := qa0 BK159.out 1
    have hfz141_2 := qa0 BK159.out 2
    have hfz141_3 := qa0 BK159.out 3
    try go_wp2_with (first | ((with_reducible refine qg0 (f := 61) rfl ?_); refine qt0 (some 20) rfl rfl Try.func61 z3_11 rfl #[.pointer (some ⟨g, 0, none⟩), .int .i64 (l1_3.length : Int)] rfl z3_6 ?_; (with_reducible refine (spec_l1Below.calls g s0_0 x1001_2 x1002_2 (l1_3.length : Int) t164 t165 t166 w0 _ ?side1 ?side2 A20.out).mono ?_); (case side1 => exact z3_0); (case side2 => exact z3_2); rintro e w142 ⟨rfl, hi, hb, hk⟩; refine ⟨_, rfl, ?_⟩; have n0_ := Aside0.mk (Kd.qm0 (Kd.qy0 (IsS186.apart (show IsS186 w0 _ g s0_0 x1001_2 x1002_2 from z3_0) z3_7 z3_16) hk (fun _ h => h.2)) (fun _ h => h.1)); have n1_ := Aside0.mk (qc0.blk hk (g' := gb159) (o := .cells #[.int .i64 a1_0, .int .i64 a1_1, .string a1_2, .slice Ao4 l1_3.length co4] 98 (0, 0)) z3_4 NB159_0.out (by simp)); have n2_ := Aside0.mk (qc0.blk hk (g' := gb160) (o := .cells #[.int .i64 0, .int .i64 0, .string (⟨#[]⟩ : ByteArray), .slice none 0 0] 98 (0, 0)) z3_5 NB160_0.out (by simp)); have n3_ := Aside0.mk (Kept.qk1 (S := (fun k_ => (P1_3_ k_) ∨ k_ = g)) z3_1 hk (.inl (.inr rfl))); have n4_ := Aside0.mk (hb); have n5_ := Aside0.mk (hi); clear HO_160003; clear BK159; clear BK160; clear HK; clear HB; clear HI0; have HO_160003 := n0_; have BK159 := n1_; have BK160 := n2_; have HK := n3_; have HB := n4_; have HI0 := n5_; clear n0_ n1_ n2_ n3_ n4_ n5_; (try clear hb); (try clear hb2); (try clear hk); (try clear hi)) | ((with_reducible refine qg0 (f := 61) rfl ?_); refine qt0 (some 22) rfl rfl Try.func61 z3_11 rfl #[.pointer (some ⟨g, 0, none⟩), .int .i64 9] rfl z3_6 ?_; (with_reducible refine (spec_l1Below.calls g s0_0 t165 t166 9 t167 t168 t169 w0 _ ?side1 ?side2 A21.out).mono ?_); (case side1 => exact z3_0); (case side2 => exact z3_2); rintro e w143 ⟨rfl, hi, hb, hk⟩; refine ⟨_, rfl, ?_⟩; have n0_ := Aside0.mk (Kd.qm0 (Kd.qy0 (IsS186.apart (show IsS186 w0 _ g s0_0 t165 t166 from z3_0) z3_7 z3_16) hk (fun _ h => h.2)) (fun _ h => h.1)); have n1_ := Aside0.mk (qc0.blk hk (g' := gb159) (o := .cells #[.int .i64 a1_0, .int .i64 a1_1, .string a1_2, .slice Ao4 l1_3.length co4] 98 (0, 0)) z3_4 NB159_0.out (by simp)); have n2_ := Aside0.mk (qc0.blk hk (g' := gb160) (o := .cells #[.int .i64 0, .int .i64 0, .string (⟨#[]⟩ : ByteArray), .slice none 0 0] 98 (0, 0)) z3_5 NB160_0.out (by simp)); have n3_ := Aside0.mk (Kept.qk1 (S := (fun k_ => (P1_3_ k_) ∨ k_ = g)) z3_1 hk (.inl (.inr rfl))); have n4_ := Aside0.mk (hb); have n5_ := Aside0.mk (hi); clear HO_160003; clear BK159; clear BK160; clear HK; clear HB; clear HI0; have HO_160003 := n0_; have BK159 := n1_; have BK160 := n2_; have HK := n3_; have HB := n4_; have HI0 := n5_; clear n0_ n1_ n2_ n3_ n4_ n5_; (try clear hb); (try clear hb2); (try clear hk); (try clear hi)))
    have n0_ := Aside0.mk (Kd.qu0 HO_160003.out)
    have n1_ := Aside0.mk (qf0 BK159.out)
    have n2_ := Aside0.mk (qf0 BK160.out)
    have n3_ := Aside0.mk (IsS186.drew HI0.out)
    have n4_ := Aside0.mk (Kept.drew HK.out)
    have n5_ := Aside0.mk (qi0 HB.out)
    clear HO_160003
    clear BK159
    clear BK160
    clear HI0
    clear HK
    clear HB
    have HO_160003 := n0_
    have BK159 := n1_
    have BK160 := n2_
    have HI0 := n3_
    have HK := n4_
    have HB := n5_
    clear n0_ n1_ n2_ n3_ n4_ n5_
    have p208 : 0 ≤ (t164 : Int) := of_decide_eq_true z3_8
    have q208 : t164 < (l1_3.length : Int) := of_decide_eq_true z3_8
    obtain ⟨ad208, e208, hx208_0, hx208_1, hx208_2, hx208_3, hx208_4⟩ := at_T100 (Kd.qn0 HO_160003.out).2.2 t164 p208 q208
    cases e208
    replace p208 := eq_true p208
    replace q208 := eq_true q208
    have p138 : 0 ≤ (t164 : Int) := of_decide_eq_true z3_8
    have q138 : (t164 : Int) < ((l1_3.length : Int) : Int) := of_decide_eq_true z3_8
    obtain ⟨go138, co138, eo138, gb138, gl138, cl138, HG138⟩ := Kd.R_form HO_160003.out (by omega)
    (first | cases eo138 | (injection eo138 with ea_ en_ ec_; (first | subst ea_ | (injection ea_ with ea_; subst ea_)); subst ec_; clear en_))
    have GB138 := Aside0.mk gb138
    have GG138 := Aside0.mk HG138
    clear gb138 gl138 HG138
    have HMgo138 := Aside0.mk (show (P1_3_ go138 ∨ w.heap.size ≤ go138) from (HO_160003.out.1 _ rfl))
    (first | simp only [add_plain] at hx208_0 | skip)
    (first | simp only [add_plain] at hx208_1 | skip)
    (first | simp only [add_plain] at hx208_2 | skip)
    (first | simp only [add_plain] at hx208_3 | skip)
    (first | simp only [add_plain] at hx208_4 | skip)
    obtain ⟨ce138, hcl138, hM138, hcc138, hfr138⟩ := Kd.R_elem HO_160003.out z100 (t164 : Int) p138 q138
    obtain rfl := k100_openM hM138
    have hx138_0 : World.cell? _ ⟨go138, (t164 : Int).toNat * 5, none⟩ = some (.int .i64 ((rd_T100 l1_3 t164).f0)) := hcc138 0 _ rfl
    have hx138_1 : World.cell? _ ⟨go138, (t164 : Int).toNat * 5 + 1, none⟩ = some (.int .i64 ((rd_T100 l1_3 t164).f1)) := hcc138 1 _ rfl
    have hx138_2 : World.cell? _ ⟨go138, (t164 : Int).toNat * 5 + 2, none⟩ = some (.int .i64 ((rd_T100 l1_3 t164).f2)) := hcc138 2 _ rfl
    have hx138_3 : World.cell? _ ⟨go138, (t164 : Int).toNat * 5 + 3, none⟩ = some (.int .i64 ((rd_T100 l1_3 t164).f3)) := hcc138 3 _ rfl
    have hx138_4 : World.cell? _ ⟨go138, (t164 : Int).toNat * 5 + 4, none⟩ = some (.int .i64 ((rd_T100 l1_3 t164).f4)) := hcc138 4 _ rfl
    have hf138_0 : World.frozen? _ ⟨go138, (t164 : Int).toNat * 5, none⟩ = false := hfr138 0
    have hf138_1 : World.frozen? _ ⟨go138, (t164 : Int).toNat * 5 + 1, none⟩ = false := hfr138 1
    have hf138_2 : World.frozen? _ ⟨go138, (t164 : Int).toNat * 5 + 2, none⟩ = false := hfr138 2
    have hf138_3 : World.frozen? _ ⟨go138, (t164 : Int).toNat * 5 + 3, none⟩ = false := hfr138 3
    have hf138_4 : World.frozen? _ ⟨go138, (t164 : Int).toNat * 5 + 4, none⟩ = false := hfr138 4
    clear hcl138 hcc138 hfr138 hM138
    replace p138 := eq_true p138
    replace q138 := eq_true q138
    have HN0_go138 := Aside0.mk (show g ≠ go138 from by have h_ := IsS186.own_ne HI0.out HO_160003.out z3_16; intro e_; exact h_ (by rw [e_]; rfl))
    obtain ⟨ce145, hcl145, hM145, hcc145, hfr145⟩ := Kd.R_elem HO_160003.out z100 (t164 : Int) (of_decide_eq_true z3_8) (by have h_ : (t164 : Int) < ((l1_3.length : Int) : Int) := of_decide_eq_true z3_8; first | exact h_ | (have e_ := (Kd.qn0 HO_160003.out).1; omega) | simpa using h_)
    obtain rfl := k100_openM hM145
    have HP145 := (Kd.R_seg HO_160003.out (t164 : Int) (of_decide_eq_true z3_8) (by have h_ : (t164 : Int) < ((l1_3.length : Int) : Int) := of_decide_eq_true z3_8; first | exact h_ | (have e_ := (Kd.qn0 HO_160003.out).1; omega) | simpa using h_) (seg := [.int .i64 (wrap64 (((rd_T100 l1_3 t164).f4) + 1))]) (j := 4) hcl145 hcc145 (show 5 ≤ 5 from z3_16) (x' := (⟨(rd_T100 l1_3 t164).f0, (rd_T100 l1_3 t164).f1, (rd_T100 l1_3 t164).f2, (rd_T100 l1_3 t164).f3, wrap64 (((rd_T100 l1_3 t164).f4) + 1)⟩ : S100)) (k100_mkM _ _ _ (⟨(rd_T100 l1_3 t164).f0, (rd_T100 l1_3 t164).f1, (rd_T100 l1_3 t164).f2, (rd_T100 l1_3 t164).f3, wrap64 (((rd_T100 l1_3 t164).f4) + 1)⟩ : S100) ) (fun _ hk => hk)).1
    rw [← Ny209.out] at HP145
    have HQ145 := Aside0.mk HP145
    clear hcl145 hcc145 hfr145 hM145 HP145
    refine start_ (n := 13) (S := fun w' => w'.cell? ⟨gb159, 0, none⟩ = some (.int .i64 a1_0) ∧ w'.cell? ⟨gb159, 1, none⟩ = some (.int .i64 a1_1) ∧ w'.cell? ⟨gb159, 2, none⟩ = some (.string a1_2) ∧ w'.cell? ⟨gb159, 3, none⟩ = some (.slice (some ⟨go138, 0, none⟩) l1_3.length co4) ∧ w'.cell? ⟨go138, ((t164).toNat * 5), none⟩ = some (.int .i64 ((rd_T100 l1_3 t164).f0)) ∧ w'.cell? ⟨go138, ((t164).toNat * 5) + 1, none⟩ = some (.int .i64 ((rd_T100 l1_3 t164).f1)) ∧ w'.cell? ⟨go138, ((t164).toNat * 5) + 2, none⟩ = some (.int .i64 ((rd_T100 l1_3 t164).f2)) ∧ w'.cell? ⟨go138, ((t164).toNat * 5) + 3, none⟩ = some (.int .i64 ((rd_T100 l1_3 t164).f3)) ∧ w'.cell? ⟨go138, ((t164).toNat * 5) + 4, none⟩ = some (.int .i64 ((rd_T100 l1_3 t164).f4))) (ds := [12]) (rb3 [0, 13]) z3_11 rfl rfl ⟨(qb0 BK159.out 0).trans rfl, (qb0 BK159.out 1).trans rfl, (qb0 BK159.out 2).trans rfl, (qb0 BK159.out 3).trans rfl, hx208_0, hx208_1, hx208_2, hx208_3, hx208_4⟩ (fun hHeld => ?_); refine with_tabW spec_l5SpoilEntry.tab20 spec_l5SpoilEntry.bits20 (fun HT_ HW_ => ?_)
    generalize w143.drew = w144 at HO_160003 BK159 BK160 HI0 HK HB GG138 HQ145 hf138_0 hf138_1 hf138_2 hf138_3 hf138_4 hx138_0 hx138_1 hx138_2 hx138_3 hx138_4 hx208_0 hx208_1 hx208_2 hx208_3 hx208_4 hHeld ⊢
    refine pure_ (i := 0) (N := some 90) (v := ?_) (a' := ?_) (rb3 [1, 12]) rfl rfl (qs0 HT_.out z3_11) (fun _ _ _ h => h) (Or.inl ⟨by rfl, ?_⟩) ?_ ?_
    rotate_left
    ·intro w'
     go_simp
     with_reducible rfl
    rotate_left
    ·simp only [Act.put, List.setIfInBounds_toArray, List.set_cons_zero, List.set_cons_succ, i64_w, i32_w]
     rfl
    refine pure_ (i := 2) (N := some 92) (v := ?_) (a' := ?_) (rb3 [1, 1, 1, 10]) rfl rfl (qs0 HT_.out z3_11) (fun _ _ _ h => h) (Or.inl ⟨by rfl, ?_⟩) ?_ ?_
    rotate_left
    ·intro w'
     go_simp
     with_reducible rfl
    rotate_left
    ·simp only [Act.put, List.setIfInBounds_toArray, List.set_cons_zero, List.set_cons_succ, i64_w, i32_w]
     rfl
    refine pure_ (i := 3) (N := some 93) (v := ?_) (a' := ?_) (rb3 [1, 1, 2, 9]) rfl rfl (qs0 HT_.out z3_11) (fun _ _ _ h => h) (Or.inl ⟨by rfl, ?_⟩) ?_ ?_
    rotate_left
    ·intro w'
     go_simp
     with_reducible rfl
    rotate_left
    ·simp only [Act.put, List.setIfInBounds_toArray, List.set_cons_zero, List.set_cons_succ, i64_w, i32_w]
     rfl
    refine pure_ (i := 5) (N := some 95) (v := ?_) (a' := ?_) (rb3 [1, 1, 2, 1, 1, 7]) rfl rfl (qs0 HT_.out z3_11) (fun _ _ _ h => h) (Or.inl ⟨by rfl, ?_⟩) ?_ ?_
    rotate_left
    ·intro w'
     go_simp
     with_reducible rfl
    rotate_left
    ·simp only [Act.put, List.setIfInBounds_toArray, List.set_cons_zero, List.set_cons_succ, i64_w, i32_w]
     rfl
    refine take_ (i := 1) (N := some 91) (v := ?_) (a' := ?_) (rb3 [4, 1, 1, 7]) rfl rfl (ql1 HT_.out HW_.out z3_11) (fun _ _ _ h => h) (Or.inl ⟨by rfl, ?_⟩) hHeld ?_ ?_
    rotate_left
    ·rintro w' ⟨s0, s1, s2, s3, s4, s5, s6, s7, s8⟩
     go_simp
     with_reducible rfl
    rotate_left
    ·simp only [Act.put, List.setIfInBounds_toArray, List.set_cons_zero, List.set_cons_succ, i64_w, i32_w]
     rfl
    refine take_ (i := 4) (N := some 94) (v := ?_) (a' := ?_) (rb3 [6, 7]) rfl rfl (ql1 HT_.out HW_.out z3_11) (fun _ _ _ h => h) (Or.inl ⟨by rfl, ?_⟩) hHeld ?_ ?_
    rotate_left
    ·rintro w' ⟨s0, s1, s2, s3, s4, s5, s6, s7, s8⟩
     go_simp
     with_reducible rfl
    rotate_left
    ·simp only [Act.put, List.setIfInBounds_toArray, List.set_cons_zero, List.set_cons_succ, i64_w, i32_w]
     rfl
    refine pure_ (i := 6) (N := some 96) (v := ?_) (a' := ?_) (rb3 [7, 6]) rfl rfl (qs0 HT_.out z3_11) (fun _ _ _ h => h) (Or.inl ⟨by rfl, ?_⟩) ?_ ?_
    rotate_left
    ·intro w'
     go_simp
     with_reducible rfl
    rotate_left
    ·simp only [Act.put, List.setIfInBounds_toArray, List.set_cons_zero, List.set_cons_succ, i64_w, i32_w]
     rfl
    refine pure_ (i := 7) (N := some 97) (v := ?_) (a' := ?_) (rb3 [8, 5]) rfl rfl (qs0 HT_.out z3_11) (fun _ _ _ h => h) (Or.inl ⟨by rfl, ?_⟩) ?_ ?_
    rotate_left
    ·intro w'
     go_simp
     with_reducible rfl
    rotate_left
    ·simp only [Act.put, List.setIfInBounds_toArray, List.set_cons_zero, List.set_cons_succ, i64_w, i32_w]
     rfl
    refine take_ (i := 8) (N := some 98) (v := ?_) (a' := ?_) (rb3 [9, 4]) rfl rfl (ql1 HT_.out HW_.out z3_11) (fun _ _ _ h => h) (Or.inl ⟨by rfl, ?_⟩) hHeld ?_ ?_
    rotate_left
    ·rintro w' ⟨s0, s1, s2, s3, s4, s5, s6, s7, s8⟩
     go_simp
     with_reducible rfl
    rotate_left
    ·simp only [Act.put, List.setIfInBounds_toArray, List.set_cons_zero, List.set_cons_succ, i64_w, i32_w]
     rfl
    refine pure_ (i := 9) (N := some 99) (v := ?_) (a' := ?_) (rb3 [10, 3]) rfl rfl (qs0 HT_.out z3_11) (fun _ _ _ h => h) (Or.inl ⟨by rfl, ?_⟩) ?_ ?_
    rotate_left
    ·intro w'
     go_simp
     with_reducible rfl
    rotate_left
    ·simp only [Act.put, List.setIfInBounds_toArray, List.set_cons_zero, List.set_cons_succ, i64_w, i32_w]
     rfl
    refine pure_ (i := 10) (N := some 100) (v := ?_) (a' := ?_) (rb3 [11, 2]) rfl rfl (qs0 HT_.out z3_11) (fun _ _ _ h => h) (Or.inl ⟨by rfl, ?_⟩) ?_ ?_
    rotate_left
    ·intro w'
     go_simp
     with_reducible rfl
    rotate_left
    ·simp only [Act.put, List.setIfInBounds_toArray, List.set_cons_zero, List.set_cons_succ, i64_w, i32_w]
     rfl
    refine pure_ (i := 11) (N := some 101) (v := ?_) (a' := ?_) (rb3 [12, 1]) rfl rfl (qs0 HT_.out z3_11) (fun _ _ _ h => h) (Or.inl ⟨by rfl, ?_⟩) ?_ ?_
    rotate_left
    ·intro w'
     go_simp
     with_reducible rfl
    rotate_left
    ·simp only [Act.put, List.setIfInBounds_toArray, List.set_cons_zero, List.set_cons_succ, i64_w, i32_w]
     rfl
    refine last_ (i := 12) (N := none) (rb3 [13]) rfl rfl (qt1 HT_.out z3_11) z3_16 (fun K hK => ?_)
    refine skip_ (w1 := ?_) (by rfl) rfl ?_ ?_
    rotate_left
    ·go_simp
     rfl
    refine hK.out _ _ ?_
    clear hK K
    refine done_ (done_of HT_.out z3_11) ?_
    have n0_ : Aside0 (Kd.R k100 100 (w144.setCell ⟨go138, (t164 : Int).toNat * 5 + 4, none⟩ (.int .i64 (wrap64 (((rd_T100 l1_3 t164).f4) + 1)))) w0.heap.size (fun k_ => (P1_3_ k_ ∨ w.heap.size ≤ k_)) (.slice (some ⟨go138, 0, none⟩) l1_3.length co4) y209) := ⟨by (with_reducible repeat (first | apply Kd.qr0 | apply Kd.qp0 | apply Kd.qu0)); exact HQ145.out⟩
    have n1_ : Aside0 ((w144.setCell ⟨go138, (t164 : Int).toNat * 5 + 4, none⟩ (.int .i64 (wrap64 (((rd_T100 l1_3 t164).f4) + 1)))).heap[gb159]? = some (.cells #[.int .i64 a1_0, .int .i64 a1_1, .string a1_2, .slice (some ⟨go138, 0, none⟩) l1_3.length co4] 98 (0, 0))) := ⟨by (with_reducible repeat (first | refine qe0 ?_ _ | refine qf0 ?_ | refine qd0 ?_ _)); refine blk_far ?_ (by have h_ := Kd.R_ne HO_160003.out BK159.out z3_16; intro e_; exact h_ (by rw [e_]; rfl)) _; (with_reducible repeat (first | refine qe0 ?_ _ | refine qf0 ?_ | refine qd0 ?_ _)); exact BK159.out⟩
    have n2_ : Aside0 ((w144.setCell ⟨go138, (t164 : Int).toNat * 5 + 4, none⟩ (.int .i64 (wrap64 (((rd_T100 l1_3 t164).f4) + 1)))).heap[gb160]? = some (.cells #[.int .i64 0, .int .i64 0, .string (⟨#[]⟩ : ByteArray), .slice none 0 0] 98 (0, 0))) := ⟨by (with_reducible repeat (first | refine qe0 ?_ _ | refine qf0 ?_ | refine qd0 ?_ _)); refine blk_far ?_ (by have h_ := Kd.R_ne HO_160003.out BK160.out z3_16; intro e_; exact h_ (by rw [e_]; rfl)) _; (with_reducible repeat (first | refine qe0 ?_ _ | refine qf0 ?_ | refine qd0 ?_ _)); exact BK160.out⟩
    have n3_ : Aside0 (IsS186 w0 (w144.setCell ⟨go138, (t164 : Int).toNat * 5 + 4, none⟩ (.int .i64 (wrap64 (((rd_T100 l1_3 t164).f4) + 1)))) g s0_0 t168 t169) := ⟨by repeat (first | (with_reducible first | exact HI0.out | apply IsS186.alloc | apply IsS186.drewN | apply IsS186.drew | apply IsS186.set_1 | apply IsS186.set_2 | refine IsS186.far ?_ HN0_go138.out _ | refine IsS186.far ?_ NB0_159.out _ | refine IsS186.far ?_ NB0_160.out _) | exact HI0.out)⟩
    have n4_ : Aside0 (Kept w (w144.setCell ⟨go138, (t164 : Int).toNat * 5 + 4, none⟩ (.int .i64 (wrap64 (((rd_T100 l1_3 t164).f4) + 1)))) (fun k_ => (P1_3_ k_) ∨ k_ = g)) := ⟨by repeat (first | (with_reducible first | exact HK.out | apply Kept.alloc | apply Kept.drewN | apply Kept.drew | refine Kept.setCell ?_ (Or.imp_left Or.inl HMgo138.out) _ | refine Kept.setCell ?_ (.inl (.inr rfl)) _ | refine Kept.setCell ?_ (.inr GW159.out) _ | refine Kept.setCell ?_ (.inr GW160.out) _) | exact HK.out)⟩
    have n5_ : Aside0 (Below w0.heap.size w0 (w144.setCell ⟨go138, (t164 : Int).toNat * 5 + 4, none⟩ (.int .i64 (wrap64 (((rd_T100 l1_3 t164).f4) + 1))))) := ⟨by repeat (first | (with_reducible first | exact HB.out | apply qj0 | apply qh0 | apply qi0 | refine qk0 ?_ GB138.out | refine qk0 ?_ (IsS186.ge HI0.out) | refine qk0 ?_ GE159.out | refine qk0 ?_ GE160.out) | exact HB.out)⟩
    (try clear HO_160003)
    (try clear BK159)
    (try clear BK160)
    (try clear HI0)
    (try clear HK)
    (try clear HB)
    generalize (w144.setCell ⟨go138, (t164 : Int).toNat * 5 + 4, none⟩ (.int .i64 (wrap64 (((rd_T100 l1_3 t164).f4) + 1)))) = w146 at n0_ n1_ n2_ n3_ n4_ n5_ ⊢
    have HO_160003 := n0_
    have BK159 := n1_
    have BK160 := n2_
    have HI0 := n3_
    have HK := n4_
    have HB := n5_
    clear n0_ n1_ n2_ n3_ n4_ n5_
    have hcz147_0 : w146.cell? ⟨gb159, 0, none⟩ = some (.int .i64 a1_0) := (qb0 BK159.out 0).trans rfl
    have hcz147_1 : w146.cell? ⟨gb159, 1, none⟩ = some (.int .i64 a1_1) := (qb0 BK159.out 1).trans rfl
    have hcz147_2 : w146.cell? ⟨gb159, 2, none⟩ = some (.string a1_2) := (qb0 BK159.out 2).trans rfl
    have hcz147_3 : w146.cell? ⟨gb159, 3, none⟩ = some (.slice (some ⟨go138, 0, none⟩) l1_3.length co4) := (qb0 BK159.out 3).trans rfl
    have hfz147_0 := qa0 BK159.out 0
    have hfz147_1 := qa0 BK159.out 1
    have hfz147_2 := qa0 BK159.out 2
    have hfz147_3 := qa0 BK159.out 3
    have hnb148 := NB160_0.out
    have hnc148 := NB0_160.out
    have hcz149_0 : w146.cell? ⟨gb160, 0, none⟩ = some (.int .i64 0) := (qb0 BK160.out 0).trans rfl
    have hcz149_1 : w146.cell? ⟨gb160, 1, none⟩ = some (.int .i64 0) := (qb0 BK160.out 1).trans rfl
    have hcz149_2 : w146.cell? ⟨gb160, 2, none⟩ = some (.string (⟨#[]⟩ : ByteArray)) := (qb0 BK160.out 2).trans rfl
    have hcz149_3 : w146.cell? ⟨gb160, 3, none⟩ = some (.slice none 0 0) := (qb0 BK160.out 3).trans rfl
    have hfz149_0 := qa0 BK160.out 0
    have hfz149_1 := qa0 BK160.out 1
    have hfz149_2 := qa0 BK160.out 2
    have hfz149_3 := qa0 BK160.out 3
    try go_wp2
    refine bodyPost_ret (results_cell_row rfl _ _ gb160 98 #[.int .i64 a1_0, .int .i64 a1_1, .string a1_2, .slice (some ⟨go138, 0, none⟩) l1_3.length co4] (0, 0) _ rfl z3_3 Try.underlying98 rfl z3_11) rfl ?_
    exact ⟨_, z3_12, by (with_reducible repeat (first | apply Kd.qr0 | apply Kd.qp0 | apply Kd.qu0)); exact Kd.qm0 (Kd.R_far (p := ⟨gb160, 3, none⟩) (Kd.R_far (p := ⟨gb160, 2, none⟩) (Kd.R_far (p := ⟨gb160, 1, none⟩) (Kd.R_far (p := ⟨gb160, 0, none⟩) (Kd.qi1 HO_160003.out BK160.out z3_16) (fun _ hk => hk.2) (.int .i64 a1_0)) (fun _ hk => hk.2) (.int .i64 a1_1)) (fun _ hk => hk.2) (.string a1_2)) (fun _ hk => hk.2) (.slice (some ⟨go138, 0, none⟩) l1_3.length co4)) (fun _ hk => hk.1), z3_0, z3_2, z3_1⟩
   rw [if_neg c135] at H
   have c135b0 : (t167 == 7) = false := beq_eq_false_iff_ne.mpr c135
   have c135b1 : (t167 != 7) = true := bne_iff_ne.mpr c135
   by_cases c150 : t167 = 8
   ·rw [if_pos c150] at H
    have c150b0 : (t167 == 8) = true := beq_iff_eq.mpr c150
    have c150b1 : (t167 != 8) = false := bne_eq_false_iff_eq.mpr c150
    clear c150
    by_cases c151 : 0 ≤ t164
    case neg => rw [if_neg c151] at H; exact absurd H (by simp)
    rw [if_pos c151] at H
    have c151b0 := eq_true c151
    have c151b1 : decide (0 ≤ t164) = true := decide_eq_true c151
    clear c151
    by_cases c152 : t164 ≤ (l1_3.length : Int)
    case neg => rw [if_neg c152] at H; exact absurd H (by simp)
    rw [if_pos c152] at H
    have c152b0 := eq_true c152
    have c152b1 : decide (t164 ≤ (l1_3.length : Int)) = true := decide_eq_true c152
    clear c152
    obtain ⟨y210, hy210⟩ : ∃ y_ : List (S100), y_ = (l1_3.take (t164 : Int).toNat) := ⟨_, rfl⟩
    replace H : (some (a1_0, a1_1, a1_2, y210, t168, t169)) = some (r1, r2, r3, r4, r5, r6) := by first | (rw [hy210]; with_reducible exact H) | (have H2_ := (Option.bind_some _ _).symm.trans H; rw [hy210]; with_reducible exact H2_) | (have H2_ := (Option.bind_some _ _).symm.trans H; with_reducible exact H2_) | with_reducible exact H | (rw [hy210]; exact H) | exact H
    have Ny210 := Aside0.mk hy210
    clear hy210
    simp only [Option.some.injEq, Prod.mk.injEq] at H
    obtain ⟨rfl, rfl, rfl, rfl, rfl, rfl⟩ := H
    have hnb153 := NB159_160.out
    have hnc153 := NB160_159.out
    have hnb154 := NB159_0.out
    have hnc154 := NB0_159.out
    have hcz155_0 : wc.cell? ⟨gb159, 0, none⟩ = some (.int .i64 a1_0) := (qb0 BK159.out 0).trans rfl
    have hcz155_1 : wc.cell? ⟨gb159, 1, none⟩ = some (.int .i64 a1_1) := (qb0 BK159.out 1).trans rfl
    have hcz155_2 : wc.cell? ⟨gb159, 2, none⟩ = some (.string a1_2) := (qb0 BK159.out 2).trans rfl
    have hcz155_3 : wc.cell? ⟨gb159, 3, none⟩ = some (.slice Ao4 l1_3.length co4) := (qb0 BK159.out 3).trans rfl
    have hfz155_0 := qa0 BK159.out 0
    have hfz155_1 := qa0 BK159.out 1
    have hfz155_2 := qa0 BK159.out 2
    have hfz155_3 := qa0 BK159.out 3
    go_wp2_with (first | ((with_reducible refine qg0 (f := 61) rfl ?_); refine qt0 (some 20) rfl rfl Try.func61 z3_11 rfl #[.pointer (some ⟨g, 0, none⟩), .int .i64 (l1_3.length : Int)] rfl z3_6 ?_; (with_reducible refine (spec_l1Below.calls g s0_0 x1001_2 x1002_2 (l1_3.length : Int) t164 t165 t166 w0 _ ?side1 ?side2 A20.out).mono ?_); (case side1 => exact z3_0); (case side2 => exact z3_2); rintro e w156 ⟨rfl, hi, hb, hk⟩; refine ⟨_, rfl, ?_⟩; have n0_ := Aside0.mk (Kd.qm0 (Kd.qy0 (IsS186.apart (show IsS186 w0 _ g s0_0 x1001_2 x1002_2 from z3_0) z3_7 z3_16) hk (fun _ h => h.2)) (fun _ h => h.1)); have n1_ := Aside0.mk (qc0.blk hk (g' := gb159) (o := .cells #[.int .i64 a1_0, .int .i64 a1_1, .string a1_2, .slice Ao4 l1_3.length co4] 98 (0, 0)) z3_4 NB159_0.out (by simp)); have n2_ := Aside0.mk (qc0.blk hk (g' := gb160) (o := .cells #[.int .i64 0, .int .i64 0, .string (⟨#[]⟩ : ByteArray), .slice none 0 0] 98 (0, 0)) z3_5 NB160_0.out (by simp)); have n3_ := Aside0.mk (Kept.qk1 (S := (fun k_ => (P1_3_ k_) ∨ k_ = g)) z3_1 hk (.inl (.inr rfl))); have n4_ := Aside0.mk (hb); have n5_ := Aside0.mk (hi); clear HO_160003; clear BK159; clear BK160; clear HK; clear HB; clear HI0; have HO_160003 := n0_; have BK159 := n1_; have BK160 := n2_; have HK := n3_; have HB := n4_; have HI0 := n5_; clear n0_ n1_ n2_ n3_ n4_ n5_; (try clear hb); (try clear hb2); (try clear hk); (try clear hi)) | ((with_reducible refine qg0 (f := 61) rfl ?_); refine qt0 (some 22) rfl rfl Try.func61 z3_11 rfl #[.pointer (some ⟨g, 0, none⟩), .int .i64 9] rfl z3_6 ?_; (with_reducible refine (spec_l1Below.calls g s0_0 t165 t166 9 t167 t168 t169 w0 _ ?side1 ?side2 A21.out).mono ?_); (case side1 => exact z3_0); (case side2 => exact z3_2); rintro e w157 ⟨rfl, hi, hb, hk⟩; refine ⟨_, rfl, ?_⟩; have n0_ := Aside0.mk (Kd.qm0 (Kd.qy0 (IsS186.apart (show IsS186 w0 _ g s0_0 t165 t166 from z3_0) z3_7 z3_16) hk (fun _ h => h.2)) (fun _ h => h.1)); have n1_ := Aside0.mk (qc0.blk hk (g' := gb159) (o := .cells #[.int .i64 a1_0, .int .i64 a1_1, .string a1_2, .slice Ao4 l1_3.length co4] 98 (0, 0)) z3_4 NB159_0.out (by simp)); have n2_ := Aside0.mk (qc0.blk hk (g' := gb160) (o := .cells #[.int .i64 0, .int .i64 0, .string (⟨#[]⟩ : ByteArray), .slice none 0 0] 98 (0, 0)) z3_5 NB160_0.out (by simp)); have n3_ := Aside0.mk (Kept.qk1 (S := (fun k_ => (P1_3_ k_) ∨ k_ = g)) z3_1 hk (.inl (.inr rfl))); have n4_ := Aside0.mk (hb); have n5_ := Aside0.mk (hi); clear HO_160003; clear BK159; clear BK160; clear HK; clear HB; clear HI0; have HO_160003 := n0_; have BK159 := n1_; have BK160 := n2_; have HK := n3_; have HB := n4_; have HI0 := n5_; clear n0_ n1_ n2_ n3_ n4_ n5_; (try clear hb); (try clear hb2); (try clear hk); (try clear hi); have hcz158_0 : w157.cell? ⟨gb159, 0, none⟩ = some (.int .i64 a1_0) := (qb0 BK159.out 0).trans rfl; have hcz158_1 : w157.cell? ⟨gb159, 1, none⟩ = some (.int .i64 a1_1) := (qb0 BK159.out 1).trans rfl; have hcz158_2 : w157.cell? ⟨gb159, 2, none⟩ = some (.string a1_2) := (qb0 BK159.out 2).trans rfl; have hcz158_3 : w157.cell? ⟨gb159, 3, none⟩ = some (.slice Ao4 l1_3.length co4) := (qb0 BK159.out 3).trans rfl; have hfz158_0 := qa0 BK159.out 0; have hfz158_1 := qa0 BK159.out 1; have hfz158_2 := qa0 BK159.out 2; have hfz158_3 := qa0 BK159.out 3; have q159 : (t164 : Int) ≤ ((l1_3.length : Int) : Int) := of_decide_eq_true z3_8; obtain ⟨i0159, hi0159, _, hsz159, _⟩ := info_parts info100; have hcut159 := cut_to (P := Try.prog) 96 100 .i64 Try.underlying96 hi0159 Ao4 l1_3.length co4 t164 (of_decide_eq_true z3_8) q159 (Kd.qn0 HO_160003.out).2.1; have hr159 := Kd.R_take (m := (t164 : Int).toNat) HO_160003.out (by omega); have hy159 : y210.length = (t164 : Int).toNat := (by rw [Ny210.out, List.length_take]; omega); rw [← Ny210.out] at hr159; rw [← hy159] at hr159 hcut159; clear hy159 hi0159 hsz159 HO_160003; have HO212 := Aside0.mk hr159; clear hr159; replace q159 := eq_true q159; have hnb160 := NB160_0.out; have hnc160 := NB0_160.out; have hcz161_0 : w157.cell? ⟨gb160, 0, none⟩ = some (.int .i64 0) := (qb0 BK160.out 0).trans rfl; have hcz161_1 : w157.cell? ⟨gb160, 1, none⟩ = some (.int .i64 0) := (qb0 BK160.out 1).trans rfl; have hcz161_2 : w157.cell? ⟨gb160, 2, none⟩ = some (.string (⟨#[]⟩ : ByteArray)) := (qb0 BK160.out 2).trans rfl; have hcz161_3 : w157.cell? ⟨gb160, 3, none⟩ = some (.slice none 0 0) := (qb0 BK160.out 3).trans rfl; have hfz161_0 := qa0 BK160.out 0; have hfz161_1 := qa0 BK160.out 1; have hfz161_2 := qa0 BK160.out 2; have hfz161_3 := qa0 BK160.out 3))
    refine bodyPost_ret (results_cell_row rfl _ _ gb160 98 #[.int .i64 a1_0, .int .i64 a1_1, .string a1_2, .slice Ao4 y210.length co4] (0, 0) _ rfl (by (with_reducible repeat (first | refine qe0 ?_ _ | refine qf0 ?_ | refine qd0 ?_ _)); refine qo0 (cs := #[.int .i64 a1_0, .int .i64 a1_1, .string a1_2, .slice none 0 0]) ?_ 3 _ rfl; (with_reducible repeat (first | refine qe0 ?_ _ | refine qf0 ?_ | refine qd0 ?_ _)); refine qo0 (cs := #[.int .i64 a1_0, .int .i64 a1_1, .string (⟨#[]⟩ : ByteArray), .slice none 0 0]) ?_ 2 _ rfl; (with_reducible repeat (first | refine qe0 ?_ _ | refine qf0 ?_ | refine qd0 ?_ _)); refine qo0 (cs := #[.int .i64 a1_0, .int .i64 0, .string (⟨#[]⟩ : ByteArray), .slice none 0 0]) ?_ 1 _ rfl; (with_reducible repeat (first | refine qe0 ?_ _ | refine qf0 ?_ | refine qd0 ?_ _)); refine qo0 (cs := #[.int .i64 0, .int .i64 0, .string (⟨#[]⟩ : ByteArray), .slice none 0 0]) ?_ 0 _ rfl; (with_reducible repeat (first | refine qe0 ?_ _ | refine qf0 ?_ | refine qd0 ?_ _)); refine blk_far ?_ NB160_159.out _; (with_reducible repeat (first | refine qe0 ?_ _ | refine qf0 ?_ | refine qd0 ?_ _)); exact BK160.out) Try.underlying98 rfl z3_11) rfl ?_
    exact ⟨_, z3_12, by (with_reducible repeat (first | apply Kd.qr0 | apply Kd.qp0 | apply Kd.qu0)); exact Kd.qm0 (Kd.R_far (p := ⟨gb160, 3, none⟩) (Kd.R_far (p := ⟨gb160, 2, none⟩) (Kd.R_far (p := ⟨gb160, 1, none⟩) (Kd.R_far (p := ⟨gb160, 0, none⟩) (Kd.R_far (p := ⟨gb159, 3, none⟩) (Kd.qi1 (Kd.qi1 HO212.out BK159.out z3_16) BK160.out z3_16) (fun _ hk => hk.1.2) (.slice Ao4 y210.length co4)) (fun _ hk => hk.2) (.int .i64 a1_0)) (fun _ hk => hk.2) (.int .i64 a1_1)) (fun _ hk => hk.2) (.string a1_2)) (fun _ hk => hk.2) (.slice Ao4 y210.length co4)) (fun _ hk => hk.1.1), z3_0, z3_2, z3_1⟩
   rw [if_neg c150] at H
   have c150b0 : (t167 == 8) = false := beq_eq_false_iff_ne.mpr c150
   have c150b1 : (t167 != 8) = true := bne_iff_ne.mpr c150
   simp only [Option.some.injEq, Prod.mk.injEq] at H
   obtain ⟨rfl, rfl, rfl, rfl, rfl, rfl⟩ := H
   have hnb162 := NB159_160.out
   have hnc162 := NB160_159.out
   have hnb163 := NB159_0.out
   have hnc163 := NB0_159.out
   have hcz164_0 : wc.cell? ⟨gb159, 0, none⟩ = some (.int .i64 a1_0) := (qb0 BK159.out 0).trans rfl
   have hcz164_1 : wc.cell? ⟨gb159, 1, none⟩ = some (.int .i64 a1_1) := (qb0 BK159.out 1).trans rfl
   have hcz164_2 : wc.cell? ⟨gb159, 2, none⟩ = some (.string a1_2) := (qb0 BK159.out 2).trans rfl
   have hcz164_3 : wc.cell? ⟨gb159, 3, none⟩ = some (.slice Ao4 l1_3.length co4) := (qb0 BK159.out 3).trans rfl
   have hfz164_0 := qa0 BK159.out 0
   have hfz164_1 := qa0 BK159.out 1
   have hfz164_2 := qa0 BK159.out 2
   have hfz164_3 := qa0 BK159.out 3
   go_wp2_with (first | ((with_reducible refine qg0 (f := 61) rfl ?_); refine qt0 (some 20) rfl rfl Try.func61 z3_11 rfl #[.pointer (some ⟨g, 0, none⟩), .int .i64 (l1_3.length : Int)] rfl z3_6 ?_; (with_reducible refine (spec_l1Below.calls g s0_0 x1001_2 x1002_2 (l1_3.length : Int) t164 t165 t166 w0 _ ?side1 ?side2 A20.out).mono ?_); (case side1 => exact z3_0); (case side2 => exact z3_2); rintro e w165 ⟨rfl, hi, hb, hk⟩; refine ⟨_, rfl, ?_⟩; have n0_ := Aside0.mk (Kd.qm0 (Kd.qy0 (IsS186.apart (show IsS186 w0 _ g s0_0 x1001_2 x1002_2 from z3_0) z3_7 z3_16) hk (fun _ h => h.2)) (fun _ h => h.1)); have n1_ := Aside0.mk (qc0.blk hk (g' := gb159) (o := .cells #[.int .i64 a1_0, .int .i64 a1_1, .string a1_2, .slice Ao4 l1_3.length co4] 98 (0, 0)) z3_4 NB159_0.out (by simp)); have n2_ := Aside0.mk (qc0.blk hk (g' := gb160) (o := .cells #[.int .i64 0, .int .i64 0, .string (⟨#[]⟩ : ByteArray), .slice none 0 0] 98 (0, 0)) z3_5 NB160_0.out (by simp)); have n3_ := Aside0.mk (Kept.qk1 (S := (fun k_ => (P1_3_ k_) ∨ k_ = g)) z3_1 hk (.inl (.inr rfl))); have n4_ := Aside0.mk (hb); have n5_ := Aside0.mk (hi); clear HO_160003; clear BK159; clear BK160; clear HK; clear HB; clear HI0; have HO_160003 := n0_; have BK159 := n1_; have BK160 := n2_; have HK := n3_; have HB := n4_; have HI0 := n5_; clear n0_ n1_ n2_ n3_ n4_ n5_; (try clear hb); (try clear hb2); (try clear hk); (try clear hi)) | ((with_reducible refine qg0 (f := 61) rfl ?_); refine qt0 (some 22) rfl rfl Try.func61 z3_11 rfl #[.pointer (some ⟨g, 0, none⟩), .int .i64 9] rfl z3_6 ?_; (with_reducible refine (spec_l1Below.calls g s0_0 t165 t166 9 t167 t168 t169 w0 _ ?side1 ?side2 A21.out).mono ?_); (case side1 => exact z3_0); (case side2 => exact z3_2); rintro e w166 ⟨rfl, hi, hb, hk⟩; refine ⟨_, rfl, ?_⟩; have n0_ := Aside0.mk (Kd.qm0 (Kd.qy0 (IsS186.apart (show IsS186 w0 _ g s0_0 t165 t166 from z3_0) z3_7 z3_16) hk (fun _ h => h.2)) (fun _ h => h.1)); have n1_ := Aside0.mk (qc0.blk hk (g' := gb159) (o := .cells #[.int .i64 a1_0, .int .i64 a1_1, .string a1_2, .slice Ao4 l1_3.length co4] 98 (0, 0)) z3_4 NB159_0.out (by simp)); have n2_ := Aside0.mk (qc0.blk hk (g' := gb160) (o := .cells #[.int .i64 0, .int .i64 0, .string (⟨#[]⟩ : ByteArray), .slice none 0 0] 98 (0, 0)) z3_5 NB160_0.out (by simp)); have n3_ := Aside0.mk (Kept.qk1 (S := (fun k_ => (P1_3_ k_) ∨ k_ = g)) z3_1 hk (.inl (.inr rfl))); have n4_ := Aside0.mk (hb); have n5_ := Aside0.mk (hi); clear HO_160003; clear BK159; clear BK160; clear HK; clear HB; clear HI0; have HO_160003 := n0_; have BK159 := n1_; have BK160 := n2_; have HK := n3_; have HB := n4_; have HI0 := n5_; clear n0_ n1_ n2_ n3_ n4_ n5_; (try clear hb); (try clear hb2); (try clear hk); (try clear hi); have hcz167_0 : w166.cell? ⟨gb159, 0, none⟩ = some (.int .i64 a1_0) := (qb0 BK159.out 0).trans rfl; have hcz167_1 : w166.cell? ⟨gb159, 1, none⟩ = some (.int .i64 a1_1) := (qb0 BK159.out 1).trans rfl; have hcz167_2 : w166.cell? ⟨gb159, 2, none⟩ = some (.string a1_2) := (qb0 BK159.out 2).trans rfl; have hcz167_3 : w166.cell? ⟨gb159, 3, none⟩ = some (.slice Ao4 l1_3.length co4) := (qb0 BK159.out 3).trans rfl; have hfz167_0 := qa0 BK159.out 0; have hfz167_1 := qa0 BK159.out 1; have hfz167_2 := qa0 BK159.out 2; have hfz167_3 := qa0 BK159.out 3; have hnb168 := NB160_0.out; have hnc168 := NB0_160.out; have hcz169_0 : w166.cell? ⟨gb160, 0, none⟩ = some (.int .i64 0) := (qb0 BK160.out 0).trans rfl; have hcz169_1 : w166.cell? ⟨gb160, 1, none⟩ = some (.int .i64 0) := (qb0 BK160.out 1).trans rfl; have hcz169_2 : w166.cell? ⟨gb160, 2, none⟩ = some (.string (⟨#[]⟩ : ByteArray)) := (qb0 BK160.out 2).trans rfl; have hcz169_3 : w166.cell? ⟨gb160, 3, none⟩ = some (.slice none 0 0) := (qb0 BK160.out 3).trans rfl; have hfz169_0 := qa0 BK160.out 0; have hfz169_1 := qa0 BK160.out 1; have hfz169_2 := qa0 BK160.out 2; have hfz169_3 := qa0 BK160.out 3))
   refine bodyPost_ret (results_cell_row rfl _ _ gb160 98 #[.int .i64 a1_0, .int .i64 a1_1, .string a1_2, .slice Ao4 l1_3.length co4] (0, 0) _ rfl z3_3 Try.underlying98 rfl z3_11) rfl ?_
   exact ⟨_, z3_12, z3_13, z3_0, z3_2, z3_1⟩

end Go.Proofs.Ytkkdmmefnicmaaa.PFnChained
