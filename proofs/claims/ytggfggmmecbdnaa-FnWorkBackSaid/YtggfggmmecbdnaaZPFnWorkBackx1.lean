/- Lines by a program (a changed copy of the kit's print: this repo's wip/tools): Go functions as Lean functions, and proofs that the calls answer so. -/
import Derived.Test.YtggfggmmecbdnaaZPFnWorkBackx0
namespace Go.Proofs.Ytggfggmmecbdnaa.PFnWorkBack
open Go.RowKit Go.Proofs.YtggfggmmecbdnaaW.PrintWords Go.Proofs.YtggfggmmecbdnaaW.PrintLast Go.Proofs.YtggfggmmecbdnaaW.PrintMore
/-- Closing blocks told once. -/
theorem z1_0 {P : Prop} (h : P := by repeat (first | (with_reducible first | exact HI0.out | apply IsS66.alloc | apply IsS66.drewN | apply IsS66.drew | apply IsS66.set_1 | apply IsS66.set_2 | refine IsS66.far ?_ NB0_127.out _ | refine IsS66.far ?_ NB0_134.out _) | exact HI0.out)) : P := h
theorem z1_1 {P : Prop} (h : P := by repeat (first | (with_reducible first | exact HB.out | apply qh0 | apply qe0 | apply qi0 | refine qo0 ?_ (IsS66.ge HI0.out) | refine qo0 ?_ GE127.out | refine qo0 ?_ GE134.out) | exact HB.out)) : P := h
theorem z1_2 {P : Prop} (h : P := by repeat (first | (with_reducible first | exact HK.out | apply qd0.set_ | apply keep_drewN | apply keep_drew | apply keep_alloc | refine keep_far ?_ GW127.out _ | refine keep_far ?_ GW134.out _) | exact HK.out)) : P := h
theorem z1_3 {P : Prop} (h : P := by repeat (first | (with_reducible first | exact HI0.out | apply IsS66.alloc | apply IsS66.drewN | apply IsS66.drew | apply IsS66.set_1 | apply IsS66.set_2) | exact HI0.out)) : P := h
theorem z1_4 {P : Prop} (h : P := by repeat (first | (with_reducible first | exact HB.out | apply qh0 | apply qe0 | apply qi0 | refine qo0 ?_ (IsS66.ge HI0.out)) | exact HB.out)) : P := h
theorem z1_5 {P : Prop} (h : P := by repeat (first | (with_reducible first | exact HK.out | apply qd0.set_ | apply keep_drewN | apply keep_drew | apply keep_alloc) | exact HK.out)) : P := h
theorem z1_6 {P : Prop} (h : P := by (try simp only [List.map_toArray, List.map_cons, List.map_nil]); first | done | rfl | (simp only [List.length_drop, List.length_take]; rfl)) : P := h
theorem z1_7 {P : Prop} (h : P := by (with_reducible repeat (first | refine qj0 ?_ _ | refine qk0 ?_ | refine qg0 ?_ _)); exact BK127.out) : P := h
theorem z1_8 {P : Prop} (h : P := by (with_reducible repeat (first | refine qj0 ?_ _ | refine qk0 ?_ | refine qg0 ?_ _)); refine qy0 (cs := #[.int .i64 x135000_24, .slice none 0 0]) ?_ 1 _ rfl; (with_reducible repeat (first | refine qj0 ?_ _ | refine qk0 ?_ | refine qg0 ?_ _)); refine qy0 (cs := #[.int .i64 0, .slice none 0 0]) ?_ 0 _ rfl; (with_reducible repeat (first | refine qj0 ?_ _ | refine qk0 ?_ | refine qg0 ?_ _)); exact BK127.out) : P := h
theorem z1_9 {P : Prop} (h : P := by (with_reducible repeat (first | refine qj0 ?_ _ | refine qk0 ?_ | refine qg0 ?_ _)); exact BK134.out) : P := h
theorem z1_10 {P : Prop} (h : P := by repeat (first | (with_reducible first | exact HI0.out | apply IsS66.alloc | apply IsS66.drewN | apply IsS66.drew | apply IsS66.set_1 | apply IsS66.set_2 | refine IsS66.far ?_ NB0_127.out _) | exact HI0.out)) : P := h
theorem z1_11 {P : Prop} (h : P := by (with_reducible repeat (first | apply Kd.qx0 | apply Kd.qw0 | apply Kd.R_drew)); exact HO_135001.out) : P := h
theorem z1_12 {P : Prop} (h : P := by repeat (first | (with_reducible first | exact HK.out | apply qd0.set_ | apply keep_drewN | apply keep_drew | apply keep_alloc | refine keep_far ?_ GW127.out _) | exact HK.out)) : P := h
theorem z1_13 {P : Prop} (h : P := by first | rfl | (simp [errW_none, errW_some] <;> rfl) | (simp [*, errW_none, errW_some] <;> rfl)) : P := h
theorem z1_14 {P : Prop} (h : P := by repeat (first | (with_reducible first | exact HBW.out | apply qh0 | apply qe0 | apply qi0) | exact HBW.out)) : P := h
theorem z1_15 {P : Prop} (h : P := by rw [hg]; exact (below_size (by repeat (first | (with_reducible first | exact HBW.out | apply qh0 | apply qe0 | apply qi0) | exact HBW.out)))) : P := h
theorem z1_16 {P : Prop} (h : P := by repeat (first | (with_reducible first | exact HB.out | apply qh0 | apply qe0 | apply qi0 | refine qo0 ?_ (IsS66.ge HI0.out) | refine qo0 ?_ GE127.out) | exact HB.out)) : P := h
theorem z1_17 {P : Prop} (h : P := by repeat (first | (with_reducible first | exact HB.out | apply qh0 | apply qe0 | apply qi0) | exact HB.out)) : P := h
theorem z1_18 {P : Prop} (h : P := by (with_reducible repeat (first | refine qj0 ?_ _ | refine qk0 ?_ | refine qg0 ?_ _)); refine blk_far ?_ NB127_134.out _; (with_reducible repeat (first | refine qj0 ?_ _ | refine qk0 ?_ | refine qg0 ?_ _)); exact BK127.out) : P := h
theorem z1_19 {P : Prop} (h : P := by rw [hg]; exact (keep_size (w := w) (g := g) (row := none) (by repeat (first | (with_reducible first | exact HK.out | apply qd0.set_ | apply keep_drewN | apply keep_drew | apply keep_alloc | refine keep_far ?_ GW127.out _) | exact HK.out)))) : P := h
theorem z1_20 {P : Prop} (h : P := by rw [hg]; exact (keep_size (w := w) (g := g) (row := none) (by repeat (first | (with_reducible first | exact HK.out | apply qd0.set_ | apply keep_drewN | apply keep_drew | apply keep_alloc) | exact HK.out)))) : P := h
theorem z1_21 {P : Prop} (h : P := by first | rfl | (simp; done) | (simp [*]; done)) : P := h
theorem z1_22 {P : Prop} (h : P := by first | (with_reducible assumption) | assumption) : P := h
theorem z1_23 {P : Prop} (h : P := by kernel_rfl) : P := h
theorem z1_24 {P : Prop} (h : P := by first | (go_simp; done) | (go_simp; rfl)) : P := h
attribute [local go_sem] max2_int min2_int max_two min_two max_three min_three max_four min_four   -- for this text's walks alone
set_option linter.unusedVariables false
set_option linter.unusedSimpArgs false

/-! ### laws_big: function 5 -/
def laws_big.f (l0 : List Int) : Option (Bool) := some (decide ((l0.length : Int) > 1048576))
set_option maxHeartbeats 8000000 in
set_option maxRecDepth 100000 in
theorem laws_big.calls (A0 : Option Addr) (c0 : Nat) (l0 : List Int) (r : Bool) (w : World) (hr0 : Kd.C (Kd.int .u8) w A0 l0.length l0) (hc0 : l0.length ≤ c0) (h : laws_big.f l0 = some r) :
  Calls Try.prog 5 #[.slice A0 l0.length c0] w fun e w' => e = .returned (.bool r) ∧ Drawn0 w w' := by
 have HR0 := Aside0.mk hr0
 have HC0 := Aside0.mk hc0
 clear hr0 hc0
 have H : (some (decide ((l0.length : Int) > 1048576))) = some r := h
 clear h
 obtain rfl := Option.some.inj H
 go_enter Try.func5, Try.ntmps5
 go_wp2
 go_ret
 exact ⟨z1_21, by repeat (first | exact Drawn0.refl _ | apply Drawn0.step)⟩

/-- A state of type 66 at block g of W; what its slices lead to came in by w0. -/
def IsS66 (w0 W : World) (g : Nat) (f0 : List Int) (f1 : Int) (f2 : Int) : Prop := ∃ A0 c0, W.heap[g]? = some (.cells #[.slice A0 f0.length c0, .int .i64 f1, .int .i64 f2] 66 (0, 0)) ∧ w0.heap.size ≤ g ∧ Kd.C (Kd.int .u8) w0 A0 f0.length f0
theorem IsS66.grown {w0 W : World} {g : Nat} {f0 : List Int} {f1 : Int} {f2 : Int} {W1 : World} {row : Option Nat} (h : IsS66 w0 W g f0 f1 f2) (hw : W.grownBy W1 row) (hne : some g ≠ row) : IsS66 w0 W1 g f0 f1 f2 := by
 obtain ⟨A0, c0, hb, hg, hr0⟩ := h
 exact ⟨A0, c0, blk_grown hb hw hne, hg, hr0⟩
theorem IsS66.kept {w0 W : World} {g : Nat} {f0 : List Int} {f1 : Int} {f2 : Int} {W1 : World} {S : Nat → Prop} (h : IsS66 w0 W g f0 f1 f2) (hk : Kept W W1 S) (hne : ¬ S g) : IsS66 w0 W1 g f0 f1 f2 := by
 obtain ⟨A0, c0, hb, hg, hr0⟩ := h
 exact ⟨A0, c0, blk_kept hb hk hne, hg, hr0⟩
theorem IsS66.below {w0 W : World} {g : Nat} {f0 : List Int} {f1 : Int} {f2 : Int} {W1 : World} (h : IsS66 w0 W g f0 f1 f2) (hw : Below W.heap.size W W1) : IsS66 w0 W1 g f0 f1 f2 := h.grown (grown_of_below hw none) (by simp)
theorem IsS66.alloc {w0 W : World} {g : Nat} {f0 : List Int} {f1 : Int} {f2 : Int} (h : IsS66 w0 W g f0 f1 f2) (o : Obj) : IsS66 w0 (W.alloc o) g f0 f1 f2 := h.below (qh0 (Below.refl _ _) o)
theorem IsS66.drewN {w0 W : World} {g : Nat} {f0 : List Int} {f1 : Int} {f2 : Int} (h : IsS66 w0 W g f0 f1 f2) (m : Nat) : IsS66 w0 (W.drewN m) g f0 f1 f2 := h
theorem IsS66.drew {w0 W : World} {g : Nat} {f0 : List Int} {f1 : Int} {f2 : Int} (h : IsS66 w0 W g f0 f1 f2) : IsS66 w0 W.drew g f0 f1 f2 := h
theorem IsS66.at_ {w0 W : World} {g : Nat} {f0 : List Int} {f1 : Int} {f2 : Int} {w' : World} {m : Nat} (hq : W.drewN m = w') (h : IsS66 w0 W g f0 f1 f2) : IsS66 w0 w' g f0 f1 f2 := by subst hq; exact IsS66.drewN h m
theorem IsS66.apart {w0 W : World} {g : Nat} {f0 : List Int} {f1 : Int} {f2 : Int} {α : Type} {d : Kd α} {e : Nat} {base : Nat} {ok : Nat → Prop} {v : Value} {xs : List α} (h : IsS66 w0 W g f0 f1 f2) (ho : d.R e W base ok v xs) (ht : ∀ q, q ∈ e :: d.E → q ≠ 66) : d.R e W base (fun k => ok k ∧ k ≠ g) v xs := by
 obtain ⟨A0, c0, hb, hg, hr0⟩ := h
 exact Kd.R_types ho hb ht
theorem IsS66.own_ne {w0 W : World} {g : Nat} {f0 : List Int} {f1 : Int} {f2 : Int} {α : Type} {d : Kd α} {e : Nat} {base : Nat} {ok : Nat → Prop} {v : Value} {xs : List α} (h : IsS66 w0 W g f0 f1 f2) (ho : d.R e W base ok v xs) (ht : e ≠ 66) : some g ≠ v.ownBlock := by
 obtain ⟨A0, c0, hb, hg, hr0⟩ := h
 exact Kd.R_ne ho hb ht
theorem IsS66.lt {w0 W : World} {g : Nat} {f0 : List Int} {f1 : Int} {f2 : Int} (h : IsS66 w0 W g f0 f1 f2) : g < W.heap.size := by
 obtain ⟨A0, c0, hb, hg, hr0⟩ := h
 exact qu0 hb
theorem IsS66.ge {w0 W : World} {g : Nat} {f0 : List Int} {f1 : Int} {f2 : Int} (h : IsS66 w0 W g f0 f1 f2) : w0.heap.size ≤ g := by
 obtain ⟨A0, c0, hb, hg, hr0⟩ := h
 exact hg
theorem IsS66.ne_blk {w0 W : World} {g : Nat} {f0 : List Int} {f1 : Int} {f2 : Int} {a : Nat} {cs : Array Value} {t : TypeId} {fr : Nat × Nat} (h : IsS66 w0 W g f0 f1 f2) (hb2 : W.heap[a]? = some (.cells cs t fr)) (ht : t ≠ 66) : g ≠ a := by
 obtain ⟨A0, c0, hb, hg, hr0⟩ := h
 rintro rfl
 rw [hb] at hb2
 injection hb2 with hb2
 injection hb2 with _ ht2
 exact ht ht2.symm
theorem IsS66.far {w0 W : World} {g : Nat} {f0 : List Int} {f1 : Int} {f2 : Int} {p : Addr} (h : IsS66 w0 W g f0 f1 f2) (hne : g ≠ p.block) (u : Value) : IsS66 w0 (W.setCell p u) g f0 f1 f2 := by
 obtain ⟨A0, c0, hb, hg, hr0⟩ := h
 exact ⟨A0, c0, blk_far hb hne u, hg, hr0⟩
theorem cellS66_0 {W : World} {g : Nat} {A0 : Option Addr} {c0 : Nat} {f0 : List Int} {f1 : Int} {f2 : Int} (h : W.heap[g]? = some (.cells #[.slice A0 f0.length c0, .int .i64 f1, .int .i64 f2] 66 (0, 0))) : W.cell? ⟨g, 0, none⟩ = some (.slice A0 f0.length c0) := (qb0 h 0).trans rfl
theorem cellS66_1 {W : World} {g : Nat} {A0 : Option Addr} {c0 : Nat} {f0 : List Int} {f1 : Int} {f2 : Int} (h : W.heap[g]? = some (.cells #[.slice A0 f0.length c0, .int .i64 f1, .int .i64 f2] 66 (0, 0))) : W.cell? ⟨g, 1, none⟩ = some (.int .i64 f1) := (qb0 h 1).trans rfl
theorem IsS66.set_1 {w0 W : World} {g : Nat} {f0 : List Int} {f1 : Int} {f2 : Int} (h : IsS66 w0 W g f0 f1 f2) (x : Int) : IsS66 w0 (W.setCell ⟨g, 1, none⟩ (.int .i64 x)) g f0 x f2 := by
 obtain ⟨A0, c0, hb, hg, hr0⟩ := h
 exact ⟨A0, c0, by simpa using blk_set hb 1 (.int .i64 x), hg, hr0⟩
theorem cellS66_2 {W : World} {g : Nat} {A0 : Option Addr} {c0 : Nat} {f0 : List Int} {f1 : Int} {f2 : Int} (h : W.heap[g]? = some (.cells #[.slice A0 f0.length c0, .int .i64 f1, .int .i64 f2] 66 (0, 0))) : W.cell? ⟨g, 2, none⟩ = some (.int .i64 f2) := (qb0 h 2).trans rfl
theorem IsS66.set_2 {w0 W : World} {g : Nat} {f0 : List Int} {f1 : Int} {f2 : Int} (h : IsS66 w0 W g f0 f1 f2) (x : Int) : IsS66 w0 (W.setCell ⟨g, 2, none⟩ (.int .i64 x)) g f0 f1 x := by
 obtain ⟨A0, c0, hb, hg, hr0⟩ := h
 exact ⟨A0, c0, by simpa using blk_set hb 2 (.int .i64 x), hg, hr0⟩
/-! ### spec_l1New: function 18 -/
def spec_l1New.l0 : Nat → List Int → Int → Int → Option (List Int × Int × Int)
 | 0, _, _, _ => none
 | k + 1, x0, x3, x4 => if x4 < (x0.length : Int) then (if x4 < 4000 then (if 0 ≤ x4 then (spec_l1New.l0 k x0 (Go.bits .and .i64 (wrap64 ((wrap64 ((wrap64 (x3 * 131)) + (wrap64 (rd x0 x4)))) + 7)) 1073741823) (wrap64 (x4 + 1))) else (none)) else (some (x0, 0, x3))) else (some (x0, 0, x3))
def spec_l1New.f (k : Nat) (l0 : List Int) : Option (List Int × Int × Int) := spec_l1New.l0 k l0 (wrap64 (71933 + (l0.length : Int))) 0
theorem spec_l1New.mono_l : ∀ k, (∀ y0 y1 y2, LeO (spec_l1New.l0 k y0 y1 y2) (spec_l1New.l0 (k + 1) y0 y1 y2))
 | 0 => fun _ _ _ r h => by simp [spec_l1New.l0] at h
 | k + 1 => by
  have ih0 := spec_l1New.mono_l k
  ·intro y0 y1 y2
   unfold spec_l1New.l0
   repeat' first
   | (with_reducible exact ih0 _ _ _)
   | (with_reducible exact LeO.refl _)
   | (with_reducible exact LeO.none _)
   | (with_reducible refine LeO.ite ?_ ?_)
   | (with_reducible refine LeO.bind ?_ (fun _ => ?_))
   | exact ih0 _ _ _
   | exact LeO.none _
   | refine LeO.ite ?_ ?_
   | refine LeO.bind ?_ (fun _ => ?_)
theorem spec_l1New.mono : ∀ a0 k, LeO (spec_l1New.f k a0) (spec_l1New.f (k + 1) a0) := by
 intro a0 k
 have ih0 := spec_l1New.mono_l k
 unfold spec_l1New.f
 repeat' first
   | (with_reducible exact ih0 _ _ _)
   | (with_reducible exact LeO.refl _)
   | (with_reducible exact LeO.none _)
   | (with_reducible refine LeO.ite ?_ ?_)
   | (with_reducible refine LeO.bind ?_ (fun _ => ?_))
   | exact ih0 _ _ _
   | exact LeO.none _
   | refine LeO.ite ?_ ?_
   | refine LeO.bind ?_ (fun _ => ?_)
set_option maxHeartbeats 8000000 in
set_option maxRecDepth 100000 in
theorem spec_l1New.calls (k : Nat) (A0 : Option Addr) (c0 : Nat) (l0 : List Int) (r1 : List Int) (r2 : Int) (r3 : Int) (w0 w : World) (hB : Below w0.heap.size w0 w) (hr0 : Kd.C (Kd.int .u8) w0 A0 l0.length l0) (hc0 : l0.length ≤ c0) (h : spec_l1New.f k l0 = some (r1, r2, r3)) :
  Calls Try.prog 18 #[.slice A0 l0.length c0] w fun e w' => ∃ g_ : Nat, e = .returned (.pointer (some ⟨g_, 0, none⟩)) ∧ IsS66 w0 w' g_ r1 r2 r3 ∧ Below w0.heap.size w0 w' ∧ Below w.heap.size w w' := by
 have hu66 := Try.underlying66
 have HR0 := Aside0.mk hr0
 have HC0 := Aside0.mk hc0
 clear hr0 hc0
 have HBW := Aside0.mk (Below.refl w.heap.size w)
 have HW0 := Aside0.mk hB.size
 have HB := Aside0.mk hB
 clear hB
 have H : (spec_l1New.l0 k l0 (wrap64 (71933 + (l0.length : Int))) 0) = some (r1, r2, r3) := h
 clear h
 have H' := Aside0.mk H
 clear H
 go_enter Try.func18, Try.ntmps18
 go_wp2
 go_loopg [3, 4] k (fun kq v3 v4 w' => ∃ (x3_1 : Int) (x4_1 : Int), v3 = .int .i64 x3_1 ∧ v4 = .int .i64 x4_1 ∧ Aside0 (spec_l1New.l0 kq l0 x3_1 x4_1 = some (r1, r2, r3)) ∧ Aside0 (kq ≤ k) ∧ Aside0 (Below w.heap.size w w') ∧ Aside0 (Below w0.heap.size w0 w'))
 case atStart => exact ⟨(wrap64 (71933 + (l0.length : Int))), (0), z1_21, z1_21, H', ⟨Nat.le_refl _⟩, ⟨z1_14⟩, ⟨z1_17⟩⟩
 case round =>
  clear H'
  try clear c1
  obtain ⟨x3_1, x4_1, rfl, rfl, HA, HK1, HBW, HB⟩ := hrel
  cases gk with
  | zero => exact absurd HA.out (by simp [spec_l1New.l0])
  | succ k1 =>
   have H := HA.out
   clear HA
   simp only [spec_l1New.l0] at H
   by_cases c2 : x4_1 < (l0.length : Int)
   ·rw [if_pos c2] at H
    have c2b0 : decide (x4_1 < (l0.length : Int)) = true := decide_eq_true c2
    clear c2
    by_cases c3 : x4_1 < 4000
    ·rw [if_pos c3] at H
     have c3b0 : decide (x4_1 < 4000) = true := decide_eq_true c3
     clear c3
     by_cases c4 : 0 ≤ x4_1
     case neg => rw [if_neg c4] at H; exact absurd H (by simp)
     rw [if_pos c4] at H
     have c4b0 : decide (0 ≤ x4_1) = true := decide_eq_true c4
     clear c4
     have H' := Aside0.mk H
     clear H
     have p101 : 0 ≤ (x4_1 : Int) := of_decide_eq_true z1_22
     have q101 : x4_1 < (l0.length : Int) := of_decide_eq_true z1_22
     obtain ⟨ad101, e101, hx101_0⟩ := Kd.qa1 HR0.out x4_1 p101 q101
     cases e101
     replace hx101_0 := pw_cell_below HB.out hx101_0
     replace p101 := eq_true p101
     replace q101 := eq_true q101
     go_wp2
     go_roundg k1
     case measure => have := HK1.out; omega
     case rel => exact ⟨(Go.bits .and .i64 (wrap64 ((wrap64 ((wrap64 (x3_1 * 131)) + (wrap64 (rd l0 x4_1)))) + 7)) 1073741823), (wrap64 (x4_1 + 1)), z1_21, z1_21, H', ⟨by have := HK1.out; omega⟩, ⟨z1_14⟩, ⟨z1_17⟩⟩
    rw [if_neg c3] at H
    have c3b0 : decide (x4_1 < 4000) = false := decide_eq_false c3
    clear c3
    simp only [Option.some.injEq, Prod.mk.injEq] at H
    obtain ⟨rfl, rfl, rfl⟩ := H
    go_wp2_with (first | ((with_reducible refine qs0 (N := 31) rfl ?_); refine qr0 ?hg (N := 31) ?hd (cs := #[.slice A0 l0.length c0, .int .i64 0, .int .i64 x3_1]) (t := 66) ?hr ?_; (case hd => rfl); (case hg => rfl); (case hr => exact z1_24); intro gb102 hg w5 hbox hb; have n0_ := Aside0.mk (qf0 HBW.out hb); have n1_ := Aside0.mk (qf0 z1_17 hb); have n2_ := Aside0.mk (hbox); have n3_ := Aside0.mk ((z1_15 : w.heap.size ≤ gb102)); have n4_ := Aside0.mk ((Nat.le_trans HW0.out (z1_15 : w.heap.size ≤ gb102) : w0.heap.size ≤ gb102)); clear HBW; clear HB; have HBW := n0_; have HB := n1_; have BK102 := n2_; have GW102 := n3_; have GE102 := n4_; clear n0_ n1_ n2_ n3_ n4_; clear hb hbox hg))
    go_ret
    exact ⟨_, rfl, (show IsS66 w0 _ gb102 l0 0 x3_1 from ⟨_, _, by (with_reducible repeat (first | refine qj0 ?_ _ | refine qk0 ?_ | refine qg0 ?_ _)); exact BK102.out, GE102.out, HR0.out⟩), by repeat (first | (with_reducible first | exact HB.out | apply qh0 | apply qe0 | apply qi0 | refine qo0 ?_ GE102.out) | exact HB.out), by repeat (first | (with_reducible first | exact HBW.out | apply qh0 | apply qe0 | apply qi0 | refine qo0 ?_ GW102.out) | exact HBW.out)⟩
   rw [if_neg c2] at H
   have c2b0 : decide (x4_1 < (l0.length : Int)) = false := decide_eq_false c2
   clear c2
   simp only [Option.some.injEq, Prod.mk.injEq] at H
   obtain ⟨rfl, rfl, rfl⟩ := H
   go_wp2_with (first | ((with_reducible refine qs0 (N := 31) rfl ?_); refine qr0 ?hg (N := 31) ?hd (cs := #[.slice A0 l0.length c0, .int .i64 0, .int .i64 x3_1]) (t := 66) ?hr ?_; (case hd => rfl); (case hg => rfl); (case hr => exact z1_24); intro gb103 hg w6 hbox hb; have n0_ := Aside0.mk (qf0 HBW.out hb); have n1_ := Aside0.mk (qf0 z1_17 hb); have n2_ := Aside0.mk (hbox); have n3_ := Aside0.mk ((z1_15 : w.heap.size ≤ gb103)); have n4_ := Aside0.mk ((Nat.le_trans HW0.out (z1_15 : w.heap.size ≤ gb103) : w0.heap.size ≤ gb103)); clear HBW; clear HB; have HBW := n0_; have HB := n1_; have BK103 := n2_; have GW103 := n3_; have GE103 := n4_; clear n0_ n1_ n2_ n3_ n4_; clear hb hbox hg))
   go_ret
   exact ⟨_, rfl, (show IsS66 w0 _ gb103 l0 0 x3_1 from ⟨_, _, by (with_reducible repeat (first | refine qj0 ?_ _ | refine qk0 ?_ | refine qg0 ?_ _)); exact BK103.out, GE103.out, HR0.out⟩), by repeat (first | (with_reducible first | exact HB.out | apply qh0 | apply qe0 | apply qi0 | refine qo0 ?_ GE103.out) | exact HB.out), by repeat (first | (with_reducible first | exact HBW.out | apply qh0 | apply qe0 | apply qi0 | refine qo0 ?_ GW103.out) | exact HBW.out)⟩

/-! ### spec_l1Byte: function 45 -/
def spec_l1Byte.f (s0_0 : List Int) (s0_1 : Int) (s0_2 : Int) : Option (Int × Int × Int) := if s0_1 < (s0_0.length : Int) then (if 0 ≤ s0_1 then (some (Go.bits .and .i64 (wrap64 ((Go.bits .and .i64 (Go.bits .xor .i64 ((wrap64 ((wrap64 (s0_2 * 6364136223846793005)) + 1442695040888963407)) / 8589934592) ((wrap64 ((wrap64 (s0_2 * 6364136223846793005)) + 1442695040888963407)) / 35184372088832)) 255) + (wrap64 (rd s0_0 s0_1)))) 255, wrap64 (s0_1 + 1), wrap64 ((wrap64 (s0_2 * 6364136223846793005)) + 1442695040888963407))) else (none)) else (some (Go.bits .and .i64 (Go.bits .xor .i64 ((wrap64 ((wrap64 (s0_2 * 6364136223846793005)) + 1442695040888963407)) / 8589934592) ((wrap64 ((wrap64 (s0_2 * 6364136223846793005)) + 1442695040888963407)) / 35184372088832)) 255, s0_1, wrap64 ((wrap64 (s0_2 * 6364136223846793005)) + 1442695040888963407)))
set_option maxHeartbeats 8000000 in
set_option maxRecDepth 100000 in
theorem spec_l1Byte.calls (g : Nat) (s0_0 : List Int) (s0_1 : Int) (s0_2 : Int) (r1 : Int) (r2 : Int) (r3 : Int) (w0 w : World) (hI : IsS66 w0 w g s0_0 s0_1 s0_2) (hB : Below w0.heap.size w0 w) (h : spec_l1Byte.f s0_0 s0_1 s0_2 = some (r1, r2, r3)) :
  Calls Try.prog 45 #[.pointer (some ⟨g, 0, none⟩)] w fun e w' => e = .returned (.int .i64 r1) ∧ IsS66 w0 w' g s0_0 r2 r3 ∧ Below w0.heap.size w0 w' ∧ qd0 w w' g none := by
 have HI0 := Aside0.mk hI
 have HK := Aside0.mk (qd0.refl w g none)
 have HL := Aside0.mk hB.size
 clear hI
 have HW0 := Aside0.mk hB.size
 have HB := Aside0.mk hB
 clear hB
 have H : (if s0_1 < (s0_0.length : Int) then (if 0 ≤ s0_1 then (some (Go.bits .and .i64 (wrap64 ((Go.bits .and .i64 (Go.bits .xor .i64 ((wrap64 ((wrap64 (s0_2 * 6364136223846793005)) + 1442695040888963407)) / 8589934592) ((wrap64 ((wrap64 (s0_2 * 6364136223846793005)) + 1442695040888963407)) / 35184372088832)) 255) + (wrap64 (rd s0_0 s0_1)))) 255, wrap64 (s0_1 + 1), wrap64 ((wrap64 (s0_2 * 6364136223846793005)) + 1442695040888963407))) else (none)) else (some (Go.bits .and .i64 (Go.bits .xor .i64 ((wrap64 ((wrap64 (s0_2 * 6364136223846793005)) + 1442695040888963407)) / 8589934592) ((wrap64 ((wrap64 (s0_2 * 6364136223846793005)) + 1442695040888963407)) / 35184372088832)) 255, s0_1, wrap64 ((wrap64 (s0_2 * 6364136223846793005)) + 1442695040888963407)))) = some (r1, r2, r3) := h
 clear h
 by_cases c2 : s0_1 < (s0_0.length : Int)
 ·rw [if_pos c2] at H
  have c2b0 : decide (s0_1 < (s0_0.length : Int)) = true := decide_eq_true c2
  clear c2
  by_cases c3 : 0 ≤ s0_1
  case neg => rw [if_neg c3] at H; exact absurd H (by simp)
  rw [if_pos c3] at H
  have c3b0 : decide (0 ≤ s0_1) = true := decide_eq_true c3
  clear c3
  simp only [Option.some.injEq, Prod.mk.injEq] at H
  obtain ⟨rfl, rfl, rfl⟩ := H
  obtain ⟨ASz4_0, cSz4_0, HGz4, hgz4, HSz4_0⟩ := HI0.out
  have hcz4_0 := cellS66_0 HGz4
  have hcz4_1 := cellS66_1 HGz4
  have hcz4_2 := cellS66_2 HGz4
  have hfz4_1 := qa0 HGz4 1
  have hfz4_2 := qa0 HGz4 2
  clear HGz4 hgz4
  have p104 : 0 ≤ (s0_1 : Int) := of_decide_eq_true z1_22
  have q104 : s0_1 < (s0_0.length : Int) := of_decide_eq_true z1_22
  obtain ⟨ad104, e104, hx104_0⟩ := Kd.qa1 HSz4_0 s0_1 p104 q104
  cases e104
  have hn104_0 : ad104.block ≠ g := Nat.ne_of_lt (Nat.lt_of_lt_of_le (by have := World.block_lt_of_cell? _ _ hx104_0; first | rwa [add_block] at this | exact this) (IsS66.ge HI0.out))
  replace hx104_0 := pw_cell_below HB.out hx104_0
  replace hx104_0 := (cell_far (p := ⟨g, 2, none⟩) (by first | (rw [add_block]; exact hn104_0) | (show (Addr.add _ _).block ≠ _; rw [add_block]; exact hn104_0) | exact hn104_0) (.int .i64 (wrap64 ((wrap64 (s0_2 * 6364136223846793005)) + 1442695040888963407)))).trans hx104_0
  (try have hy104_0 := fun (n_ : Nat) => (show (((w.drewN n_).setCell ⟨g, 2, none⟩ (.int .i64 (wrap64 ((wrap64 (s0_2 * 6364136223846793005)) + 1442695040888963407))))).cell? _ = some _ from hx104_0))
  clear hn104_0
  replace p104 := eq_true p104
  replace q104 := eq_true q104
  go_enter Try.func45, Try.ntmps45
  go_wp2
  repeat (go_quiet (fail); try go_wp2)
  go_ret
  exact ⟨z1_13, z1_3, z1_4, z1_5⟩
 rw [if_neg c2] at H
 have c2b0 : decide (s0_1 < (s0_0.length : Int)) = false := decide_eq_false c2
 clear c2
 simp only [Option.some.injEq, Prod.mk.injEq] at H
 obtain ⟨rfl, rfl, rfl⟩ := H
 obtain ⟨ASz5_0, cSz5_0, HGz5, hgz5, HSz5_0⟩ := HI0.out
 have hcz5_0 := cellS66_0 HGz5
 have hcz5_1 := cellS66_1 HGz5
 have hcz5_2 := cellS66_2 HGz5
 have hfz5_1 := qa0 HGz5 1
 have hfz5_2 := qa0 HGz5 2
 clear HGz5 hgz5
 go_enter Try.func45, Try.ntmps45
 go_wp2
 repeat (go_quiet (fail); try go_wp2)
 go_ret
 exact ⟨z1_13, z1_3, z1_4, z1_5⟩

/-! ### spec_l1Below: function 23 -/
def spec_l1Below.f (s0_0 : List Int) (s0_1 : Int) (s0_2 : Int) (a1 : Int) : Option (Int × Int × Int) := if a1 ≤ 0 then (some (0, s0_1, s0_2)) else (if a1 ≤ 256 then ((spec_l1Byte.f s0_0 s0_1 s0_2).bind fun bt105 => (if a1 = 0 then (none) else (some (Int.tmod bt105.1 a1, bt105.2.1, bt105.2.2)))) else ((spec_l1Byte.f s0_0 s0_1 s0_2).bind fun bt108 => ((spec_l1Byte.f s0_0 bt108.2.1 bt108.2.2).bind fun bt111 => ((spec_l1Byte.f s0_0 bt111.2.1 bt111.2.2).bind fun bt114 => ((spec_l1Byte.f s0_0 bt114.2.1 bt114.2.2).bind fun bt117 => (if a1 = 0 then (none) else (some (Int.tmod (wrap64 ((wrap64 ((wrap64 ((wrap64 (bt108.1 * 16777216)) + (wrap64 (bt111.1 * 65536)))) + (wrap64 (bt114.1 * 256)))) + bt117.1)) a1, bt117.2.1, bt117.2.2))))))))
set_option maxHeartbeats 8000000 in
set_option maxRecDepth 100000 in
theorem spec_l1Below.calls (g : Nat) (s0_0 : List Int) (s0_1 : Int) (s0_2 : Int) (a1 : Int) (r1 : Int) (r2 : Int) (r3 : Int) (w0 w : World) (hI : IsS66 w0 w g s0_0 s0_1 s0_2) (hB : Below w0.heap.size w0 w) (h : spec_l1Below.f s0_0 s0_1 s0_2 a1 = some (r1, r2, r3)) :
  Calls Try.prog 23 #[.pointer (some ⟨g, 0, none⟩), .int .i64 a1] w fun e w' => e = .returned (.int .i64 r1) ∧ IsS66 w0 w' g s0_0 r2 r3 ∧ Below w0.heap.size w0 w' ∧ qd0 w w' g none := by
 have HI0 := Aside0.mk hI
 have HK := Aside0.mk (qd0.refl w g none)
 have HL := Aside0.mk hB.size
 clear hI
 have HW0 := Aside0.mk hB.size
 have HB := Aside0.mk hB
 clear hB
 have H : (if a1 ≤ 0 then (some (0, s0_1, s0_2)) else (if a1 ≤ 256 then ((spec_l1Byte.f s0_0 s0_1 s0_2).bind fun bt105 => (if a1 = 0 then (none) else (some (Int.tmod bt105.1 a1, bt105.2.1, bt105.2.2)))) else ((spec_l1Byte.f s0_0 s0_1 s0_2).bind fun bt108 => ((spec_l1Byte.f s0_0 bt108.2.1 bt108.2.2).bind fun bt111 => ((spec_l1Byte.f s0_0 bt111.2.1 bt111.2.2).bind fun bt114 => ((spec_l1Byte.f s0_0 bt114.2.1 bt114.2.2).bind fun bt117 => (if a1 = 0 then (none) else (some (Int.tmod (wrap64 ((wrap64 ((wrap64 ((wrap64 (bt108.1 * 16777216)) + (wrap64 (bt111.1 * 65536)))) + (wrap64 (bt114.1 * 256)))) + bt117.1)) a1, bt117.2.1, bt117.2.2))))))))) = some (r1, r2, r3) := h
 clear h
 by_cases c3 : a1 ≤ 0
 ·rw [if_pos c3] at H
  have c3b0 : decide (a1 ≤ 0) = true := decide_eq_true c3
  clear c3
  simp only [Option.some.injEq, Prod.mk.injEq] at H
  obtain ⟨rfl, rfl, rfl⟩ := H
  go_enter Try.func23, Try.ntmps23
  go_wp2
  go_ret
  exact ⟨z1_13, z1_3, z1_4, z1_5⟩
 rw [if_neg c3] at H
 have c3b0 : decide (a1 ≤ 0) = false := decide_eq_false c3
 clear c3
 by_cases c4 : a1 ≤ 256
 ·rw [if_pos c4] at H
  have c4b0 : decide (a1 ≤ 256) = true := decide_eq_true c4
  clear c4
  replace H := Option.bind_eq_some_iff.mp H
  obtain ⟨⟨t105, t106, t107⟩, A50, H⟩ := H
  replace H : (if a1 = 0 then (none) else (some (Int.tmod t105 a1, t106, t107))) = some (r1, r2, r3) := H
  have A5 := Aside0.mk A50
  clear A50
  by_cases c6 : a1 = 0
  ·rw [if_pos c6] at H
   exact absurd H (by simp)
  rw [if_neg c6] at H
  have c6b0 : (a1 == 0) = false := beq_eq_false_iff_ne.mpr c6
  have c6b1 : (a1 != 0) = true := bne_iff_ne.mpr c6
  simp only [Option.some.injEq, Prod.mk.injEq] at H
  obtain ⟨rfl, rfl, rfl⟩ := H
  go_enter Try.func23, Try.ntmps23
  go_wp2_with (first | ((with_reducible refine qc0 (f := 45) rfl ?_); refine qm0 (some 14) rfl rfl Try.func45 z1_23 rfl #[.pointer (some ⟨g, 0, none⟩)] rfl z1_6 ?_; (with_reducible refine (spec_l1Byte.calls g s0_0 s0_1 s0_2 t105 t106 t107 w0 _ ?side1 ?side2 A5.out).mono ?_); (case side1 => exact z1_3); (case side2 => exact z1_4); rintro e w7 ⟨rfl, hi, hb, hk⟩; refine ⟨_, rfl, ?_⟩; have n0_ := Aside0.mk (qd0.trans z1_5 hk (.inl rfl)); have n1_ := Aside0.mk (hb); have n2_ := Aside0.mk (hi); clear HK; clear HB; clear HI0; have HK := n0_; have HB := n1_; have HI0 := n2_; clear n0_ n1_ n2_; (try clear hb); (try clear hb2); (try clear hk); (try clear hi)))
  go_ret
  exact ⟨z1_13, z1_3, z1_4, z1_5⟩
 rw [if_neg c4] at H
 have c4b0 : decide (a1 ≤ 256) = false := decide_eq_false c4
 clear c4
 replace H := Option.bind_eq_some_iff.mp H
 obtain ⟨⟨t108, t109, t110⟩, A80, H⟩ := H
 replace H : ((spec_l1Byte.f s0_0 t109 t110).bind fun bt111 => ((spec_l1Byte.f s0_0 bt111.2.1 bt111.2.2).bind fun bt114 => ((spec_l1Byte.f s0_0 bt114.2.1 bt114.2.2).bind fun bt117 => (if a1 = 0 then (none) else (some (Int.tmod (wrap64 ((wrap64 ((wrap64 ((wrap64 (t108 * 16777216)) + (wrap64 (bt111.1 * 65536)))) + (wrap64 (bt114.1 * 256)))) + bt117.1)) a1, bt117.2.1, bt117.2.2)))))) = some (r1, r2, r3) := H
 have A8 := Aside0.mk A80
 clear A80
 replace H := Option.bind_eq_some_iff.mp H
 obtain ⟨⟨t111, t112, t113⟩, A90, H⟩ := H
 replace H : ((spec_l1Byte.f s0_0 t112 t113).bind fun bt114 => ((spec_l1Byte.f s0_0 bt114.2.1 bt114.2.2).bind fun bt117 => (if a1 = 0 then (none) else (some (Int.tmod (wrap64 ((wrap64 ((wrap64 ((wrap64 (t108 * 16777216)) + (wrap64 (t111 * 65536)))) + (wrap64 (bt114.1 * 256)))) + bt117.1)) a1, bt117.2.1, bt117.2.2))))) = some (r1, r2, r3) := H
 have A9 := Aside0.mk A90
 clear A90
 replace H := Option.bind_eq_some_iff.mp H
 obtain ⟨⟨t114, t115, t116⟩, A100, H⟩ := H
 replace H : ((spec_l1Byte.f s0_0 t115 t116).bind fun bt117 => (if a1 = 0 then (none) else (some (Int.tmod (wrap64 ((wrap64 ((wrap64 ((wrap64 (t108 * 16777216)) + (wrap64 (t111 * 65536)))) + (wrap64 (t114 * 256)))) + bt117.1)) a1, bt117.2.1, bt117.2.2)))) = some (r1, r2, r3) := H
 have A10 := Aside0.mk A100
 clear A100
 replace H := Option.bind_eq_some_iff.mp H
 obtain ⟨⟨t117, t118, t119⟩, A110, H⟩ := H
 replace H : (if a1 = 0 then (none) else (some (Int.tmod (wrap64 ((wrap64 ((wrap64 ((wrap64 (t108 * 16777216)) + (wrap64 (t111 * 65536)))) + (wrap64 (t114 * 256)))) + t117)) a1, t118, t119))) = some (r1, r2, r3) := H
 have A11 := Aside0.mk A110
 clear A110
 by_cases c12 : a1 = 0
 ·rw [if_pos c12] at H
  exact absurd H (by simp)
 rw [if_neg c12] at H
 have c12b0 : (a1 == 0) = false := beq_eq_false_iff_ne.mpr c12
 have c12b1 : (a1 != 0) = true := bne_iff_ne.mpr c12
 simp only [Option.some.injEq, Prod.mk.injEq] at H
 obtain ⟨rfl, rfl, rfl⟩ := H
 go_enter Try.func23, Try.ntmps23
 go_wp2_with (first | ((with_reducible refine qc0 (f := 45) rfl ?_); refine qm0 (some 18) rfl rfl Try.func45 z1_23 rfl #[.pointer (some ⟨g, 0, none⟩)] rfl z1_6 ?_; (with_reducible refine (spec_l1Byte.calls g s0_0 s0_1 s0_2 t108 t109 t110 w0 _ ?side1 ?side2 A8.out).mono ?_); (case side1 => exact z1_3); (case side2 => exact z1_4); rintro e w13 ⟨rfl, hi, hb, hk⟩; refine ⟨_, rfl, ?_⟩; have n0_ := Aside0.mk (qd0.trans z1_5 hk (.inl rfl)); have n1_ := Aside0.mk (hb); have n2_ := Aside0.mk (hi); clear HK; clear HB; clear HI0; have HK := n0_; have HB := n1_; have HI0 := n2_; clear n0_ n1_ n2_; (try clear hb); (try clear hb2); (try clear hk); (try clear hi)) | ((with_reducible refine qc0 (f := 45) rfl ?_); refine qm0 (some 20) rfl rfl Try.func45 z1_23 rfl #[.pointer (some ⟨g, 0, none⟩)] rfl z1_6 ?_; (with_reducible refine (spec_l1Byte.calls g s0_0 t109 t110 t111 t112 t113 w0 _ ?side1 ?side2 A9.out).mono ?_); (case side1 => exact z1_3); (case side2 => exact z1_4); rintro e w14 ⟨rfl, hi, hb, hk⟩; refine ⟨_, rfl, ?_⟩; have n0_ := Aside0.mk (qd0.trans z1_5 hk (.inl rfl)); have n1_ := Aside0.mk (hb); have n2_ := Aside0.mk (hi); clear HK; clear HB; clear HI0; have HK := n0_; have HB := n1_; have HI0 := n2_; clear n0_ n1_ n2_; (try clear hb); (try clear hb2); (try clear hk); (try clear hi)) | ((with_reducible refine qc0 (f := 45) rfl ?_); refine qm0 (some 22) rfl rfl Try.func45 z1_23 rfl #[.pointer (some ⟨g, 0, none⟩)] rfl z1_6 ?_; (with_reducible refine (spec_l1Byte.calls g s0_0 t112 t113 t114 t115 t116 w0 _ ?side1 ?side2 A10.out).mono ?_); (case side1 => exact z1_3); (case side2 => exact z1_4); rintro e w15 ⟨rfl, hi, hb, hk⟩; refine ⟨_, rfl, ?_⟩; have n0_ := Aside0.mk (qd0.trans z1_5 hk (.inl rfl)); have n1_ := Aside0.mk (hb); have n2_ := Aside0.mk (hi); clear HK; clear HB; clear HI0; have HK := n0_; have HB := n1_; have HI0 := n2_; clear n0_ n1_ n2_; (try clear hb); (try clear hb2); (try clear hk); (try clear hi)) | ((with_reducible refine qc0 (f := 45) rfl ?_); refine qm0 (some 24) rfl rfl Try.func45 z1_23 rfl #[.pointer (some ⟨g, 0, none⟩)] rfl z1_6 ?_; (with_reducible refine (spec_l1Byte.calls g s0_0 t115 t116 t117 t118 t119 w0 _ ?side1 ?side2 A11.out).mono ?_); (case side1 => exact z1_3); (case side2 => exact z1_4); rintro e w16 ⟨rfl, hi, hb, hk⟩; refine ⟨_, rfl, ?_⟩; have n0_ := Aside0.mk (qd0.trans z1_5 hk (.inl rfl)); have n1_ := Aside0.mk (hb); have n2_ := Aside0.mk (hi); clear HK; clear HB; clear HI0; have HK := n0_; have HB := n1_; have HI0 := n2_; clear n0_ n1_ n2_; (try clear hb); (try clear hb2); (try clear hk); (try clear hi)))
 go_ret
 exact ⟨z1_13, z1_3, z1_4, z1_5⟩

/-! ### spec_l1PickInt: function 43 -/
def spec_l1PickInt.f (s0_0 : List Int) (s0_1 : Int) (s0_2 : Int) (l1 : List Int) : Option (Int × Int × Int) := (spec_l1Below.f s0_0 s0_1 s0_2 (l1.length : Int)).bind fun bt120 => (if 0 ≤ bt120.1 then (if bt120.1 < (l1.length : Int) then (some (rd l1 bt120.1, bt120.2.1, bt120.2.2)) else (none)) else (none))
set_option maxHeartbeats 8000000 in
set_option maxRecDepth 100000 in
theorem spec_l1PickInt.calls (g : Nat) (s0_0 : List Int) (s0_1 : Int) (s0_2 : Int) (A1 : Option Addr) (c1 : Nat) (l1 : List Int) (r1 : Int) (r2 : Int) (r3 : Int) (w0 w : World) (hI : IsS66 w0 w g s0_0 s0_1 s0_2) (hB : Below w0.heap.size w0 w) (hr1 : Kd.C (Kd.int .i64) w A1 l1.length l1) (hc1 : l1.length ≤ c1) (hf1 : ∀ ad, A1 = some ad → 0 < l1.length → ad.block ≠ g) (h : spec_l1PickInt.f s0_0 s0_1 s0_2 l1 = some (r1, r2, r3)) :
  Calls Try.prog 43 #[.pointer (some ⟨g, 0, none⟩), .slice A1 l1.length c1] w fun e w' => e = .returned (.int .i64 r1) ∧ IsS66 w0 w' g s0_0 r2 r3 ∧ Below w0.heap.size w0 w' ∧ qd0 w w' g none := by
 have HR1 := Aside0.mk hr1
 have HC1 := Aside0.mk hc1
 clear hr1 hc1
 have HI0 := Aside0.mk hI
 have HK := Aside0.mk (qd0.refl w g none)
 have HL := Aside0.mk hB.size
 clear hI
 have HW0 := Aside0.mk hB.size
 have HB := Aside0.mk hB
 clear hB
 have H : ((spec_l1Below.f s0_0 s0_1 s0_2 (l1.length : Int)).bind fun bt120 => (if 0 ≤ bt120.1 then (if bt120.1 < (l1.length : Int) then (some (rd l1 bt120.1, bt120.2.1, bt120.2.2)) else (none)) else (none))) = some (r1, r2, r3) := h
 clear h
 replace H := Option.bind_eq_some_iff.mp H
 obtain ⟨⟨t120, t121, t122⟩, A30, H⟩ := H
 replace H : (if 0 ≤ t120 then (if t120 < (l1.length : Int) then (some (rd l1 t120, t121, t122)) else (none)) else (none)) = some (r1, r2, r3) := H
 have A3 := Aside0.mk A30
 clear A30
 by_cases c4 : 0 ≤ t120
 case neg => rw [if_neg c4] at H; exact absurd H (by simp)
 rw [if_pos c4] at H
 have c4b0 : decide (0 ≤ t120) = true := decide_eq_true c4
 clear c4
 by_cases c5 : t120 < (l1.length : Int)
 case neg => rw [if_neg c5] at H; exact absurd H (by simp)
 rw [if_pos c5] at H
 have c5b0 : decide (t120 < (l1.length : Int)) = true := decide_eq_true c5
 clear c5
 simp only [Option.some.injEq, Prod.mk.injEq] at H
 obtain ⟨rfl, rfl, rfl⟩ := H
 go_enter Try.func43, Try.ntmps43
 go_wp2_with (first | ((with_reducible refine qc0 (f := 23) rfl ?_); refine qm0 (some 9) rfl rfl Try.func23 z1_23 rfl #[.pointer (some ⟨g, 0, none⟩), .int .i64 (l1.length : Int)] rfl z1_6 ?_; (with_reducible refine (spec_l1Below.calls g s0_0 s0_1 s0_2 (l1.length : Int) t120 t121 t122 w0 _ ?side1 ?side2 A3.out).mono ?_); (case side1 => exact z1_3); (case side2 => exact z1_4); rintro e w6 ⟨rfl, hi, hb, hk⟩; refine ⟨_, rfl, ?_⟩; have n0_ := Aside0.mk (qd0.trans z1_5 hk (.inl rfl)); have n1_ := Aside0.mk (hb); have n2_ := Aside0.mk (hi); clear HK; clear HB; clear HI0; have HK := n0_; have HB := n1_; have HI0 := n2_; clear n0_ n1_ n2_; (try clear hb); (try clear hb2); (try clear hk); (try clear hi); have p123 : 0 ≤ (t120 : Int) := of_decide_eq_true z1_22; have q123 : t120 < (l1.length : Int) := of_decide_eq_true z1_22; obtain ⟨ad123, e123, hx123_0⟩ := Kd.qa1 HR1.out t120 p123 q123; cases e123; replace hx123_0 := keep_cell HK.out hx123_0 (by first | (rw [add_block]; exact hf1 _ rfl (by omega)) | exact hf1 _ rfl (by omega) | exact hf1 ad123 rfl (by omega)); replace p123 := eq_true p123; replace q123 := eq_true q123))
 go_ret
 exact ⟨z1_13, z1_3, z1_4, z1_5⟩

/-! ### spec_l1Once: function 44 -/
def spec_l1Once.f (s0_0 : List Int) (s0_1 : Int) (s0_2 : Int) (a1 : Int) : Option (Bool × Int × Int) := (spec_l1Below.f s0_0 s0_1 s0_2 a1).bind fun bt124 => (some ((bt124.1 == 0), bt124.2.1, bt124.2.2))
set_option maxHeartbeats 8000000 in
set_option maxRecDepth 100000 in
theorem spec_l1Once.calls (g : Nat) (s0_0 : List Int) (s0_1 : Int) (s0_2 : Int) (a1 : Int) (r1 : Bool) (r2 : Int) (r3 : Int) (w0 w : World) (hI : IsS66 w0 w g s0_0 s0_1 s0_2) (hB : Below w0.heap.size w0 w) (h : spec_l1Once.f s0_0 s0_1 s0_2 a1 = some (r1, r2, r3)) :
  Calls Try.prog 44 #[.pointer (some ⟨g, 0, none⟩), .int .i64 a1] w fun e w' => e = .returned (.bool r1) ∧ IsS66 w0 w' g s0_0 r2 r3 ∧ Below w0.heap.size w0 w' ∧ qd0 w w' g none := by
 have HI0 := Aside0.mk hI
 have HK := Aside0.mk (qd0.refl w g none)
 have HL := Aside0.mk hB.size
 clear hI
 have HW0 := Aside0.mk hB.size
 have HB := Aside0.mk hB
 clear hB
 have H : ((spec_l1Below.f s0_0 s0_1 s0_2 a1).bind fun bt124 => (some ((bt124.1 == 0), bt124.2.1, bt124.2.2))) = some (r1, r2, r3) := h
 clear h
 replace H := Option.bind_eq_some_iff.mp H
 obtain ⟨⟨t124, t125, t126⟩, A30, H⟩ := H
 replace H : (some ((t124 == 0), t125, t126)) = some (r1, r2, r3) := H
 have A3 := Aside0.mk A30
 clear A30
 simp only [Option.some.injEq, Prod.mk.injEq] at H
 obtain ⟨rfl, rfl, rfl⟩ := H
 go_enter Try.func44, Try.ntmps44
 go_wp2_with (first | ((with_reducible refine qc0 (f := 23) rfl ?_); refine qm0 (some 7) rfl rfl Try.func23 z1_23 rfl #[.pointer (some ⟨g, 0, none⟩), .int .i64 a1] rfl z1_6 ?_; (with_reducible refine (spec_l1Below.calls g s0_0 s0_1 s0_2 a1 t124 t125 t126 w0 _ ?side1 ?side2 A3.out).mono ?_); (case side1 => exact z1_3); (case side2 => exact z1_4); rintro e w4 ⟨rfl, hi, hb, hk⟩; refine ⟨_, rfl, ?_⟩; have n0_ := Aside0.mk (qd0.trans z1_5 hk (.inl rfl)); have n1_ := Aside0.mk (hb); have n2_ := Aside0.mk (hi); clear HK; clear HB; clear HI0; have HK := n0_; have HB := n1_; have HI0 := n2_; clear n0_ n1_ n2_; (try clear hb); (try clear hb2); (try clear hk); (try clear hi)))
 go_ret
 exact ⟨z1_13, z1_3, z1_4, z1_5⟩

/-! ### spec_l2DrawCal: function 19 -/
mutual
def spec_l2DrawCal.l0 : Nat → Int → Int → List Int → Int → Int → Int → List Int → Option (Int × List Int × Int × Int)
 | 0, _, _, _, _, _, _, _ => none
 | k + 1, x4, x5, x1000, x1001, x1002, x135000, x135001 => if x5 > 0 then ((spec_l1Below.f x1000 x1001 x1002 300).bind fun bt138 => (if x135001.length < 17592186044416 then (spec_l2DrawCal.l0 k (wrap64 ((wrap64 (x4 + 1)) + bt138.1)) (wrap64 (x5 - 1)) x1000 bt138.2.1 bt138.2.2 x135000 (x135001 ++ [wrap64 ((wrap64 (x4 + 1)) + bt138.1)])) else (none))) else ((spec_l1Once.f x1000 x1001 x1002 30).bind fun bt144 => (if bt144.1 = true then ((spec_l1PickInt.f x1000 bt144.2.1 bt144.2.2 (([127, 128, (-1)] : List Int))).bind fun bt150 => (spec_l2DrawCal.j1 k x1000 bt150.2.1 bt150.2.2 bt150.1 x135001)) else (spec_l2DrawCal.j1 k x1000 bt144.2.1 bt144.2.2 x135000 x135001)))
def spec_l2DrawCal.j1 : Nat → List Int → Int → Int → Int → List Int → Option (Int × List Int × Int × Int)
 | 0, _, _, _, _, _ => none
 | k + 1, x1000, x1001, x1002, x135000, x135001 => (spec_l1Once.f x1000 x1001 x1002 30).bind fun bt153 => (if bt153.1 = true then (if (x135001.length : Int) > 1 then (if 0 < (x135001.length : Int) then ((spec_l1Below.f x1000 bt153.2.1 bt153.2.2 2).bind fun bt157 => (if 1 < (x135001.length : Int) then (some (x135000, (x135001.set (1 : Int).toNat (wrap64 ((rd x135001 0) - bt157.1))), bt157.2.1, bt157.2.2)) else (none))) else (none)) else (some (x135000, x135001, bt153.2.1, bt153.2.2))) else (some (x135000, x135001, bt153.2.1, bt153.2.2)))
end
def spec_l2DrawCal.f (k : Nat) (s0_0 : List Int) (s0_1 : Int) (s0_2 : Int) : Option (Int × List Int × Int × Int) := (spec_l1PickInt.f s0_0 s0_1 s0_2 (([96, 96, 64, 0, 126, 1, 63] : List Int))).bind fun bt131 => ((spec_l1Below.f s0_0 bt131.2.1 bt131.2.2 6).bind fun bt135 => (spec_l2DrawCal.l0 k 0 bt135.1 s0_0 bt135.2.1 bt135.2.2 bt131.1 ([] : List Int)))
theorem spec_l2DrawCal.mono_l : ∀ k, (∀ y0 y1 y2 y3 y4 y5 y6, LeO (spec_l2DrawCal.l0 k y0 y1 y2 y3 y4 y5 y6) (spec_l2DrawCal.l0 (k + 1) y0 y1 y2 y3 y4 y5 y6)) ∧ (∀ y0 y1 y2 y3 y4, LeO (spec_l2DrawCal.j1 k y0 y1 y2 y3 y4) (spec_l2DrawCal.j1 (k + 1) y0 y1 y2 y3 y4))
 | 0 => ⟨fun _ _ _ _ _ _ _ r h => by simp [spec_l2DrawCal.l0] at h, fun _ _ _ _ _ r h => by simp [spec_l2DrawCal.j1] at h⟩
 | k + 1 => by
  obtain ⟨ih0, ih1⟩ := spec_l2DrawCal.mono_l k
  refine ⟨?_, ?_⟩
  ·intro y0 y1 y2 y3 y4 y5 y6
   unfold spec_l2DrawCal.l0
   repeat' first
   | (with_reducible exact ih0 _ _ _ _ _ _ _)
   | (with_reducible exact ih1 _ _ _ _ _)
   | (with_reducible exact LeO.refl _)
   | (with_reducible exact LeO.none _)
   | (with_reducible refine LeO.ite ?_ ?_)
   | (with_reducible refine LeO.bind ?_ (fun _ => ?_))
   | exact ih0 _ _ _ _ _ _ _
   | exact ih1 _ _ _ _ _
   | exact LeO.none _
   | refine LeO.ite ?_ ?_
   | refine LeO.bind ?_ (fun _ => ?_)
  ·intro y0 y1 y2 y3 y4
   unfold spec_l2DrawCal.j1
   repeat' first
   | (with_reducible exact ih0 _ _ _ _ _ _ _)
   | (with_reducible exact ih1 _ _ _ _ _)
   | (with_reducible exact LeO.refl _)
   | (with_reducible exact LeO.none _)
   | (with_reducible refine LeO.ite ?_ ?_)
   | (with_reducible refine LeO.bind ?_ (fun _ => ?_))
   | exact ih0 _ _ _ _ _ _ _
   | exact ih1 _ _ _ _ _
   | exact LeO.none _
   | refine LeO.ite ?_ ?_
   | refine LeO.bind ?_ (fun _ => ?_)
theorem spec_l2DrawCal.mono : ∀ a0 a1 a2 k, LeO (spec_l2DrawCal.f k a0 a1 a2) (spec_l2DrawCal.f (k + 1) a0 a1 a2) := by
 intro a0 a1 a2 k
 obtain ⟨ih0, ih1⟩ := spec_l2DrawCal.mono_l k
 unfold spec_l2DrawCal.f
 repeat' first
   | (with_reducible exact ih0 _ _ _ _ _ _ _)
   | (with_reducible exact ih1 _ _ _ _ _)
   | (with_reducible exact LeO.refl _)
   | (with_reducible exact LeO.none _)
   | (with_reducible refine LeO.ite ?_ ?_)
   | (with_reducible refine LeO.bind ?_ (fun _ => ?_))
   | exact ih0 _ _ _ _ _ _ _
   | exact ih1 _ _ _ _ _
   | exact LeO.none _
   | refine LeO.ite ?_ ?_
   | refine LeO.bind ?_ (fun _ => ?_)
def spec_l2DrawCal.T11 : Bool × List (List Nat × List Nat) := (true, [([], []), ([0], [0]), ([], []), ([2], [2]), ([3], [3]), ([4], [4]), ([], []), ([6], [6]), ([5, 7], [5, 7]), ([1, 0, 1, 2, 3, 4, 5, 6, 7, 8], [1]), ([9, 8, 7, 0, 1, 2, 3, 4, 5, 6, 7, 8], [8, 9])])
def spec_l2DrawCal.B11 : List Nat := [0, 1, 0, 4, 12, 28, 0, 64, 252, 511, 1023]
theorem spec_l2DrawCal.tab11 : rtab .any (opsOf Try.f19 11) = spec_l2DrawCal.T11 := by kernel_rfl
theorem spec_l2DrawCal.bits11 : waitsOk spec_l2DrawCal.T11.2 spec_l2DrawCal.B11 = true := by kernel_rfl
set_option maxHeartbeats 8000000 in
set_option maxRecDepth 100000 in
theorem spec_l2DrawCal.calls (k : Nat) (g : Nat) (s0_0 : List Int) (s0_1 : Int) (s0_2 : Int) (r1 : Int) (r2 : List Int) (r3 : Int) (r4 : Int) (w0 w : World) (hI : IsS66 w0 w g s0_0 s0_1 s0_2) (hB : Below w0.heap.size w0 w) (h : spec_l2DrawCal.f k s0_0 s0_1 s0_2 = some (r1, r2, r3, r4)) :
  Calls Try.prog 19 #[.pointer (some ⟨g, 0, none⟩)] w fun e w' => ∃ v1_ : Value, e = .returned (.agg #[.int .i64 r1, v1_]) ∧ Kd.R (Kd.int .i64) 3 w' w.heap.size (fun _ => True) v1_ r2 ∧ IsS66 w0 w' g s0_0 r3 r4 ∧ Below w0.heap.size w0 w' ∧ qd0 w w' g none := by
 have hu26 := Try.underlying26
 have HI0 := Aside0.mk hI
 have HK := Aside0.mk (qd0.refl w g none)
 have HL := Aside0.mk hB.size
 clear hI
 have HW0 := Aside0.mk hB.size
 have HB := Aside0.mk hB
 clear hB
 have H : ((spec_l1PickInt.f s0_0 s0_1 s0_2 (([96, 96, 64, 0, 126, 1, 63] : List Int))).bind fun bt131 => ((spec_l1Below.f s0_0 bt131.2.1 bt131.2.2 6).bind fun bt135 => (spec_l2DrawCal.l0 k 0 bt135.1 s0_0 bt135.2.1 bt135.2.2 bt131.1 ([] : List Int)))) = some (r1, r2, r3, r4) := h
 clear h
 obtain ⟨y128, hy128⟩ : ∃ y_ : List Int, y_ = (([96, 96, 64, 0, 126, 1, 63] : List Int)) := ⟨_, rfl⟩
 replace H : ((spec_l1PickInt.f s0_0 s0_1 s0_2 y128).bind fun bt131 => ((spec_l1Below.f s0_0 bt131.2.1 bt131.2.2 6).bind fun bt135 => (spec_l2DrawCal.l0 k 0 bt135.1 s0_0 bt135.2.1 bt135.2.2 bt131.1 ([] : List Int)))) = some (r1, r2, r3, r4) := by first | (rw [hy128]; with_reducible exact H) | (have H2_ := (Option.bind_some _ _).symm.trans H; rw [hy128]; with_reducible exact H2_) | (have H2_ := (Option.bind_some _ _).symm.trans H; with_reducible exact H2_) | with_reducible exact H | (rw [hy128]; exact H) | exact H
 have Ny128 := Aside0.mk hy128
 clear hy128
 replace H := Option.bind_eq_some_iff.mp H
 obtain ⟨⟨t131, t132, t133⟩, A20, H⟩ := H
 replace H : ((spec_l1Below.f s0_0 t132 t133 6).bind fun bt135 => (spec_l2DrawCal.l0 k 0 bt135.1 s0_0 bt135.2.1 bt135.2.2 t131 ([] : List Int))) = some (r1, r2, r3, r4) := H
 have A2 := Aside0.mk A20
 clear A20
 replace H := Option.bind_eq_some_iff.mp H
 obtain ⟨⟨t135, t136, t137⟩, A30, H⟩ := H
 replace H : (spec_l2DrawCal.l0 k 0 t135 s0_0 t136 t137 t131 ([] : List Int)) = some (r1, r2, r3, r4) := H
 have A3 := Aside0.mk A30
 clear A30
 have H' := Aside0.mk H
 clear H
 go_enter Try.func19, Try.ntmps19
 go_wp2_with (first | ((with_reducible refine qs0 (N := 2) rfl ?_); (try (refine gate_guard (by rfl) ?_; dsimp only)); refine qr0 ?hg (N := 2) ?hd (cs := #[.int .i64 0, .slice none 0 0]) (t := 26) ?hr ?_; (case hd => rfl); (case hg => rfl); (case hr => exact z1_24); intro gb127 hg w4 hbox hb; have n0_ := Aside0.mk (IsS66.below z1_3 hb); have n1_ := Aside0.mk (qd0.trans z1_5 (qd0.of_below hb g none) (.inl rfl)); have n2_ := Aside0.mk (qf0 z1_4 hb); have n3_ := Aside0.mk (hbox); have n4_ := Aside0.mk ((z1_20 : w.heap.size ≤ gb127)); have n5_ := Aside0.mk ((Nat.le_trans HW0.out (z1_20 : w.heap.size ≤ gb127) : w0.heap.size ≤ gb127)); have n6_ := Aside0.mk ((by rw [hg]; exact Nat.ne_of_lt (IsS66.lt (show IsS66 w0 _ g s0_0 s0_1 s0_2 from z1_3)) : g ≠ gb127)); have n7_ := Aside0.mk ((by rw [hg]; exact Nat.ne_of_gt (IsS66.lt (show IsS66 w0 _ g s0_0 s0_1 s0_2 from z1_3)) : gb127 ≠ g)); clear HI0; clear HK; clear HB; have HI0 := n0_; have HK := n1_; have HB := n2_; have BK127 := n3_; have GW127 := n4_; have GE127 := n5_; have NB0_127 := n6_; have NB127_0 := n7_; clear n0_ n1_ n2_ n3_ n4_ n5_ n6_ n7_; clear hb hbox hg) | ((with_reducible refine qs0 (N := 7) rfl ?_); (try (refine gate_guard (by rfl) ?_; dsimp only)); refine Kd.R_lit (Kd.int .i64) _ 3 ?hg (N := 7) ?hd (xs := ([96, 96, 64, 0, 126, 1, 63] : List Int)) (inner := [.int .i64 96, .int .i64 96, .int .i64 64, .int .i64 0, .int .i64 126, .int .i64 1, .int .i64 63]) (ok := fun _ => True) (okp := fun _ => True) ?hr ?hp (fun _ hk => hk) trivial (Below.refl _ _) (Nat.le_refl _) (by simp) ?_; (case hd => rfl); (case hg => rfl); (case hr => exact z1_24); (case hp => exact (Reps.one (show Kd.M (Kd.int .i64) _ _ _ 96 [.int .i64 96] from rfl) (Reps.one (show Kd.M (Kd.int .i64) _ _ _ 96 [.int .i64 96] from rfl) (Reps.one (show Kd.M (Kd.int .i64) _ _ _ 64 [.int .i64 64] from rfl) (Reps.one (show Kd.M (Kd.int .i64) _ _ _ 0 [.int .i64 0] from rfl) (Reps.one (show Kd.M (Kd.int .i64) _ _ _ 126 [.int .i64 126] from rfl) (Reps.one (show Kd.M (Kd.int .i64) _ _ _ 1 [.int .i64 1] from rfl) (Reps.one (show Kd.M (Kd.int .i64) _ _ _ 63 [.int .i64 63] from rfl) (Reps.none _ _))))))))); intro v129 w5 ho6 hb hg_ hnew_; clear hg_ hnew_; (first | rw [← Ny128.out] at ho6 | (simp only [Int.reduceToNat] at ho6; rw [← Ny128.out] at ho6)); have n0_ := Aside0.mk (Kd.R_lower ho6 (keep_size (w := w) (g := g) (row := none) z1_12)); have n1_ := Aside0.mk (IsS66.below z1_10 hb); have n2_ := Aside0.mk (ql0 (g := gb127) (o := .cells #[.int .i64 0, .slice none 0 0] 26 (0, 0)) z1_7 hb); have n3_ := Aside0.mk (qd0.trans z1_12 (qd0.of_below hb g none) (.inl rfl)); have n4_ := Aside0.mk (qf0 z1_16 hb); clear HI0; clear BK127; clear HK; clear HB; have HO130 := n0_; have HI0 := n1_; have BK127 := n2_; have HK := n3_; have HB := n4_; clear n0_ n1_ n2_ n3_ n4_; clear hb ho6; obtain ⟨Ao7, co7, eo7⟩ := Kd.R_slice HO130.out; subst eo7) | ((with_reducible refine qc0 (f := 43) rfl ?_); refine qm0 (some 8) rfl rfl Try.func43 z1_23 rfl #[.pointer (some ⟨g, 0, none⟩), .slice Ao7 y128.length co7] rfl z1_6 ?_; (with_reducible refine (spec_l1PickInt.calls g s0_0 s0_1 s0_2 _ _ y128 t131 t132 t133 w0 _ ?side1 ?side2 ?side3 ?side4 ?side5 A2.out).mono ?_); (case side1 => exact z1_10); (case side2 => exact z1_16); (case side3 => repeat (first | exact (Kd.qq0 HO130.out).2.2 | (with_reducible refine Kd.C_alloc ?_ _) | (with_reducible refine Kd.C_drewN ?_ _) | (with_reducible refine Kd.C_drew ?_))); (case side4 => exact (Kd.qq0 HO130.out).2.1); (case side5 => exact far_slice (IsS66.own_ne HI0.out HO130.out (by decide))); rintro e w8 ⟨rfl, hi, hb, hk⟩; refine ⟨_, rfl, ?_⟩; have n0_ := Aside0.mk (qd0.blk hk (g' := gb127) (o := .cells #[.int .i64 0, .slice none 0 0] 26 (0, 0)) z1_7 NB127_0.out (by simp)); have n1_ := Aside0.mk (Kd.qt0 (Kd.qf1 (IsS66.apart (show IsS66 w0 _ g s0_0 s0_1 s0_2 from z1_10) (by (with_reducible repeat (first | apply Kd.qx0 | apply Kd.qw0 | apply Kd.R_drew)); exact HO130.out) (by decide)) hk (fun _ h => h.2)) (fun _ h => h.1)); have n2_ := Aside0.mk (qd0.trans z1_12 hk (.inl rfl)); have n3_ := Aside0.mk (hb); have n4_ := Aside0.mk (hi); clear BK127; clear HO130; clear HK; clear HB; clear HI0; have BK127 := n0_; have HO130 := n1_; have HK := n2_; have HB := n3_; have HI0 := n4_; clear n0_ n1_ n2_ n3_ n4_; (try clear hb); (try clear hb2); (try clear hk); (try clear hi)) | ((with_reducible refine qs0 (N := 3) rfl ?_); (try (refine gate_guard (by rfl) ?_; dsimp only)); refine qr0 ?hg (N := 3) ?hd (cs := #[.int .i64 0, .slice none 0 0]) (t := 26) ?hr ?_; (case hd => rfl); (case hg => rfl); (case hr => exact z1_24); intro gb134 hg w9 hbox hb; have n0_ := Aside0.mk (Kd.qz0 (by (with_reducible repeat (first | apply Kd.qx0 | apply Kd.qw0 | apply Kd.R_drew)); exact HO130.out) hb); have n1_ := Aside0.mk (IsS66.below z1_10 hb); have n2_ := Aside0.mk (ql0 (g := gb127) (o := .cells #[.int .i64 0, .slice none 0 0] 26 (0, 0)) z1_7 hb); have n3_ := Aside0.mk (qd0.trans z1_12 (qd0.of_below hb g none) (.inl rfl)); have n4_ := Aside0.mk (qf0 z1_16 hb); have n5_ := Aside0.mk (hbox); have n6_ := Aside0.mk ((z1_19 : w.heap.size ≤ gb134)); have n7_ := Aside0.mk ((Nat.le_trans HW0.out (z1_19 : w.heap.size ≤ gb134) : w0.heap.size ≤ gb134)); have n8_ := Aside0.mk ((by rw [hg]; exact Nat.ne_of_lt (qu0 (g := gb127) (o := .cells #[.int .i64 0, .slice none 0 0] 26 (0, 0)) z1_7) : gb127 ≠ gb134)); have n9_ := Aside0.mk ((by rw [hg]; exact Nat.ne_of_gt (qu0 (g := gb127) (o := .cells #[.int .i64 0, .slice none 0 0] 26 (0, 0)) z1_7) : gb134 ≠ gb127)); have n10_ := Aside0.mk ((by rw [hg]; exact Nat.ne_of_lt (IsS66.lt (show IsS66 w0 _ g s0_0 t132 t133 from z1_10)) : g ≠ gb134)); have n11_ := Aside0.mk ((by rw [hg]; exact Nat.ne_of_gt (IsS66.lt (show IsS66 w0 _ g s0_0 t132 t133 from z1_10)) : gb134 ≠ g)); clear HO130; clear HI0; clear BK127; clear HK; clear HB; have HO130 := n0_; have HI0 := n1_; have BK127 := n2_; have HK := n3_; have HB := n4_; have BK134 := n5_; have GW134 := n6_; have GE134 := n7_; have NB127_134 := n8_; have NB134_127 := n9_; have NB0_134 := n10_; have NB134_0 := n11_; clear n0_ n1_ n2_ n3_ n4_ n5_ n6_ n7_ n8_ n9_ n10_ n11_; clear hb hbox hg; have hnb10 := NB134_127.out; have hnc10 := NB127_134.out; have hnb11 := NB134_0.out; have hnc11 := NB0_134.out; have hcz12_0 : w9.cell? ⟨gb134, 0, none⟩ = some (.int .i64 0) := (qb0 BK134.out 0).trans rfl; have hcz12_1 : w9.cell? ⟨gb134, 1, none⟩ = some (.slice none 0 0) := (qb0 BK134.out 1).trans rfl; have hfz12_0 := qa0 BK134.out 0; have hfz12_1 := qa0 BK134.out 1) | ((with_reducible refine qc0 (f := 23) rfl ?_); refine qm0 (some 11) rfl rfl Try.func23 z1_23 rfl #[.pointer (some ⟨g, 0, none⟩), .int .i64 6] rfl z1_6 ?_; (with_reducible refine (spec_l1Below.calls g s0_0 t132 t133 6 t135 t136 t137 w0 _ ?side1 ?side2 A3.out).mono ?_); (case side1 => exact z1_0); (case side2 => exact z1_1); rintro e w13 ⟨rfl, hi, hb, hk⟩; refine ⟨_, rfl, ?_⟩; have n0_ := Aside0.mk (qd0.blk hk (g' := gb127) (o := .cells #[.int .i64 0, .slice none 0 0] 26 (0, 0)) (by (with_reducible repeat (first | refine qj0 ?_ _ | refine qk0 ?_ | refine qg0 ?_ _)); refine blk_far ?_ NB127_134.out _; (with_reducible repeat (first | refine qj0 ?_ _ | refine qk0 ?_ | refine qg0 ?_ _)); refine blk_far ?_ NB127_134.out _; (with_reducible repeat (first | refine qj0 ?_ _ | refine qk0 ?_ | refine qg0 ?_ _)); exact BK127.out) NB127_0.out (by simp)); have n1_ := Aside0.mk (Kd.qt0 (Kd.qf1 (IsS66.apart (show IsS66 w0 _ g s0_0 t132 t133 from z1_0) (by (with_reducible repeat (first | apply Kd.qx0 | apply Kd.qw0 | apply Kd.R_drew)); exact (Kd.qt0 (Kd.R_far (p := ⟨gb134, 1, none⟩) (Kd.R_far (p := ⟨gb134, 0, none⟩) (Kd.R_types HO130.out BK134.out (by decide)) (fun _ hk => hk.2) (.int .i64 t131)) (fun _ hk => hk.2) (.slice none 0 0)) (fun _ h_ => h_.1))) (by decide)) hk (fun _ h => h.2)) (fun _ h => h.1)); have n2_ := Aside0.mk (qd0.blk hk (g' := gb134) (o := .cells #[.int .i64 t131, .slice none 0 0] 26 (0, 0)) (by (with_reducible repeat (first | refine qj0 ?_ _ | refine qk0 ?_ | refine qg0 ?_ _)); refine qy0 (cs := #[.int .i64 t131, .slice none 0 0]) ?_ 1 _ rfl; (with_reducible repeat (first | refine qj0 ?_ _ | refine qk0 ?_ | refine qg0 ?_ _)); refine qy0 (cs := #[.int .i64 0, .slice none 0 0]) ?_ 0 _ rfl; (with_reducible repeat (first | refine qj0 ?_ _ | refine qk0 ?_ | refine qg0 ?_ _)); exact BK134.out) NB134_0.out (by simp)); have n3_ := Aside0.mk (qd0.trans z1_2 hk (.inl rfl)); have n4_ := Aside0.mk (hb); have n5_ := Aside0.mk (hi); clear BK127; clear HO130; clear BK134; clear HK; clear HB; clear HI0; have BK127 := n0_; have HO130 := n1_; have BK134 := n2_; have HK := n3_; have HB := n4_; have HI0 := n5_; clear n0_ n1_ n2_ n3_ n4_ n5_; (try clear hb); (try clear hb2); (try clear hk); (try clear hi)))
 go_loopg [4, 5] k (fun kq v4 v5 w' => ∃ (x4_1 : Int) (x5_1 : Int) (x1001_1 : Int) (x1002_1 : Int) (x135001_1 : List Int) (u135001 : Value), v4 = .int .i64 x4_1 ∧ v5 = .int .i64 x5_1 ∧ Aside0 (spec_l2DrawCal.l0 kq x4_1 x5_1 s0_0 x1001_1 x1002_1 t131 x135001_1 = some (r1, r2, r3, r4)) ∧ Aside0 (kq ≤ k) ∧ Aside0 (Kd.R (Kd.int .i64) 3 w' w.heap.size (fun _ => True) u135001 x135001_1) ∧ Aside0 (w'.heap[gb127]? = some (.cells #[.int .i64 0, (.slice none 0 0)] 26 (0, 0))) ∧ Aside0 (w'.heap[gb134]? = some (.cells #[.int .i64 t131, u135001] 26 (0, 0))) ∧ Aside0 (IsS66 w0 w' g s0_0 x1001_1 x1002_1) ∧ Aside0 (qd0 w w' g none) ∧ Aside0 (Below w0.heap.size w0 w'))
 case atStart => exact ⟨(0), (t135), (t136), (t137), (([] : List Int)), (.slice none 0 0), z1_21, z1_21, H', ⟨Nat.le_refl _⟩, ⟨by first | exact Kd.R_nil _ _ _ _ _ | exact Kd.N_nil _ _ _ _ _ | exact Kd.V_nil _ _ _ _ _ | exact Kd.Q_nil _ _ _ _ _ | exact Kd.S_nil _ _ _ _ _⟩, ⟨z1_7⟩, ⟨z1_9⟩, ⟨z1_0⟩, ⟨z1_2⟩, ⟨z1_1⟩⟩
 case round =>
  clear H'
  try clear c1
  try clear c2
  try clear p2
  try clear c4
  try clear c10
  try clear c11
  try clear hcz12_0
  try clear hcz12_1
  try clear hfz12_0
  try clear hfz12_1
  obtain ⟨x4_1, x5_1, x1001_1, x1002_1, x135001_1, u135001, rfl, rfl, HA, HK1, HO_135001, BK127, BK134, HI0, HK, HB⟩ := hrel
  cases gk with
  | zero => exact absurd HA.out (by simp [spec_l2DrawCal.l0])
  | succ k1 =>
   have H := HA.out
   clear HA
   simp only [spec_l2DrawCal.l0] at H
   by_cases c14 : x5_1 > 0
   ·rw [if_pos c14] at H
    have c14b0 : decide (0 < x5_1) = true := decide_eq_true c14
    clear c14
    replace H := Option.bind_eq_some_iff.mp H
    obtain ⟨⟨t138, t139, t140⟩, A150, H⟩ := H
    replace H : (if x135001_1.length < 17592186044416 then (spec_l2DrawCal.l0 k1 (wrap64 ((wrap64 (x4_1 + 1)) + t138)) (wrap64 (x5_1 - 1)) s0_0 t139 t140 t131 (x135001_1 ++ [wrap64 ((wrap64 (x4_1 + 1)) + t138)])) else (none)) = some (r1, r2, r3, r4) := H
    have A15 := Aside0.mk A150
    clear A150
    by_cases c16 : x135001_1.length < 17592186044416
    case neg => rw [if_neg c16] at H; exact absurd H (by simp)
    rw [if_pos c16] at H
    have LMc16 := Aside0.mk c16
    clear c16
    obtain ⟨y141, hy141⟩ : ∃ y_ : List Int, y_ = (x135001_1 ++ [wrap64 ((wrap64 (x4_1 + 1)) + t138)]) := ⟨_, rfl⟩
    replace H : (spec_l2DrawCal.l0 k1 (wrap64 ((wrap64 (x4_1 + 1)) + t138)) (wrap64 (x5_1 - 1)) s0_0 t139 t140 t131 y141) = some (r1, r2, r3, r4) := by first | (rw [hy141]; with_reducible exact H) | (have H2_ := (Option.bind_some _ _).symm.trans H; rw [hy141]; with_reducible exact H2_) | (have H2_ := (Option.bind_some _ _).symm.trans H; with_reducible exact H2_) | with_reducible exact H | (rw [hy141]; exact H) | exact H
    have Ny141 := Aside0.mk hy141
    clear hy141
    have H' := Aside0.mk H
    clear H
    go_wp2_with (first | ((with_reducible refine qc0 (f := 23) rfl ?_); refine qm0 (some 19) rfl rfl Try.func23 z1_23 rfl #[.pointer (some ⟨g, 0, none⟩), .int .i64 300] rfl z1_6 ?_; (with_reducible refine (spec_l1Below.calls g s0_0 x1001_1 x1002_1 300 t138 t139 t140 w0 _ ?side1 ?side2 A15.out).mono ?_); (case side1 => exact z1_0); (case side2 => exact z1_1); rintro e w17 ⟨rfl, hi, hb, hk⟩; refine ⟨_, rfl, ?_⟩; have n0_ := Aside0.mk (Kd.qt0 (Kd.qf1 (IsS66.apart (show IsS66 w0 _ g s0_0 x1001_1 x1002_1 from z1_0) z1_11 (by decide)) hk (fun _ h => h.2)) (fun _ h => h.1)); have n1_ := Aside0.mk (qd0.blk hk (g' := gb127) (o := .cells #[.int .i64 0, .slice none 0 0] 26 (0, 0)) z1_7 NB127_0.out (by simp)); have n2_ := Aside0.mk (qd0.blk hk (g' := gb134) (o := .cells #[.int .i64 t131, u135001] 26 (0, 0)) z1_9 NB134_0.out (by simp)); have n3_ := Aside0.mk (qd0.trans z1_2 hk (.inl rfl)); have n4_ := Aside0.mk (hb); have n5_ := Aside0.mk (hi); clear HO_135001; clear BK127; clear BK134; clear HK; clear HB; clear HI0; have HO_135001 := n0_; have BK127 := n1_; have BK134 := n2_; have HK := n3_; have HB := n4_; have HI0 := n5_; clear n0_ n1_ n2_ n3_ n4_ n5_; (try clear hb); (try clear hb2); (try clear hk); (try clear hi); have hnb18 := NB134_127.out; have hnc18 := NB127_134.out; have hnb19 := NB134_0.out; have hnc19 := NB0_134.out; have hcz20_0 : w17.cell? ⟨gb134, 0, none⟩ = some (.int .i64 t131) := (qb0 BK134.out 0).trans rfl; have hcz20_1 : w17.cell? ⟨gb134, 1, none⟩ = some (u135001) := (qb0 BK134.out 1).trans rfl; have hfz20_0 := qa0 BK134.out 0; have hfz20_1 := qa0 BK134.out 1) | ((with_reducible refine gate_builtin (b := .append) (xs := #[.tmp 22, .tmp 24]) rfl ?_); (try (refine gate_guard (by rfl) ?_; dsimp only)); at_builtin; refine Kd.R_append (Kd.int .i64) w.heap.size rfl (.tmp 22) (.tmp 24) 24 3 (.int .i64 0) 8 rfl Try.underlying24 info3 rfl (by decide) (by omega) u135001 x135001_1 (wrap64 ((wrap64 (x4_1 + 1)) + t138)) [.int .i64 (wrap64 ((wrap64 (x4_1 + 1)) + t138))] (fun _ => True) (fun _ => False) rfl rfl ?aP (fun _ hk => hk.elim) ?aF ?aO (Below.refl _ _) ?aS ?aL ?_; (case aP => exact rfl); (case aF => exact (fun _ _ => trivial)); (case aO => exact z1_11); (case aS => exact (keep_size (w := w) (g := g) (row := none) z1_2)); (case aL => have := LMc16.out; omega); intro v142 w21 ho hb hg hat; rw [← Ny141.out] at ho; have n0_ := Aside0.mk (blk_grown (g := gb127) (o := .cells #[.int .i64 0, .slice none 0 0] 26 (0, 0)) z1_7 hg (Kd.R_ne HO_135001.out BK127.out (by decide))); have n1_ := Aside0.mk (blk_grown (g := gb134) (o := .cells #[.int .i64 t131, u135001] 26 (0, 0)) z1_9 hg (Kd.R_ne HO_135001.out BK134.out (by decide))); have n2_ := Aside0.mk (IsS66.grown (show IsS66 w0 _ g s0_0 t139 t140 from z1_0) hg (IsS66.own_ne HI0.out HO_135001.out (by decide))); have n3_ := Aside0.mk (below_weaken z1_1 HL.out hb); have n4_ := Aside0.mk (qd0.trans z1_2 (qd0.of_grown hg g) (Kd.R_base2 HO_135001.out)); have n5_ := Aside0.mk (ho); clear BK127; clear BK134; clear HI0; clear HB; clear HK; clear HO_135001; have BK127 := n0_; have BK134 := n1_; have HI0 := n2_; have HB := n3_; have HK := n4_; have HO143 := n5_; clear n0_ n1_ n2_ n3_ n4_ n5_; clear ho hb hg hat; obtain ⟨Ao22, co22, eo22⟩ := Kd.R_slice HO143.out; subst eo22; have hcz23_0 : w21.cell? ⟨gb134, 0, none⟩ = some (.int .i64 t131) := (qb0 BK134.out 0).trans rfl; have hcz23_1 : w21.cell? ⟨gb134, 1, none⟩ = some (u135001) := (qb0 BK134.out 1).trans rfl; have hfz23_0 := qa0 BK134.out 0; have hfz23_1 := qa0 BK134.out 1))
    go_roundg k1
    case measure => have := HK1.out; omega
    case rel => exact ⟨(wrap64 ((wrap64 (x4_1 + 1)) + t138)), (wrap64 (x5_1 - 1)), (t139), (t140), (y141), (.slice Ao22 y141.length co22), z1_21, z1_21, H', ⟨by have := HK1.out; omega⟩, ⟨by (with_reducible repeat (first | apply Kd.qx0 | apply Kd.qw0 | apply Kd.R_drew)); exact Kd.qt0 (Kd.R_far (p := ⟨gb134, 1, none⟩) (Kd.R_types HO143.out BK134.out (by decide)) (fun _ hk => hk.2) (.slice Ao22 y141.length co22)) (fun _ hk => trivial)⟩, ⟨z1_18⟩, ⟨by (with_reducible repeat (first | refine qj0 ?_ _ | refine qk0 ?_ | refine qg0 ?_ _)); refine qy0 (cs := #[.int .i64 t131, u135001]) ?_ 1 _ rfl; (with_reducible repeat (first | refine qj0 ?_ _ | refine qk0 ?_ | refine qg0 ?_ _)); exact BK134.out⟩, ⟨z1_0⟩, ⟨z1_2⟩, ⟨z1_1⟩⟩
   rw [if_neg c14] at H
   have c14b0 : decide (0 < x5_1) = false := decide_eq_false c14
   clear c14
   replace H := Option.bind_eq_some_iff.mp H
   obtain ⟨⟨t144, t145, t146⟩, A240, H⟩ := H
   replace H : (if t144 = true then ((spec_l1PickInt.f s0_0 t145 t146 (([127, 128, (-1)] : List Int))).bind fun bt150 => (spec_l2DrawCal.j1 k1 s0_0 bt150.2.1 bt150.2.2 bt150.1 x135001_1)) else (spec_l2DrawCal.j1 k1 s0_0 t145 t146 t131 x135001_1)) = some (r1, r2, r3, r4) := H
   have A24 := Aside0.mk A240
   clear A240
   have HC25 := Aside0.mk H
   clear H
   go_upto_if 28 with (first | ((with_reducible refine qc0 (f := 44) rfl ?_); refine qm0 (some 28) rfl rfl Try.func44 z1_23 rfl #[.pointer (some ⟨g, 0, none⟩), .int .i64 30] rfl z1_6 ?_; (with_reducible refine (spec_l1Once.calls g s0_0 x1001_1 x1002_1 30 t144 t145 t146 w0 _ ?side1 ?side2 A24.out).mono ?_); (case side1 => exact z1_0); (case side2 => exact z1_1); rintro e w26 ⟨rfl, hi, hb, hk⟩; refine ⟨_, rfl, ?_⟩; have n0_ := Aside0.mk (Kd.qt0 (Kd.qf1 (IsS66.apart (show IsS66 w0 _ g s0_0 x1001_1 x1002_1 from z1_0) z1_11 (by decide)) hk (fun _ h => h.2)) (fun _ h => h.1)); have n1_ := Aside0.mk (qd0.blk hk (g' := gb127) (o := .cells #[.int .i64 0, .slice none 0 0] 26 (0, 0)) z1_7 NB127_0.out (by simp)); have n2_ := Aside0.mk (qd0.blk hk (g' := gb134) (o := .cells #[.int .i64 t131, u135001] 26 (0, 0)) z1_9 NB134_0.out (by simp)); have n3_ := Aside0.mk (qd0.trans z1_2 hk (.inl rfl)); have n4_ := Aside0.mk (hb); have n5_ := Aside0.mk (hi); clear HO_135001; clear BK127; clear BK134; clear HK; clear HB; clear HI0; have HO_135001 := n0_; have BK127 := n1_; have BK134 := n2_; have HK := n3_; have HB := n4_; have HI0 := n5_; clear n0_ n1_ n2_ n3_ n4_ n5_; (try clear hb); (try clear hb2); (try clear hk); (try clear hi)))
   (try simp only [Act.put, List.setIfInBounds_toArray, List.set_cons_zero, List.set_cons_succ])
   go_cut [] (fun wc => ∃ (kq : Nat) (x1001_24 : Int) (x1002_24 : Int) (x135000_24 : Int), Aside0 (spec_l2DrawCal.j1 kq s0_0 x1001_24 x1002_24 x135000_24 x135001_1 = some (r1, r2, r3, r4)) ∧ Aside0 (kq ≤ k1) ∧ Aside0 (Kd.R (Kd.int .i64) 3 wc w.heap.size (fun _ => True) u135001 x135001_1) ∧ Aside0 (wc.heap[gb127]? = some (.cells #[.int .i64 0, (.slice none 0 0)] 26 (0, 0))) ∧ Aside0 (wc.heap[gb134]? = some (.cells #[.int .i64 x135000_24, u135001] 26 (0, 0))) ∧ Aside0 (IsS66 w0 wc g s0_0 x1001_24 x1002_24) ∧ Aside0 (qd0 w wc g none) ∧ Aside0 (Below w0.heap.size w0 wc))
   case first =>
    have H := HC25.out
    clear HC25
    by_cases c27 : t144 = true
    ·subst c27
     have H1 : ((spec_l1PickInt.f s0_0 t145 t146 (([127, 128, (-1)] : List Int))).bind fun bt150 => (spec_l2DrawCal.j1 k1 s0_0 bt150.2.1 bt150.2.2 bt150.1 x135001_1)) = some (r1, r2, r3, r4) := by rw [if_pos rfl] at H; exact H
     clear H
     have H := H1
     clear H1
     obtain ⟨y147, hy147⟩ : ∃ y_ : List Int, y_ = (([127, 128, (-1)] : List Int)) := ⟨_, rfl⟩
     replace H : ((spec_l1PickInt.f s0_0 t145 t146 y147).bind fun bt150 => (spec_l2DrawCal.j1 k1 s0_0 bt150.2.1 bt150.2.2 bt150.1 x135001_1)) = some (r1, r2, r3, r4) := by first | (rw [hy147]; with_reducible exact H) | (have H2_ := (Option.bind_some _ _).symm.trans H; rw [hy147]; with_reducible exact H2_) | (have H2_ := (Option.bind_some _ _).symm.trans H; with_reducible exact H2_) | with_reducible exact H | (rw [hy147]; exact H) | exact H
     have Ny147 := Aside0.mk hy147
     clear hy147
     replace H := Option.bind_eq_some_iff.mp H
     obtain ⟨⟨t150, t151, t152⟩, A280, H⟩ := H
     replace H : (spec_l2DrawCal.j1 k1 s0_0 t151 t152 t150 x135001_1) = some (r1, r2, r3, r4) := H
     have A28 := Aside0.mk A280
     clear A280
     have H' := Aside0.mk H
     clear H
     go_wp2_with (first | ((with_reducible refine qs0 (N := 30) rfl ?_); (try (refine gate_guard (by rfl) ?_; dsimp only)); refine Kd.R_lit (Kd.int .i64) _ 3 ?hg (N := 30) ?hd (xs := ([127, 128, (-1)] : List Int)) (inner := [.int .i64 127, .int .i64 128, .int .i64 (-1)]) (ok := fun _ => True) (okp := fun _ => True) ?hr ?hp (fun _ hk => hk) trivial (Below.refl _ _) (Nat.le_refl _) (by simp) ?_; (case hd => rfl); (case hg => rfl); (case hr => exact z1_24); (case hp => exact (Reps.one (show Kd.M (Kd.int .i64) _ _ _ 127 [.int .i64 127] from rfl) (Reps.one (show Kd.M (Kd.int .i64) _ _ _ 128 [.int .i64 128] from rfl) (Reps.one (show Kd.M (Kd.int .i64) _ _ _ (-1) [.int .i64 (-1)] from rfl) (Reps.none _ _))))); intro v148 w29 ho30 hb hg_ hnew_; clear hg_ hnew_; (first | rw [← Ny147.out] at ho30 | (simp only [Int.reduceToNat] at ho30; rw [← Ny147.out] at ho30)); have n0_ := Aside0.mk (Kd.R_elder' z1_11 (Kd.R_base ho30) hb); have n1_ := Aside0.mk (Kd.R_lower (Kd.R_new' ho30 (Kd.R_lt z1_11)) (keep_size (w := w) (g := g) (row := none) z1_2)); have n2_ := Aside0.mk (ql0 (g := gb127) (o := .cells #[.int .i64 0, .slice none 0 0] 26 (0, 0)) z1_7 hb); have n3_ := Aside0.mk (ql0 (g := gb134) (o := .cells #[.int .i64 t131, u135001] 26 (0, 0)) z1_9 hb); have n4_ := Aside0.mk (IsS66.below z1_0 hb); have n5_ := Aside0.mk (qd0.trans z1_2 (qd0.of_below hb g none) (.inl rfl)); have n6_ := Aside0.mk (qf0 z1_1 hb); clear HO_135001; clear BK127; clear BK134; clear HI0; clear HK; clear HB; have HO_135001 := n0_; have HO149 := n1_; have BK127 := n2_; have BK134 := n3_; have HI0 := n4_; have HK := n5_; have HB := n6_; clear n0_ n1_ n2_ n3_ n4_ n5_ n6_; clear hb ho30; obtain ⟨Ao31, co31, eo31⟩ := Kd.R_slice HO149.out; subst eo31) | ((with_reducible refine qc0 (f := 43) rfl ?_); refine qm0 (some 31) rfl rfl Try.func43 z1_23 rfl #[.pointer (some ⟨g, 0, none⟩), .slice Ao31 y147.length co31] rfl z1_6 ?_; (with_reducible refine (spec_l1PickInt.calls g s0_0 t145 t146 _ _ y147 t150 t151 t152 w0 _ ?side1 ?side2 ?side3 ?side4 ?side5 A28.out).mono ?_); (case side1 => exact z1_0); (case side2 => exact z1_1); (case side3 => repeat (first | exact (Kd.qq0 HO149.out).2.2 | (with_reducible refine Kd.C_alloc ?_ _) | (with_reducible refine Kd.C_drewN ?_ _) | (with_reducible refine Kd.C_drew ?_))); (case side4 => exact (Kd.qq0 HO149.out).2.1); (case side5 => exact far_slice (IsS66.own_ne HI0.out HO149.out (by decide))); rintro e w32 ⟨rfl, hi, hb, hk⟩; refine ⟨_, rfl, ?_⟩; have n0_ := Aside0.mk (Kd.qt0 (Kd.qf1 (IsS66.apart (show IsS66 w0 _ g s0_0 t145 t146 from z1_0) z1_11 (by decide)) hk (fun _ h => h.2)) (fun _ h => h.1)); have n1_ := Aside0.mk (qd0.blk hk (g' := gb127) (o := .cells #[.int .i64 0, .slice none 0 0] 26 (0, 0)) z1_7 NB127_0.out (by simp)); have n2_ := Aside0.mk (qd0.blk hk (g' := gb134) (o := .cells #[.int .i64 t131, u135001] 26 (0, 0)) z1_9 NB134_0.out (by simp)); have n3_ := Aside0.mk (Kd.qt0 (Kd.qf1 (IsS66.apart (show IsS66 w0 _ g s0_0 t145 t146 from z1_0) (by (with_reducible repeat (first | apply Kd.qx0 | apply Kd.qw0 | apply Kd.R_drew)); exact HO149.out) (by decide)) hk (fun _ h => h.2)) (fun _ h => h.1)); have n4_ := Aside0.mk (qd0.trans z1_2 hk (.inl rfl)); have n5_ := Aside0.mk (hb); have n6_ := Aside0.mk (hi); clear HO_135001; clear BK127; clear BK134; clear HO149; clear HK; clear HB; clear HI0; have HO_135001 := n0_; have BK127 := n1_; have BK134 := n2_; have HO149 := n3_; have HK := n4_; have HB := n5_; have HI0 := n6_; clear n0_ n1_ n2_ n3_ n4_ n5_ n6_; (try clear hb); (try clear hb2); (try clear hk); (try clear hi); have hnb33 := NB134_127.out; have hnc33 := NB127_134.out; have hnb34 := NB134_0.out; have hnc34 := NB0_134.out; have hcz35_0 : w32.cell? ⟨gb134, 0, none⟩ = some (.int .i64 t131) := (qb0 BK134.out 0).trans rfl; have hcz35_1 : w32.cell? ⟨gb134, 1, none⟩ = some (u135001) := (qb0 BK134.out 1).trans rfl; have hfz35_0 := qa0 BK134.out 0; have hfz35_1 := qa0 BK134.out 1))
     go_meet
     case rel => exact ⟨_, (t151), (t152), (t150), H', ⟨by have := HK1.out; first | omega | exact Nat.le_refl _⟩, ⟨by (with_reducible repeat (first | apply Kd.qx0 | apply Kd.qw0 | apply Kd.R_drew)); exact Kd.qt0 (Kd.R_far (p := ⟨gb134, 0, none⟩) (Kd.R_types HO_135001.out BK134.out (by decide)) (fun _ hk => hk.2) (.int .i64 t150)) (fun _ hk => trivial)⟩, ⟨z1_18⟩, ⟨by (with_reducible repeat (first | refine qj0 ?_ _ | refine qk0 ?_ | refine qg0 ?_ _)); refine qy0 (cs := #[.int .i64 t131, u135001]) ?_ 0 _ rfl; (with_reducible repeat (first | refine qj0 ?_ _ | refine qk0 ?_ | refine qg0 ?_ _)); exact BK134.out⟩, ⟨z1_0⟩, ⟨z1_2⟩, ⟨z1_1⟩⟩
    replace c27 := Bool.eq_false_iff.mpr c27
    subst c27
    have H1 : (spec_l2DrawCal.j1 k1 s0_0 t145 t146 t131 x135001_1) = some (r1, r2, r3, r4) := by rw [if_neg (show ¬ (false = true) by decide)] at H; exact H
    clear H
    have H := H1
    clear H1
    have H' := Aside0.mk H
    clear H
    go_wp2
    go_meet
    case rel => exact ⟨_, (t145), (t146), (t131), H', ⟨by have := HK1.out; first | omega | exact Nat.le_refl _⟩, ⟨z1_11⟩, ⟨z1_7⟩, ⟨z1_9⟩, ⟨z1_0⟩, ⟨z1_2⟩, ⟨z1_1⟩⟩
   case rest =>
    clear HC25
    try clear c1
    try clear c2
    try clear p2
    try clear c3
    try clear c4
    try clear p6
    try clear c10
    try clear c11
    try clear c14
    try clear c14b0
    try clear c16
    try clear c18
    try clear c19
    try clear c23
    try clear c27
    try clear c33
    try clear c34
    try clear hcz12_0
    try clear hcz12_1
    try clear hcz20_0
    try clear hcz20_1
    try clear hcz23_0
    try clear hcz23_1
    try clear hcz35_0
    try clear hcz35_1
    try clear hfz12_0
    try clear hfz12_1
    try clear hfz20_0
    try clear hfz20_1
    try clear hfz23_0
    try clear hfz23_1
    try clear hfz35_0
    try clear hfz35_1
    try clear p2
    obtain ⟨kq, x1001_24, x1002_24, x135000_24, HA, HJ24, HO_135001, BK127, BK134, HI0, HK, HB⟩ := hcut
    cases kq with
    | zero => exact absurd HA.out (by simp [spec_l2DrawCal.j1])
    | succ kj24 =>
     have H := HA.out
     clear HA
     simp only [spec_l2DrawCal.j1] at H
     replace H := Option.bind_eq_some_iff.mp H
     obtain ⟨⟨t153, t154, t155⟩, A360, H⟩ := H
     replace H : (if t153 = true then (if (x135001_1.length : Int) > 1 then (if 0 < (x135001_1.length : Int) then ((spec_l1Below.f s0_0 t154 t155 2).bind fun bt157 => (if 1 < (x135001_1.length : Int) then (some (x135000_24, (x135001_1.set (1 : Int).toNat (wrap64 ((rd x135001_1 0) - bt157.1))), bt157.2.1, bt157.2.2)) else (none))) else (none)) else (some (x135000_24, x135001_1, t154, t155))) else (some (x135000_24, x135001_1, t154, t155))) = some (r1, r2, r3, r4) := H
     have A36 := Aside0.mk A360
     clear A360
     by_cases c37 : t153 = true
     ·subst c37
      have H1 : (if (x135001_1.length : Int) > 1 then (if 0 < (x135001_1.length : Int) then ((spec_l1Below.f s0_0 t154 t155 2).bind fun bt157 => (if 1 < (x135001_1.length : Int) then (some (x135000_24, (x135001_1.set (1 : Int).toNat (wrap64 ((rd x135001_1 0) - bt157.1))), bt157.2.1, bt157.2.2)) else (none))) else (none)) else (some (x135000_24, x135001_1, t154, t155))) = some (r1, r2, r3, r4) := by rw [if_pos rfl] at H; exact H
      clear H
      have H := H1
      clear H1
      by_cases c38 : (x135001_1.length : Int) > 1
      ·rw [if_pos c38] at H
       have c38b0 : decide (1 < (x135001_1.length : Int)) = true := decide_eq_true c38
       have c38b1 : decide (1 < x135001_1.length) = true := decide_eq_true (by omega)
       clear c38
       by_cases c39 : 0 < (x135001_1.length : Int)
       case neg => rw [if_neg c39] at H; exact absurd H (by simp)
       rw [if_pos c39] at H
       have c39b0 : decide (0 < (x135001_1.length : Int)) = true := decide_eq_true c39
       have c39b1 : decide (0 < x135001_1.length) = true := decide_eq_true (by omega)
       clear c39
       replace H := Option.bind_eq_some_iff.mp H
       obtain ⟨⟨t157, t158, t159⟩, A400, H⟩ := H
       replace H : (if 1 < (x135001_1.length : Int) then (some (x135000_24, (x135001_1.set (1 : Int).toNat (wrap64 ((rd x135001_1 0) - t157))), t158, t159)) else (none)) = some (r1, r2, r3, r4) := H
       have A40 := Aside0.mk A400
       clear A400
       by_cases c41 : 1 < (x135001_1.length : Int)
       case neg => rw [if_neg c41] at H; exact absurd H (by simp)
       rw [if_pos c41] at H
       have c41b0 : decide (1 < (x135001_1.length : Int)) = true := decide_eq_true c41
       have c41b1 : decide (1 < x135001_1.length) = true := decide_eq_true (by omega)
       clear c41
       obtain ⟨y160, hy160⟩ : ∃ y_ : List Int, y_ = (x135001_1.set (1 : Int).toNat (wrap64 ((rd x135001_1 0) - t157))) := ⟨_, rfl⟩
       replace H : (some (x135000_24, y160, t158, t159)) = some (r1, r2, r3, r4) := by first | (rw [hy160]; with_reducible exact H) | (have H2_ := (Option.bind_some _ _).symm.trans H; rw [hy160]; with_reducible exact H2_) | (have H2_ := (Option.bind_some _ _).symm.trans H; with_reducible exact H2_) | with_reducible exact H | (rw [hy160]; exact H) | exact H
       have Ny160 := Aside0.mk hy160
       clear hy160
       simp only [Option.some.injEq, Prod.mk.injEq] at H
       obtain ⟨rfl, rfl, rfl, rfl⟩ := H
       try go_wp2_with (first | ((with_reducible refine qc0 (f := 44) rfl ?_); refine qm0 (some 34) rfl rfl Try.func44 z1_23 rfl #[.pointer (some ⟨g, 0, none⟩), .int .i64 30] rfl z1_6 ?_; (with_reducible refine (spec_l1Once.calls g s0_0 x1001_24 x1002_24 30 true t154 t155 w0 _ ?side1 ?side2 A36.out).mono ?_); (case side1 => exact z1_0); (case side2 => exact z1_1); rintro e w43 ⟨rfl, hi, hb, hk⟩; refine ⟨_, rfl, ?_⟩; have n0_ := Aside0.mk (Kd.qt0 (Kd.qf1 (IsS66.apart (show IsS66 w0 _ g s0_0 x1001_24 x1002_24 from z1_0) z1_11 (by decide)) hk (fun _ h => h.2)) (fun _ h => h.1)); have n1_ := Aside0.mk (qd0.blk hk (g' := gb127) (o := .cells #[.int .i64 0, .slice none 0 0] 26 (0, 0)) z1_7 NB127_0.out (by simp)); have n2_ := Aside0.mk (qd0.blk hk (g' := gb134) (o := .cells #[.int .i64 x135000_24, u135001] 26 (0, 0)) z1_9 NB134_0.out (by simp)); have n3_ := Aside0.mk (qd0.trans z1_2 hk (.inl rfl)); have n4_ := Aside0.mk (hb); have n5_ := Aside0.mk (hi); clear HO_135001; clear BK127; clear BK134; clear HK; clear HB; clear HI0; have HO_135001 := n0_; have BK127 := n1_; have BK134 := n2_; have HK := n3_; have HB := n4_; have HI0 := n5_; clear n0_ n1_ n2_ n3_ n4_ n5_; (try clear hb); (try clear hb2); (try clear hk); (try clear hi); have hnb44 := NB134_127.out; have hnc44 := NB127_134.out; have hnb45 := NB134_0.out; have hnc45 := NB0_134.out; have hcz46_0 : w43.cell? ⟨gb134, 0, none⟩ = some (.int .i64 x135000_24) := (qb0 BK134.out 0).trans rfl; have hcz46_1 : w43.cell? ⟨gb134, 1, none⟩ = some (u135001) := (qb0 BK134.out 1).trans rfl; have hfz46_0 := qa0 BK134.out 0; have hfz46_1 := qa0 BK134.out 1; obtain ⟨Ao47, co47, eo47⟩ := Kd.R_slice HO_135001.out; subst eo47))
       have n0_ := Aside0.mk (Kd.R_drew HO_135001.out)
       have n1_ := Aside0.mk (qk0 BK127.out)
       have n2_ := Aside0.mk (qk0 BK134.out)
       have n3_ := Aside0.mk (IsS66.drew HI0.out)
       have n4_ := Aside0.mk (keep_drew HK.out)
       have n5_ := Aside0.mk (qi0 HB.out)
       clear HO_135001
       clear BK127
       clear BK134
       clear HI0
       clear HK
       clear HB
       have HO_135001 := n0_
       have BK127 := n1_
       have BK134 := n2_
       have HI0 := n3_
       have HK := n4_
       have HB := n5_
       clear n0_ n1_ n2_ n3_ n4_ n5_
       have p156 : 0 ≤ (0 : Int) := (by omega)
       have q156 : 0 < (x135001_1.length : Int) := of_decide_eq_true z1_22
       obtain ⟨ad156, e156, hx156_0⟩ := Kd.qa1 (Kd.qq0 HO_135001.out).2.2 0 p156 q156
       cases e156
       have qi156 : (0 < x135001_1.length) = True := eq_true (by omega)
       (try rw [show ((0 : Int)).toNat = 0 from rfl] at hx156_0)
       (try rw [Addr.add_zero'] at hx156_0)
       replace p156 := eq_true p156
       replace q156 := eq_true q156
       refine start_ (n := 11) (S := fun w' => w'.cell? ⟨gb134, 0, none⟩ = some (.int .i64 x135000_24) ∧ w'.cell? ⟨gb134, 1, none⟩ = some (.slice (some ad156) x135001_1.length co47) ∧ w'.cell? ad156 = some (.int .i64 (rd x135001_1 0))) (ds := [10]) #[false, false, false, false, false, false, false, false, false, false, false] z1_23 rfl rfl ⟨(qb0 BK134.out 0).trans rfl, (qb0 BK134.out 1).trans rfl, hx156_0⟩ (fun hHeld => ?_); refine with_tabW spec_l2DrawCal.tab11 spec_l2DrawCal.bits11 (fun HT_ HW_ => ?_)
       generalize w43.drew = w48 at HO_135001 BK127 BK134 HI0 HK HB hx156_0 hHeld ⊢
       refine pure_ (i := 0) (N := some 41) (v := ?_) (a' := ?_) #[true, false, false, false, false, false, false, false, false, false, false] rfl rfl (any_of HT_.out z1_23) (fun _ _ _ h => h) (Or.inl ⟨by rfl, ?_⟩) ?_ ?_
       rotate_left
       ·intro w'
        go_simp
        with_reducible rfl
       rotate_left
       ·simp only [Act.put, List.setIfInBounds_toArray, List.set_cons_zero, List.set_cons_succ, i64_w, i32_w]
        rfl
       refine pure_ (i := 2) (N := some 43) (v := ?_) (a' := ?_) #[true, false, true, false, false, false, false, false, false, false, false] rfl rfl (any_of HT_.out z1_23) (fun _ _ _ h => h) (Or.inl ⟨by rfl, ?_⟩) ?_ ?_
       rotate_left
       ·intro w'
        go_simp
        with_reducible rfl
       rotate_left
       ·simp only [Act.put, List.setIfInBounds_toArray, List.set_cons_zero, List.set_cons_succ, i64_w, i32_w]
        rfl
       refine pure_ (i := 6) (N := some 47) (v := ?_) (a' := ?_) #[true, false, true, false, false, false, true, false, false, false, false] rfl rfl (any_of HT_.out z1_23) (fun _ _ _ h => h) (Or.inl ⟨by rfl, ?_⟩) ?_ ?_
       rotate_left
       ·intro w'
        go_simp
        with_reducible rfl
       rotate_left
       ·simp only [Act.put, List.setIfInBounds_toArray, List.set_cons_zero, List.set_cons_succ, i64_w, i32_w]
        rfl
       refine take_ (i := 1) (N := some 42) (v := ?_) (a' := ?_) #[true, true, true, false, false, false, true, false, false, false, false] rfl rfl (take_ofW HT_.out HW_.out z1_23) (fun _ _ _ h => h) (Or.inl ⟨by rfl, ?_⟩) hHeld ?_ ?_
       rotate_left
       ·rintro w' ⟨s0, s1, s2⟩
        go_simp
        with_reducible rfl
       rotate_left
       ·simp only [Act.put, List.setIfInBounds_toArray, List.set_cons_zero, List.set_cons_succ, i64_w, i32_w]
        rfl
       refine take_ (i := 3) (N := some 44) (v := ?_) (a' := ?_) #[true, true, true, true, false, false, true, false, false, false, false] rfl rfl (take_ofW HT_.out HW_.out z1_23) (fun _ _ _ h => h) (Or.inl ⟨by rfl, ?_⟩) hHeld ?_ ?_
       rotate_left
       ·rintro w' ⟨s0, s1, s2⟩
        go_simp
        with_reducible rfl
       rotate_left
       ·simp only [Act.put, List.setIfInBounds_toArray, List.set_cons_zero, List.set_cons_succ, i64_w, i32_w]
        rfl
       refine pure_ (i := 4) (N := some 45) (v := ?_) (a' := ?_) #[true, true, true, true, true, false, true, false, false, false, false] rfl rfl (any_of HT_.out z1_23) (fun _ _ _ h => h) (Or.inl ⟨by rfl, ?_⟩) ?_ ?_
       rotate_left
       ·intro w'
        go_simp
        with_reducible rfl
       rotate_left
       ·simp only [Act.put, List.setIfInBounds_toArray, List.set_cons_zero, List.set_cons_succ, i64_w, i32_w]
        rfl
       refine take_ (i := 5) (N := some 46) (v := ?_) (a' := ?_) #[true, true, true, true, true, true, true, false, false, false, false] rfl rfl (take_ofW HT_.out HW_.out z1_23) (fun _ _ _ h => h) (Or.inl ⟨by rfl, ?_⟩) hHeld ?_ ?_
       rotate_left
       ·rintro w' ⟨s0, s1, s2⟩
        go_simp
        with_reducible rfl
       rotate_left
       ·simp only [Act.put, List.setIfInBounds_toArray, List.set_cons_zero, List.set_cons_succ, i64_w, i32_w]
        rfl
       refine one_ (i := 7) (N := some 48) #[true, true, true, true, true, true, true, true, false, false, false] rfl rfl (one_of HT_.out z1_23) (by decide) (fun K hK => ?_)
       refine goes_ Try.func23 z1_23 rfl #[.pointer (some ⟨g, 0, none⟩), .int .i64 2] (by rfl) rfl rfl z1_6 ?_
       with_reducible refine (spec_l1Below.calls g s0_0 t154 t155 2 t157 t158 t159 w0 _ ?side1 ?side2 A40.out).mono ?_
       (case side1 => exact z1_0)
       (case side2 => exact z1_1)
       rintro e w49 ⟨rfl, hi, hb, hk⟩
       have HS2_ := keep_cell hk (hHeld.2.2) (by first | (rw [add_block]; exact Kd.own_blk (IsS66.own_ne HI0.out HO_135001.out (by decide))) | (show (Addr.add _ _).block ≠ _; rw [add_block]; exact Kd.own_blk (IsS66.own_ne HI0.out HO_135001.out (by decide))) | exact Kd.own_blk (IsS66.own_ne HI0.out HO_135001.out (by decide)))
       refine ⟨_, rfl, ?_⟩
       have n0_ := Aside0.mk (Kd.qt0 (Kd.qf1 (IsS66.apart (show IsS66 w0 _ g s0_0 t154 t155 from z1_0) z1_11 (by decide)) hk (fun _ h => h.2)) (fun _ h => h.1))
       have n1_ := Aside0.mk (qd0.blk hk (g' := gb127) (o := .cells #[.int .i64 0, .slice none 0 0] 26 (0, 0)) z1_7 NB127_0.out (by simp))
       have n2_ := Aside0.mk (qd0.blk hk (g' := gb134) (o := .cells #[.int .i64 x135000_24, .slice (some ad156) x135001_1.length co47] 26 (0, 0)) z1_9 NB134_0.out (by simp))
       have n3_ := Aside0.mk (qd0.trans z1_2 hk (.inl rfl))
       have n4_ := Aside0.mk (hb)
       have n5_ := Aside0.mk (hi)
       clear HO_135001
       clear BK127
       clear BK134
       clear HK
       clear HB
       clear HI0
       have HO_135001 := n0_
       have BK127 := n1_
       have BK134 := n2_
       have HK := n3_
       have HB := n4_
       have HI0 := n5_
       clear n0_ n1_ n2_ n3_ n4_ n5_
       (try clear hb)
       (try clear hb2)
       (try clear hk)
       (try clear hi)
       have p42 : 0 ≤ (1 : Int) := (by omega)
       have q42 : (1 : Int) < ((x135001_1.length : Int) : Int) := of_decide_eq_true z1_22
       have qi42 : (1 < x135001_1.length) = True := eq_true (by omega)
       obtain ⟨go42, co42, eo42, gb42, gl42, cl42, HG42⟩ := Kd.R_form HO_135001.out (by omega)
       (first | cases eo42 | (injection eo42 with ea_ en_ ec_; (first | subst ea_ | (injection ea_ with ea_; subst ea_)); subst ec_; clear en_))
       have GB42 := Aside0.mk gb42
       have GG42 := Aside0.mk HG42
       clear gb42 gl42 HG42
       (first | simp only [add_plain] at hx156_0 | skip)
       obtain ⟨hx42_0, hf42_0⟩ := Kd.R_celln 0 HO_135001.out (1 : Int) p42 q42
       (try rw [show ((1 : Int)).toNat = 1 from rfl] at hx42_0)
       (try simp only [Nat.reduceMul, Nat.zero_mul, Nat.zero_add, Nat.reduceAdd] at hx42_0)
       (try rw [show ((1 : Int)).toNat = 1 from rfl] at hf42_0)
       (try simp only [Nat.reduceMul, Nat.zero_mul, Nat.zero_add, Nat.reduceAdd] at hf42_0)
       replace p42 := eq_true p42
       replace q42 := eq_true q42
       have HN0_go42 := Aside0.mk (show g ≠ go42 from by have h_ := IsS66.own_ne HI0.out HO_135001.out (by decide); intro e_; exact h_ (by rw [e_]; rfl))
       have HP50 := Kd.R_putn HO_135001.out (1 : Int) (wrap64 ((rd x135001_1 0) - t157))
       rw [← Ny160.out] at HP50
       have HQ50 := Aside0.mk HP50
       clear HP50
       refine hK.out _ _ ⟨(qb0 BK134.out 0).trans rfl, (qb0 BK134.out 1).trans rfl, HS2_⟩ (fun hHeld => ?_)
       clear hK K
       refine norm_ (a' := ?_) ?_ ?_
       rotate_left
       ·show Act.put _ (some 48) _ = _
        simp only [Act.put, List.setIfInBounds_toArray, List.set_cons_zero, List.set_cons_succ, i64_w, i32_w]
        rfl
       refine pure_ (i := 8) (N := some 49) (v := ?_) (a' := ?_) #[true, true, true, true, true, true, true, true, true, false, false] rfl rfl (any_of HT_.out z1_23) (fun _ _ _ h => h) (Or.inl ⟨by rfl, ?_⟩) ?_ ?_
       rotate_left
       ·intro w'
        go_simp
        with_reducible rfl
       rotate_left
       ·simp only [Act.put, List.setIfInBounds_toArray, List.set_cons_zero, List.set_cons_succ, i64_w, i32_w]
        rfl
       refine pure_ (i := 9) (N := some 50) (v := ?_) (a' := ?_) #[true, true, true, true, true, true, true, true, true, true, false] rfl rfl (any_of HT_.out z1_23) (fun _ _ _ h => h) (Or.inl ⟨by rfl, ?_⟩) ?_ ?_
       rotate_left
       ·intro w'
        go_simp
        with_reducible rfl
       rotate_left
       ·simp only [Act.put, List.setIfInBounds_toArray, List.set_cons_zero, List.set_cons_succ, i64_w, i32_w]
        rfl
       refine last_ (i := 10) (N := none) #[true, true, true, true, true, true, true, true, true, true, true] rfl rfl (one_of HT_.out z1_23) (by decide) (fun K hK => ?_)
       refine skip_ (w1 := ?_) (by rfl) rfl ?_ ?_
       rotate_left
       ·go_simp
        rfl
       refine hK.out _ _ ?_
       clear hK K
       refine done_ (done_of HT_.out z1_23) ?_
       have n0_ : Aside0 (Kd.R (Kd.int .i64) 3 (w49.setCell ⟨go42, 1, none⟩ (.int .i64 (wrap64 ((rd x135001_1 0) - t157)))) w.heap.size (fun _ => True) (.slice (some ⟨go42, 0, none⟩) x135001_1.length co47) y160) := ⟨by (with_reducible repeat (first | apply Kd.qx0 | apply Kd.qw0 | apply Kd.R_drew)); exact HQ50.out⟩
       have n1_ : Aside0 ((w49.setCell ⟨go42, 1, none⟩ (.int .i64 (wrap64 ((rd x135001_1 0) - t157)))).heap[gb127]? = some (.cells #[.int .i64 0, .slice none 0 0] 26 (0, 0))) := ⟨by (with_reducible repeat (first | refine qj0 ?_ _ | refine qk0 ?_ | refine qg0 ?_ _)); refine blk_far ?_ (by have h_ := Kd.R_ne HO_135001.out BK127.out (by decide); intro e_; exact h_ (by rw [e_]; rfl)) _; (with_reducible repeat (first | refine qj0 ?_ _ | refine qk0 ?_ | refine qg0 ?_ _)); exact BK127.out⟩
       have n2_ : Aside0 ((w49.setCell ⟨go42, 1, none⟩ (.int .i64 (wrap64 ((rd x135001_1 0) - t157)))).heap[gb134]? = some (.cells #[.int .i64 x135000_24, .slice (some ⟨go42, 0, none⟩) x135001_1.length co47] 26 (0, 0))) := ⟨by (with_reducible repeat (first | refine qj0 ?_ _ | refine qk0 ?_ | refine qg0 ?_ _)); refine blk_far ?_ (by have h_ := Kd.R_ne HO_135001.out BK134.out (by decide); intro e_; exact h_ (by rw [e_]; rfl)) _; (with_reducible repeat (first | refine qj0 ?_ _ | refine qk0 ?_ | refine qg0 ?_ _)); exact BK134.out⟩
       have n3_ : Aside0 (IsS66 w0 (w49.setCell ⟨go42, 1, none⟩ (.int .i64 (wrap64 ((rd x135001_1 0) - t157)))) g s0_0 t158 t159) := ⟨by repeat (first | (with_reducible first | exact HI0.out | apply IsS66.alloc | apply IsS66.drewN | apply IsS66.drew | apply IsS66.set_1 | apply IsS66.set_2 | refine IsS66.far ?_ HN0_go42.out _ | refine IsS66.far ?_ NB0_127.out _ | refine IsS66.far ?_ NB0_134.out _) | exact HI0.out)⟩
       have n4_ : Aside0 (qd0 w (w49.setCell ⟨go42, 1, none⟩ (.int .i64 (wrap64 ((rd x135001_1 0) - t157)))) g none) := ⟨by repeat (first | (with_reducible first | exact HK.out | apply qd0.set_ | apply keep_drewN | apply keep_drew | apply keep_alloc | refine keep_far ?_ GB42.out _ | refine keep_far ?_ GW127.out _ | refine keep_far ?_ GW134.out _) | exact HK.out)⟩
       have n5_ : Aside0 (Below w0.heap.size w0 (w49.setCell ⟨go42, 1, none⟩ (.int .i64 (wrap64 ((rd x135001_1 0) - t157))))) := ⟨by repeat (first | (with_reducible first | exact HB.out | apply qh0 | apply qe0 | apply qi0 | refine qo0 ?_ (Nat.le_trans HL.out GB42.out) | refine qo0 ?_ (IsS66.ge HI0.out) | refine qo0 ?_ GE127.out | refine qo0 ?_ GE134.out) | exact HB.out)⟩
       (try clear HO_135001)
       (try clear BK127)
       (try clear BK134)
       (try clear HI0)
       (try clear HK)
       (try clear HB)
       generalize (w49.setCell ⟨go42, 1, none⟩ (.int .i64 (wrap64 ((rd x135001_1 0) - t157)))) = w51 at n0_ n1_ n2_ n3_ n4_ n5_ ⊢
       have HO_135001 := n0_
       have BK127 := n1_
       have BK134 := n2_
       have HI0 := n3_
       have HK := n4_
       have HB := n5_
       clear n0_ n1_ n2_ n3_ n4_ n5_
       have hcz52_0 : w51.cell? ⟨gb134, 0, none⟩ = some (.int .i64 x135000_24) := (qb0 BK134.out 0).trans rfl
       have hcz52_1 : w51.cell? ⟨gb134, 1, none⟩ = some (.slice (some ⟨go42, 0, none⟩) x135001_1.length co47) := (qb0 BK134.out 1).trans rfl
       have hfz52_0 := qa0 BK134.out 0
       have hfz52_1 := qa0 BK134.out 1
       have hnb53 := NB127_0.out
       have hnc53 := NB0_127.out
       have hcz54_0 : w51.cell? ⟨gb127, 0, none⟩ = some (.int .i64 0) := (qb0 BK127.out 0).trans rfl
       have hcz54_1 : w51.cell? ⟨gb127, 1, none⟩ = some (.slice none 0 0) := (qb0 BK127.out 1).trans rfl
       have hfz54_0 := qa0 BK127.out 0
       have hfz54_1 := qa0 BK127.out 1
       try go_wp2
       refine bodyPost_ret (results_cell_row rfl _ _ gb127 26 #[.int .i64 x135000_24, .slice (some ⟨go42, 0, none⟩) x135001_1.length co47] (0, 0) _ rfl z1_8 Try.underlying26 rfl z1_23) rfl ?_
       exact ⟨_, z1_13, by (with_reducible repeat (first | apply Kd.qx0 | apply Kd.qw0 | apply Kd.R_drew)); exact Kd.qt0 (Kd.R_far (p := ⟨gb127, 1, none⟩) (Kd.R_far (p := ⟨gb127, 0, none⟩) (Kd.R_types HO_135001.out BK127.out (by decide)) (fun _ hk => hk.2) (.int .i64 x135000_24)) (fun _ hk => hk.2) (.slice (some ⟨go42, 0, none⟩) x135001_1.length co47)) (fun _ hk => trivial), z1_0, z1_1, z1_2⟩
      rw [if_neg c38] at H
      have c38b0 : decide (1 < (x135001_1.length : Int)) = false := decide_eq_false c38
      have c38b1 : decide (1 < x135001_1.length) = false := decide_eq_false (by omega)
      clear c38
      simp only [Option.some.injEq, Prod.mk.injEq] at H
      obtain ⟨rfl, rfl, rfl, rfl⟩ := H
      go_wp2_with (first | ((with_reducible refine qc0 (f := 44) rfl ?_); refine qm0 (some 34) rfl rfl Try.func44 z1_23 rfl #[.pointer (some ⟨g, 0, none⟩), .int .i64 30] rfl z1_6 ?_; (with_reducible refine (spec_l1Once.calls g s0_0 x1001_24 x1002_24 30 true t154 t155 w0 _ ?side1 ?side2 A36.out).mono ?_); (case side1 => exact z1_0); (case side2 => exact z1_1); rintro e w55 ⟨rfl, hi, hb, hk⟩; refine ⟨_, rfl, ?_⟩; have n0_ := Aside0.mk (Kd.qt0 (Kd.qf1 (IsS66.apart (show IsS66 w0 _ g s0_0 x1001_24 x1002_24 from z1_0) z1_11 (by decide)) hk (fun _ h => h.2)) (fun _ h => h.1)); have n1_ := Aside0.mk (qd0.blk hk (g' := gb127) (o := .cells #[.int .i64 0, .slice none 0 0] 26 (0, 0)) z1_7 NB127_0.out (by simp)); have n2_ := Aside0.mk (qd0.blk hk (g' := gb134) (o := .cells #[.int .i64 x135000_24, u135001] 26 (0, 0)) z1_9 NB134_0.out (by simp)); have n3_ := Aside0.mk (qd0.trans z1_2 hk (.inl rfl)); have n4_ := Aside0.mk (hb); have n5_ := Aside0.mk (hi); clear HO_135001; clear BK127; clear BK134; clear HK; clear HB; clear HI0; have HO_135001 := n0_; have BK127 := n1_; have BK134 := n2_; have HK := n3_; have HB := n4_; have HI0 := n5_; clear n0_ n1_ n2_ n3_ n4_ n5_; (try clear hb); (try clear hb2); (try clear hk); (try clear hi); have hnb56 := NB134_127.out; have hnc56 := NB127_134.out; have hnb57 := NB134_0.out; have hnc57 := NB0_134.out; have hcz58_0 : w55.cell? ⟨gb134, 0, none⟩ = some (.int .i64 x135000_24) := (qb0 BK134.out 0).trans rfl; have hcz58_1 : w55.cell? ⟨gb134, 1, none⟩ = some (u135001) := (qb0 BK134.out 1).trans rfl; have hfz58_0 := qa0 BK134.out 0; have hfz58_1 := qa0 BK134.out 1; obtain ⟨Ao59, co59, eo59⟩ := Kd.R_slice HO_135001.out; subst eo59; have hnb60 := NB127_0.out; have hnc60 := NB0_127.out; have hcz61_0 : w55.cell? ⟨gb127, 0, none⟩ = some (.int .i64 0) := (qb0 BK127.out 0).trans rfl; have hcz61_1 : w55.cell? ⟨gb127, 1, none⟩ = some (.slice none 0 0) := (qb0 BK127.out 1).trans rfl; have hfz61_0 := qa0 BK127.out 0; have hfz61_1 := qa0 BK127.out 1))
      refine bodyPost_ret (results_cell_row rfl _ _ gb127 26 #[.int .i64 x135000_24, .slice Ao59 x135001_1.length co59] (0, 0) _ rfl z1_8 Try.underlying26 rfl z1_23) rfl ?_
      exact ⟨_, z1_13, by (with_reducible repeat (first | apply Kd.qx0 | apply Kd.qw0 | apply Kd.R_drew)); exact Kd.qt0 (Kd.R_far (p := ⟨gb127, 1, none⟩) (Kd.R_far (p := ⟨gb127, 0, none⟩) (Kd.R_types HO_135001.out BK127.out (by decide)) (fun _ hk => hk.2) (.int .i64 x135000_24)) (fun _ hk => hk.2) (.slice Ao59 x135001_1.length co59)) (fun _ hk => trivial), z1_0, z1_1, z1_2⟩
     replace c37 := Bool.eq_false_iff.mpr c37
     subst c37
     have H1 : (some (x135000_24, x135001_1, t154, t155)) = some (r1, r2, r3, r4) := by rw [if_neg (show ¬ (false = true) by decide)] at H; exact H
     clear H
     have H := H1
     clear H1
     simp only [Option.some.injEq, Prod.mk.injEq] at H
     obtain ⟨rfl, rfl, rfl, rfl⟩ := H
     go_wp2_with (first | ((with_reducible refine qc0 (f := 44) rfl ?_); refine qm0 (some 34) rfl rfl Try.func44 z1_23 rfl #[.pointer (some ⟨g, 0, none⟩), .int .i64 30] rfl z1_6 ?_; (with_reducible refine (spec_l1Once.calls g s0_0 x1001_24 x1002_24 30 false t154 t155 w0 _ ?side1 ?side2 A36.out).mono ?_); (case side1 => exact z1_0); (case side2 => exact z1_1); rintro e w62 ⟨rfl, hi, hb, hk⟩; refine ⟨_, rfl, ?_⟩; have n0_ := Aside0.mk (Kd.qt0 (Kd.qf1 (IsS66.apart (show IsS66 w0 _ g s0_0 x1001_24 x1002_24 from z1_0) z1_11 (by decide)) hk (fun _ h => h.2)) (fun _ h => h.1)); have n1_ := Aside0.mk (qd0.blk hk (g' := gb127) (o := .cells #[.int .i64 0, .slice none 0 0] 26 (0, 0)) z1_7 NB127_0.out (by simp)); have n2_ := Aside0.mk (qd0.blk hk (g' := gb134) (o := .cells #[.int .i64 x135000_24, u135001] 26 (0, 0)) z1_9 NB134_0.out (by simp)); have n3_ := Aside0.mk (qd0.trans z1_2 hk (.inl rfl)); have n4_ := Aside0.mk (hb); have n5_ := Aside0.mk (hi); clear HO_135001; clear BK127; clear BK134; clear HK; clear HB; clear HI0; have HO_135001 := n0_; have BK127 := n1_; have BK134 := n2_; have HK := n3_; have HB := n4_; have HI0 := n5_; clear n0_ n1_ n2_ n3_ n4_ n5_; (try clear hb); (try clear hb2); (try clear hk); (try clear hi); have hnb63 := NB134_127.out; have hnc63 := NB127_134.out; have hnb64 := NB134_0.out; have hnc64 := NB0_134.out; have hcz65_0 : w62.cell? ⟨gb134, 0, none⟩ = some (.int .i64 x135000_24) := (qb0 BK134.out 0).trans rfl; have hcz65_1 : w62.cell? ⟨gb134, 1, none⟩ = some (u135001) := (qb0 BK134.out 1).trans rfl; have hfz65_0 := qa0 BK134.out 0; have hfz65_1 := qa0 BK134.out 1; have hnb66 := NB127_0.out; have hnc66 := NB0_127.out; have hcz67_0 : w62.cell? ⟨gb127, 0, none⟩ = some (.int .i64 0) := (qb0 BK127.out 0).trans rfl; have hcz67_1 : w62.cell? ⟨gb127, 1, none⟩ = some (.slice none 0 0) := (qb0 BK127.out 1).trans rfl; have hfz67_0 := qa0 BK127.out 0; have hfz67_1 := qa0 BK127.out 1; obtain ⟨Ao68, co68, eo68⟩ := Kd.R_slice HO_135001.out; subst eo68))
     refine bodyPost_ret (results_cell_row rfl _ _ gb127 26 #[.int .i64 x135000_24, .slice Ao68 x135001_1.length co68] (0, 0) _ rfl z1_8 Try.underlying26 rfl z1_23) rfl ?_
     exact ⟨_, z1_13, by (with_reducible repeat (first | apply Kd.qx0 | apply Kd.qw0 | apply Kd.R_drew)); exact Kd.qt0 (Kd.R_far (p := ⟨gb127, 1, none⟩) (Kd.R_far (p := ⟨gb127, 0, none⟩) (Kd.R_types HO_135001.out BK127.out (by decide)) (fun _ hk => hk.2) (.int .i64 x135000_24)) (fun _ hk => hk.2) (.slice Ao68 x135001_1.length co68)) (fun _ hk => trivial), z1_0, z1_1, z1_2⟩

end Go.Proofs.Ytggfggmmecbdnaa.PFnWorkBack
