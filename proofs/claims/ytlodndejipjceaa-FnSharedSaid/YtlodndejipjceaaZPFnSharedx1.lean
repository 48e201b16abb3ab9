/- Lines by a program (a changed copy of the kit's print: this repo's wip/tools): Go functions as Lean functions, and proofs that the calls answer so. -/
import Derived.Test.YtlodndejipjceaaZPFnSharedx0
namespace Go.Proofs.Ytlodndejipjceaa.PFnShared
open Go.RowKit Go.Proofs.YtlodndejipjceaaW.PrintWords Go.Proofs.YtlodndejipjceaaW.PrintLast Go.Proofs.YtlodndejipjceaaW.PrintMore
attribute [local go_sem] max2_int min2_int max_two min_two max_three min_three max_four min_four   -- for this text's walks alone
set_option linter.unusedVariables false
set_option linter.unusedSimpArgs false

/-! ### laws_big: function 15 -/
def laws_big.f (l0 : List Int) : Option (Bool) := some (decide ((l0.length : Int) > 1048576))
set_option maxHeartbeats 8000000 in
set_option maxRecDepth 100000 in
theorem laws_big.calls (A0 : Option Addr) (c0 : Nat) (l0 : List Int) (r : Bool) (w : World) (hr0 : Kd.C (Kd.int .u8) w A0 l0.length l0) (hc0 : l0.length ≤ c0) (h : laws_big.f l0 = some r) :
  Calls Try.prog 15 #[.slice A0 l0.length c0] w fun e w' => e = .returned (.bool r) ∧ Drawn0 w w' := by
 have HR0 := Aside0.mk hr0
 have HC0 := Aside0.mk hc0
 clear hr0 hc0
 have H : (some (decide ((l0.length : Int) > 1048576))) = some r := h
 clear h
 obtain rfl := Option.some.inj H
 go_enter Try.func15, Try.ntmps15
 go_wp2
 go_ret
 exact ⟨by first | rfl | (simp; done) | (simp [*]; done), by repeat (first | exact Drawn0.refl _ | apply Drawn0.step)⟩

/-! ### laws_sum: function 19 -/
def laws_sum.l0 : Nat → List Int → Int → Int → Option (Int)
 | 0, _, _, _ => none
 | k + 1, x0, x3, x4 => if x4 < (x0.length : Int) then (if 0 ≤ x4 then (laws_sum.l0 k x0 (wrap64 (x3 + (rd x0 x4))) (wrap64 (x4 + 1))) else (none)) else (some x3)
def laws_sum.f (k : Nat) (l0 : List Int) : Option (Int) := laws_sum.l0 k l0 0 0
theorem laws_sum.mono_l : ∀ k, (∀ y0 y1 y2, LeO (laws_sum.l0 k y0 y1 y2) (laws_sum.l0 (k + 1) y0 y1 y2))
 | 0 => fun _ _ _ r h => by simp [laws_sum.l0] at h
 | k + 1 => by
  have ih0 := laws_sum.mono_l k
  ·intro y0 y1 y2
   unfold laws_sum.l0
   repeat' first
   | (with_reducible exact ih0 _ _ _)
   | (with_reducible exact LeO.refl _)
   | (with_reducible exact LeO.none _)
   | (with_reducible refine LeO.ite ?_ ?_)
   | (with_reducible refine LeO.bind ?_ (fun _ => ?_))
   | exact ih0 _ _ _
   | exact LeO.none _
   | refine LeO.ite ?_ ?_
   | refine LeO.bind ?_ (fun _ => ?_)
theorem laws_sum.mono : ∀ a0 k, LeO (laws_sum.f k a0) (laws_sum.f (k + 1) a0) := by
 intro a0 k
 have ih0 := laws_sum.mono_l k
 unfold laws_sum.f
 repeat' first
   | (with_reducible exact ih0 _ _ _)
   | (with_reducible exact LeO.refl _)
   | (with_reducible exact LeO.none _)
   | (with_reducible refine LeO.ite ?_ ?_)
   | (with_reducible refine LeO.bind ?_ (fun _ => ?_))
   | exact ih0 _ _ _
   | exact LeO.none _
   | refine LeO.ite ?_ ?_
   | refine LeO.bind ?_ (fun _ => ?_)
set_option maxHeartbeats 8000000 in
set_option maxRecDepth 100000 in
theorem laws_sum.calls (k : Nat) (A0 : Option Addr) (c0 : Nat) (l0 : List Int) (r : Int) (w : World) (hr0 : Kd.C (Kd.int .i64) w A0 l0.length l0) (hc0 : l0.length ≤ c0) (h : laws_sum.f k l0 = some r) :
  Calls Try.prog 19 #[.slice A0 l0.length c0] w fun e w' => e = .returned (.int .i64 r) ∧ Drawn0 w w' := by
 have HR0 := Aside0.mk hr0
 have HC0 := Aside0.mk hc0
 clear hr0 hc0
 have H : (laws_sum.l0 k l0 0 0) = some r := h
 clear h
 have H' := Aside0.mk H
 clear H
 go_enter Try.func19, Try.ntmps19
 go_wp2
 go_loopg [3, 4] k (fun kq v3 v4 w' => ∃ (x3_1 : Int) (x4_1 : Int), v3 = .int .i64 x3_1 ∧ v4 = .int .i64 x4_1 ∧ Aside0 (laws_sum.l0 kq l0 x3_1 x4_1 = some r) ∧ Aside0 (kq ≤ k) ∧ Drawn0 w w')
 case atStart => exact ⟨(0), (0), (by first | rfl | (simp; done) | (simp [*]; done)), (by first | rfl | (simp; done) | (simp [*]; done)), H', ⟨Nat.le_refl _⟩, by repeat (first | exact Drawn0.refl _ | apply Drawn0.step)⟩
 case round =>
  clear H'
  try clear c1
  obtain ⟨x3_1, x4_1, rfl, rfl, HA, HK1, ⟨m1, rfl⟩⟩ := hrel
  cases gk with
  | zero => exact absurd HA.out (by simp [laws_sum.l0])
  | succ k1 =>
   have H := HA.out
   clear HA
   simp only [laws_sum.l0] at H
   by_cases c2 : x4_1 < (l0.length : Int)
   ·rw [if_pos c2] at H
    have c2b0 : decide (x4_1 < (l0.length : Int)) = true := decide_eq_true c2
    clear c2
    by_cases c3 : 0 ≤ x4_1
    case neg => rw [if_neg c3] at H; exact absurd H (by simp)
    rw [if_pos c3] at H
    have c3b0 : decide (0 ≤ x4_1) = true := decide_eq_true c3
    clear c3
    have H' := Aside0.mk H
    clear H
    have p101 : 0 ≤ (x4_1 : Int) := of_decide_eq_true (by first | (with_reducible assumption) | assumption)
    have q101 : x4_1 < (l0.length : Int) := of_decide_eq_true (by first | (with_reducible assumption) | assumption)
    obtain ⟨ad101, e101, hx101_0⟩ := Kd.qf1 HR0.out x4_1 p101 q101
    cases e101
    replace p101 := eq_true p101
    replace q101 := eq_true q101
    go_wp2
    go_roundg k1
    case measure => have := HK1.out; omega
    case rel => exact ⟨(wrap64 (x3_1 + (rd l0 x4_1))), (wrap64 (x4_1 + 1)), (by first | rfl | (simp; done) | (simp [*]; done)), (by first | rfl | (simp; done) | (simp [*]; done)), H', ⟨by have := HK1.out; omega⟩, by repeat (first | exact Drawn0.refl _ | apply Drawn0.step)⟩
   rw [if_neg c2] at H
   have c2b0 : decide (x4_1 < (l0.length : Int)) = false := decide_eq_false c2
   clear c2
   obtain rfl := Option.some.inj H
   go_wp2
   go_ret
   exact ⟨by first | rfl | (simp; done) | (simp [*]; done), by repeat (first | exact Drawn0.refl _ | apply Drawn0.step)⟩

/-- A state of type 207 at block g of W; what its slices lead to came in by w0. -/
def IsS207 (w0 W : World) (g : Nat) (f0 : List Int) (f1 : Int) (f2 : Int) : Prop := ∃ A0 c0, W.heap[g]? = some (.cells #[.slice A0 f0.length c0, .int .i64 f1, .int .i64 f2] 207 (0, 0)) ∧ w0.heap.size ≤ g ∧ Kd.C (Kd.int .u8) w0 A0 f0.length f0
theorem IsS207.grown {w0 W : World} {g : Nat} {f0 : List Int} {f1 : Int} {f2 : Int} {W1 : World} {row : Option Nat} (h : IsS207 w0 W g f0 f1 f2) (hw : W.grownBy W1 row) (hne : some g ≠ row) : IsS207 w0 W1 g f0 f1 f2 := by
 obtain ⟨A0, c0, hb, hg, hr0⟩ := h
 exact ⟨A0, c0, blk_grown hb hw hne, hg, hr0⟩
theorem IsS207.kept {w0 W : World} {g : Nat} {f0 : List Int} {f1 : Int} {f2 : Int} {W1 : World} {S : Nat → Prop} (h : IsS207 w0 W g f0 f1 f2) (hk : Kept W W1 S) (hne : ¬ S g) : IsS207 w0 W1 g f0 f1 f2 := by
 obtain ⟨A0, c0, hb, hg, hr0⟩ := h
 exact ⟨A0, c0, blk_kept hb hk hne, hg, hr0⟩
theorem IsS207.below {w0 W : World} {g : Nat} {f0 : List Int} {f1 : Int} {f2 : Int} {W1 : World} (h : IsS207 w0 W g f0 f1 f2) (hw : Below W.heap.size W W1) : IsS207 w0 W1 g f0 f1 f2 := h.grown (grown_of_below hw none) (by simp)
theorem IsS207.alloc {w0 W : World} {g : Nat} {f0 : List Int} {f1 : Int} {f2 : Int} (h : IsS207 w0 W g f0 f1 f2) (o : Obj) : IsS207 w0 (W.alloc o) g f0 f1 f2 := h.below (qb0 (Below.refl _ _) o)
theorem IsS207.drewN {w0 W : World} {g : Nat} {f0 : List Int} {f1 : Int} {f2 : Int} (h : IsS207 w0 W g f0 f1 f2) (m : Nat) : IsS207 w0 (W.drewN m) g f0 f1 f2 := h
theorem IsS207.drew {w0 W : World} {g : Nat} {f0 : List Int} {f1 : Int} {f2 : Int} (h : IsS207 w0 W g f0 f1 f2) : IsS207 w0 W.drew g f0 f1 f2 := h
theorem IsS207.at_ {w0 W : World} {g : Nat} {f0 : List Int} {f1 : Int} {f2 : Int} {w' : World} {m : Nat} (hq : W.drewN m = w') (h : IsS207 w0 W g f0 f1 f2) : IsS207 w0 w' g f0 f1 f2 := by subst hq; exact IsS207.drewN h m
theorem IsS207.apart {w0 W : World} {g : Nat} {f0 : List Int} {f1 : Int} {f2 : Int} {α : Type} {d : Kd α} {e : Nat} {base : Nat} {ok : Nat → Prop} {v : Value} {xs : List α} (h : IsS207 w0 W g f0 f1 f2) (ho : d.R e W base ok v xs) (ht : ∀ q, q ∈ e :: d.E → q ≠ 207) : d.R e W base (fun k => ok k ∧ k ≠ g) v xs := by
 obtain ⟨A0, c0, hb, hg, hr0⟩ := h
 exact Kd.R_types ho hb ht
theorem IsS207.own_ne {w0 W : World} {g : Nat} {f0 : List Int} {f1 : Int} {f2 : Int} {α : Type} {d : Kd α} {e : Nat} {base : Nat} {ok : Nat → Prop} {v : Value} {xs : List α} (h : IsS207 w0 W g f0 f1 f2) (ho : d.R e W base ok v xs) (ht : e ≠ 207) : some g ≠ v.ownBlock := by
 obtain ⟨A0, c0, hb, hg, hr0⟩ := h
 exact Kd.R_ne ho hb ht
theorem IsS207.lt {w0 W : World} {g : Nat} {f0 : List Int} {f1 : Int} {f2 : Int} (h : IsS207 w0 W g f0 f1 f2) : g < W.heap.size := by
 obtain ⟨A0, c0, hb, hg, hr0⟩ := h
 exact blk_lt hb
theorem IsS207.ge {w0 W : World} {g : Nat} {f0 : List Int} {f1 : Int} {f2 : Int} (h : IsS207 w0 W g f0 f1 f2) : w0.heap.size ≤ g := by
 obtain ⟨A0, c0, hb, hg, hr0⟩ := h
 exact hg
theorem cellS207_0 {W : World} {g : Nat} {A0 : Option Addr} {c0 : Nat} {f0 : List Int} {f1 : Int} {f2 : Int} (h : W.heap[g]? = some (.cells #[.slice A0 f0.length c0, .int .i64 f1, .int .i64 f2] 207 (0, 0))) : W.cell? ⟨g, 0, none⟩ = some (.slice A0 f0.length c0) := (blk_cell h 0).trans rfl
theorem cellS207_1 {W : World} {g : Nat} {A0 : Option Addr} {c0 : Nat} {f0 : List Int} {f1 : Int} {f2 : Int} (h : W.heap[g]? = some (.cells #[.slice A0 f0.length c0, .int .i64 f1, .int .i64 f2] 207 (0, 0))) : W.cell? ⟨g, 1, none⟩ = some (.int .i64 f1) := (blk_cell h 1).trans rfl
theorem IsS207.set_1 {w0 W : World} {g : Nat} {f0 : List Int} {f1 : Int} {f2 : Int} (h : IsS207 w0 W g f0 f1 f2) (x : Int) : IsS207 w0 (W.setCell ⟨g, 1, none⟩ (.int .i64 x)) g f0 x f2 := by
 obtain ⟨A0, c0, hb, hg, hr0⟩ := h
 exact ⟨A0, c0, by simpa using blk_set hb 1 (.int .i64 x), hg, hr0⟩
theorem cellS207_2 {W : World} {g : Nat} {A0 : Option Addr} {c0 : Nat} {f0 : List Int} {f1 : Int} {f2 : Int} (h : W.heap[g]? = some (.cells #[.slice A0 f0.length c0, .int .i64 f1, .int .i64 f2] 207 (0, 0))) : W.cell? ⟨g, 2, none⟩ = some (.int .i64 f2) := (blk_cell h 2).trans rfl
theorem IsS207.set_2 {w0 W : World} {g : Nat} {f0 : List Int} {f1 : Int} {f2 : Int} (h : IsS207 w0 W g f0 f1 f2) (x : Int) : IsS207 w0 (W.setCell ⟨g, 2, none⟩ (.int .i64 x)) g f0 f1 x := by
 obtain ⟨A0, c0, hb, hg, hr0⟩ := h
 exact ⟨A0, c0, by simpa using blk_set hb 2 (.int .i64 x), hg, hr0⟩
/-! ### spec_l1New: function 82 -/
def spec_l1New.l0 : Nat → List Int → Int → Int → Option (List Int × Int × Int)
 | 0, _, _, _ => none
 | k + 1, x0, x3, x4 => if x4 < (x0.length : Int) then (if x4 < 4000 then (if 0 ≤ x4 then (spec_l1New.l0 k x0 (Go.bits .and .i64 (wrap64 ((wrap64 ((wrap64 (x3 * 131)) + (wrap64 (rd x0 x4)))) + 7)) 1073741823) (wrap64 (x4 + 1))) else (none)) else (some (x0, 0, x3))) else (some (x0, 0, x3))
def spec_l1New.f (k : Nat) (l0 : List Int) : Option (List Int × Int × Int) := spec_l1New.l0 k l0 (wrap64 (71933 + (l0.length : Int))) 0
theorem spec_l1New.mono_l : ∀ k, (∀ y0 y1 y2, LeO (spec_l1New.l0 k y0 y1 y2) (spec_l1New.l0 (k + 1) y0 y1 y2))
 | 0 => fun _ _ _ r h => by simp [spec_l1New.l0] at h
 | k + 1 => by
  have ih0 := spec_l1New.mono_l k
  ·intro y0 y1 y2
   unfold spec_l1New.l0
   repeat' first
   | (with_reducible exact ih0 _ _ _)
   | (with_reducible exact LeO.refl _)
   | (with_reducible exact LeO.none _)
   | (with_reducible refine LeO.ite ?_ ?_)
   | (with_reducible refine LeO.bind ?_ (fun _ => ?_))
   | exact ih0 _ _ _
   | exact LeO.none _
   | refine LeO.ite ?_ ?_
   | refine LeO.bind ?_ (fun _ => ?_)
theorem spec_l1New.mono : ∀ a0 k, LeO (spec_l1New.f k a0) (spec_l1New.f (k + 1) a0) := by
 intro a0 k
 have ih0 := spec_l1New.mono_l k
 unfold spec_l1New.f
 repeat' first
   | (with_reducible exact ih0 _ _ _)
   | (with_reducible exact LeO.refl _)
   | (with_reducible exact LeO.none _)
   | (with_reducible refine LeO.ite ?_ ?_)
   | (with_reducible refine LeO.bind ?_ (fun _ => ?_))
   | exact ih0 _ _ _
   | exact LeO.none _
   | refine LeO.ite ?_ ?_
   | refine LeO.bind ?_ (fun _ => ?_)
set_option maxHeartbeats 8000000 in
set_option maxRecDepth 100000 in
theorem spec_l1New.calls (k : Nat) (A0 : Option Addr) (c0 : Nat) (l0 : List Int) (r1 : List Int) (r2 : Int) (r3 : Int) (w0 w : World) (hB : Below w0.heap.size w0 w) (hr0 : Kd.C (Kd.int .u8) w0 A0 l0.length l0) (hc0 : l0.length ≤ c0) (h : spec_l1New.f k l0 = some (r1, r2, r3)) :
  Calls Try.prog 82 #[.slice A0 l0.length c0] w fun e w' => ∃ g_ : Nat, e = .returned (.pointer (some ⟨g_, 0, none⟩)) ∧ IsS207 w0 w' g_ r1 r2 r3 ∧ Below w0.heap.size w0 w' ∧ Below w.heap.size w w' := by
 have hu207 := Try.underlying207
 have HR0 := Aside0.mk hr0
 have HC0 := Aside0.mk hc0
 clear hr0 hc0
 have HBW := Aside0.mk (Below.refl w.heap.size w)
 have HW0 := Aside0.mk hB.size
 have HB := Aside0.mk hB
 clear hB
 have H : (spec_l1New.l0 k l0 (wrap64 (71933 + (l0.length : Int))) 0) = some (r1, r2, r3) := h
 clear h
 have H' := Aside0.mk H
 clear H
 go_enter Try.func82, Try.ntmps82
 go_wp2
 go_loopg [3, 4] k (fun kq v3 v4 w' => ∃ (x3_1 : Int) (x4_1 : Int), v3 = .int .i64 x3_1 ∧ v4 = .int .i64 x4_1 ∧ Aside0 (spec_l1New.l0 kq l0 x3_1 x4_1 = some (r1, r2, r3)) ∧ Aside0 (kq ≤ k) ∧ Aside0 (Below w.heap.size w w') ∧ Aside0 (Below w0.heap.size w0 w'))
 case atStart => exact ⟨(wrap64 (71933 + (l0.length : Int))), (0), (by first | rfl | (simp; done) | (simp [*]; done)), (by first | rfl | (simp; done) | (simp [*]; done)), H', ⟨Nat.le_refl _⟩, ⟨by repeat (first | (with_reducible first | exact HBW.out | apply qb0 | apply qa0 | apply qc0) | exact HBW.out)⟩, ⟨by repeat (first | (with_reducible first | exact HB.out | apply qb0 | apply qa0 | apply qc0) | exact HB.out)⟩⟩
 case round =>
  clear H'
  obtain ⟨x3_1, x4_1, rfl, rfl, HA, HK1, HBW, HB⟩ := hrel
  cases gk with
  | zero => exact absurd HA.out (by simp [spec_l1New.l0])
  | succ k1 =>
   have H := HA.out
   clear HA
   simp only [spec_l1New.l0] at H
   by_cases c2 : x4_1 < (l0.length : Int)
   ·rw [if_pos c2] at H
    have c2b0 : decide (x4_1 < (l0.length : Int)) = true := decide_eq_true c2
    clear c2
    by_cases c3 : x4_1 < 4000
    ·rw [if_pos c3] at H
     have c3b0 : decide (x4_1 < 4000) = true := decide_eq_true c3
     clear c3
     by_cases c4 : 0 ≤ x4_1
     case neg => rw [if_neg c4] at H; exact absurd H (by simp)
     rw [if_pos c4] at H
     have c4b0 : decide (0 ≤ x4_1) = true := decide_eq_true c4
     clear c4
     have H' := Aside0.mk H
     clear H
     have p102 : 0 ≤ (x4_1 : Int) := of_decide_eq_true (by first | (with_reducible assumption) | assumption)
     have q102 : x4_1 < (l0.length : Int) := of_decide_eq_true (by first | (with_reducible assumption) | assumption)
     obtain ⟨ad102, e102, hx102_0⟩ := Kd.qf1 HR0.out x4_1 p102 q102
     cases e102
     replace hx102_0 := pw_cell_below HB.out hx102_0
     replace p102 := eq_true p102
     replace q102 := eq_true q102
     go_wp2
     go_roundg k1
     case measure => have := HK1.out; omega
     case rel => exact ⟨(Go.bits .and .i64 (wrap64 ((wrap64 ((wrap64 (x3_1 * 131)) + (wrap64 (rd l0 x4_1)))) + 7)) 1073741823), (wrap64 (x4_1 + 1)), (by first | rfl | (simp; done) | (simp [*]; done)), (by first | rfl | (simp; done) | (simp [*]; done)), H', ⟨by have := HK1.out; omega⟩, ⟨by repeat (first | (with_reducible first | exact HBW.out | apply qb0 | apply qa0 | apply qc0) | exact HBW.out)⟩, ⟨by repeat (first | (with_reducible first | exact HB.out | apply qb0 | apply qa0 | apply qc0) | exact HB.out)⟩⟩
    rw [if_neg c3] at H
    have c3b0 : decide (x4_1 < 4000) = false := decide_eq_false c3
    clear c3
    simp only [Option.some.injEq, Prod.mk.injEq] at H
    obtain ⟨rfl, rfl, rfl⟩ := H
    go_wp2_with (first | ((with_reducible refine qb1 (N := 31) rfl ?_); refine box_event ?hg (N := 31) ?hd (cs := #[.slice A0 l0.length c0, .int .i64 0, .int .i64 x3_1]) (t := 207) ?hr ?_; (case hd => rfl); (case hg => rfl); (case hr => first | (go_simp; done) | (go_simp; rfl)); intro gb103 hg w5 hbox hb; have n0_ := Aside0.mk (qo0 HBW.out hb); have n1_ := Aside0.mk (qo0 (by repeat (first | (with_reducible first | exact HB.out | apply qb0 | apply qa0 | apply qc0) | exact HB.out)) hb); have n2_ := Aside0.mk (hbox); have n3_ := Aside0.mk ((by rw [hg]; exact (qn0 (by repeat (first | (with_reducible first | exact HBW.out | apply qb0 | apply qa0 | apply qc0) | exact HBW.out))) : w.heap.size ≤ gb103)); have n4_ := Aside0.mk ((Nat.le_trans HW0.out (by rw [hg]; exact (qn0 (by repeat (first | (with_reducible first | exact HBW.out | apply qb0 | apply qa0 | apply qc0) | exact HBW.out))) : w.heap.size ≤ gb103) : w0.heap.size ≤ gb103)); clear HBW; clear HB; have HBW := n0_; have HB := n1_; have BK103 := n2_; have GW103 := n3_; have GE103 := n4_; clear n0_ n1_ n2_ n3_ n4_; clear hb hbox hg))
    go_ret
    exact ⟨_, rfl, (show IsS207 w0 _ gb103 l0 0 x3_1 from ⟨_, _, by (with_reducible repeat (first | refine blk_drewN ?_ _ | refine blk_drew ?_ | refine blk_alloc ?_ _)); exact BK103.out, GE103.out, HR0.out⟩), by repeat (first | (with_reducible first | exact HB.out | apply qb0 | apply qa0 | apply qc0 | refine qh0 ?_ GE103.out) | exact HB.out), by repeat (first | (with_reducible first | exact HBW.out | apply qb0 | apply qa0 | apply qc0 | refine qh0 ?_ GW103.out) | exact HBW.out)⟩
   rw [if_neg c2] at H
   have c2b0 : decide (x4_1 < (l0.length : Int)) = false := decide_eq_false c2
   clear c2
   simp only [Option.some.injEq, Prod.mk.injEq] at H
   obtain ⟨rfl, rfl, rfl⟩ := H
   go_wp2_with (first | ((with_reducible refine qb1 (N := 31) rfl ?_); refine box_event ?hg (N := 31) ?hd (cs := #[.slice A0 l0.length c0, .int .i64 0, .int .i64 x3_1]) (t := 207) ?hr ?_; (case hd => rfl); (case hg => rfl); (case hr => first | (go_simp; done) | (go_simp; rfl)); intro gb104 hg w6 hbox hb; have n0_ := Aside0.mk (qo0 HBW.out hb); have n1_ := Aside0.mk (qo0 (by repeat (first | (with_reducible first | exact HB.out | apply qb0 | apply qa0 | apply qc0) | exact HB.out)) hb); have n2_ := Aside0.mk (hbox); have n3_ := Aside0.mk ((by rw [hg]; exact (qn0 (by repeat (first | (with_reducible first | exact HBW.out | apply qb0 | apply qa0 | apply qc0) | exact HBW.out))) : w.heap.size ≤ gb104)); have n4_ := Aside0.mk ((Nat.le_trans HW0.out (by rw [hg]; exact (qn0 (by repeat (first | (with_reducible first | exact HBW.out | apply qb0 | apply qa0 | apply qc0) | exact HBW.out))) : w.heap.size ≤ gb104) : w0.heap.size ≤ gb104)); clear HBW; clear HB; have HBW := n0_; have HB := n1_; have BK104 := n2_; have GW104 := n3_; have GE104 := n4_; clear n0_ n1_ n2_ n3_ n4_; clear hb hbox hg))
   go_ret
   exact ⟨_, rfl, (show IsS207 w0 _ gb104 l0 0 x3_1 from ⟨_, _, by (with_reducible repeat (first | refine blk_drewN ?_ _ | refine blk_drew ?_ | refine blk_alloc ?_ _)); exact BK104.out, GE104.out, HR0.out⟩), by repeat (first | (with_reducible first | exact HB.out | apply qb0 | apply qa0 | apply qc0 | refine qh0 ?_ GE104.out) | exact HB.out), by repeat (first | (with_reducible first | exact HBW.out | apply qb0 | apply qa0 | apply qc0 | refine qh0 ?_ GW104.out) | exact HBW.out)⟩

/-! ### spec_l1Byte: function 167 -/
def spec_l1Byte.f (s0_0 : List Int) (s0_1 : Int) (s0_2 : Int) : Option (Int × Int × Int) := if s0_1 < (s0_0.length : Int) then (if 0 ≤ s0_1 then (some (Go.bits .and .i64 (wrap64 ((Go.bits .and .i64 (Go.bits .xor .i64 ((wrap64 ((wrap64 (s0_2 * 6364136223846793005)) + 1442695040888963407)) / 8589934592) ((wrap64 ((wrap64 (s0_2 * 6364136223846793005)) + 1442695040888963407)) / 35184372088832)) 255) + (wrap64 (rd s0_0 s0_1)))) 255, wrap64 (s0_1 + 1), wrap64 ((wrap64 (s0_2 * 6364136223846793005)) + 1442695040888963407))) else (none)) else (some (Go.bits .and .i64 (Go.bits .xor .i64 ((wrap64 ((wrap64 (s0_2 * 6364136223846793005)) + 1442695040888963407)) / 8589934592) ((wrap64 ((wrap64 (s0_2 * 6364136223846793005)) + 1442695040888963407)) / 35184372088832)) 255, s0_1, wrap64 ((wrap64 (s0_2 * 6364136223846793005)) + 1442695040888963407)))
set_option maxHeartbeats 8000000 in
set_option maxRecDepth 100000 in
theorem spec_l1Byte.calls (g : Nat) (s0_0 : List Int) (s0_1 : Int) (s0_2 : Int) (r1 : Int) (r2 : Int) (r3 : Int) (w0 w : World) (hI : IsS207 w0 w g s0_0 s0_1 s0_2) (hB : Below w0.heap.size w0 w) (h : spec_l1Byte.f s0_0 s0_1 s0_2 = some (r1, r2, r3)) :
  Calls Try.prog 167 #[.pointer (some ⟨g, 0, none⟩)] w fun e w' => e = .returned (.int .i64 r1) ∧ IsS207 w0 w' g s0_0 r2 r3 ∧ Below w0.heap.size w0 w' ∧ qg0 w w' g none := by
 have HI0 := Aside0.mk hI
 have HK := Aside0.mk (qg0.refl w g none)
 have HL := Aside0.mk hB.size
 clear hI
 have HW0 := Aside0.mk hB.size
 have HB := Aside0.mk hB
 clear hB
 have H : (if s0_1 < (s0_0.length : Int) then (if 0 ≤ s0_1 then (some (Go.bits .and .i64 (wrap64 ((Go.bits .and .i64 (Go.bits .xor .i64 ((wrap64 ((wrap64 (s0_2 * 6364136223846793005)) + 1442695040888963407)) / 8589934592) ((wrap64 ((wrap64 (s0_2 * 6364136223846793005)) + 1442695040888963407)) / 35184372088832)) 255) + (wrap64 (rd s0_0 s0_1)))) 255, wrap64 (s0_1 + 1), wrap64 ((wrap64 (s0_2 * 6364136223846793005)) + 1442695040888963407))) else (none)) else (some (Go.bits .and .i64 (Go.bits .xor .i64 ((wrap64 ((wrap64 (s0_2 * 6364136223846793005)) + 1442695040888963407)) / 8589934592) ((wrap64 ((wrap64 (s0_2 * 6364136223846793005)) + 1442695040888963407)) / 35184372088832)) 255, s0_1, wrap64 ((wrap64 (s0_2 * 6364136223846793005)) + 1442695040888963407)))) = some (r1, r2, r3) := h
 clear h
 by_cases c2 : s0_1 < (s0_0.length : Int)
 ·rw [if_pos c2] at H
  have c2b0 : decide (s0_1 < (s0_0.length : Int)) = true := decide_eq_true c2
  clear c2
  by_cases c3 : 0 ≤ s0_1
  case neg => rw [if_neg c3] at H; exact absurd H (by simp)
  rw [if_pos c3] at H
  have c3b0 : decide (0 ≤ s0_1) = true := decide_eq_true c3
  clear c3
  simp only [Option.some.injEq, Prod.mk.injEq] at H
  obtain ⟨rfl, rfl, rfl⟩ := H
  obtain ⟨ASz4_0, cSz4_0, HGz4, hgz4, HSz4_0⟩ := HI0.out
  have hcz4_0 := cellS207_0 HGz4
  have hcz4_1 := cellS207_1 HGz4
  have hcz4_2 := cellS207_2 HGz4
  have hfz4_1 := blk_frozen HGz4 1
  have hfz4_2 := blk_frozen HGz4 2
  clear HGz4 hgz4
  have p105 : 0 ≤ (s0_1 : Int) := of_decide_eq_true (by first | (with_reducible assumption) | assumption)
  have q105 : s0_1 < (s0_0.length : Int) := of_decide_eq_true (by first | (with_reducible assumption) | assumption)
  obtain ⟨ad105, e105, hx105_0⟩ := Kd.qf1 HSz4_0 s0_1 p105 q105
  cases e105
  have hn105_0 : ad105.block ≠ g := Nat.ne_of_lt (Nat.lt_of_lt_of_le (by have := World.block_lt_of_cell? _ _ hx105_0; first | rwa [add_block] at this | exact this) (IsS207.ge HI0.out))
  replace hx105_0 := pw_cell_below HB.out hx105_0
  replace hx105_0 := (cell_far (p := ⟨g, 2, none⟩) (by first | (rw [add_block]; exact hn105_0) | (show (Addr.add _ _).block ≠ _; rw [add_block]; exact hn105_0) | exact hn105_0) (.int .i64 (wrap64 ((wrap64 (s0_2 * 6364136223846793005)) + 1442695040888963407)))).trans hx105_0
  (try have hy105_0 := fun (n_ : Nat) => (show (((w.drewN n_).setCell ⟨g, 2, none⟩ (.int .i64 (wrap64 ((wrap64 (s0_2 * 6364136223846793005)) + 1442695040888963407))))).cell? _ = some _ from hx105_0))
  clear hn105_0
  replace p105 := eq_true p105
  replace q105 := eq_true q105
  go_enter Try.func167, Try.ntmps167
  go_wp2
  repeat (go_quiet (fail); try go_wp2)
  go_ret
  exact ⟨by first | rfl | (simp [errW_none, errW_some] <;> rfl) | (simp [*, errW_none, errW_some] <;> rfl), by repeat (first | (with_reducible first | exact HI0.out | apply IsS207.alloc | apply IsS207.drewN | apply IsS207.drew | apply IsS207.set_1 | apply IsS207.set_2) | exact HI0.out), by repeat (first | (with_reducible first | exact HB.out | apply qb0 | apply qa0 | apply qc0 | refine qh0 ?_ (IsS207.ge HI0.out)) | exact HB.out), by repeat (first | (with_reducible first | exact HK.out | apply qg0.set_ | apply qk0 | apply qm0 | apply ql0) | exact HK.out)⟩
 rw [if_neg c2] at H
 have c2b0 : decide (s0_1 < (s0_0.length : Int)) = false := decide_eq_false c2
 clear c2
 simp only [Option.some.injEq, Prod.mk.injEq] at H
 obtain ⟨rfl, rfl, rfl⟩ := H
 obtain ⟨ASz5_0, cSz5_0, HGz5, hgz5, HSz5_0⟩ := HI0.out
 have hcz5_0 := cellS207_0 HGz5
 have hcz5_1 := cellS207_1 HGz5
 have hcz5_2 := cellS207_2 HGz5
 have hfz5_1 := blk_frozen HGz5 1
 have hfz5_2 := blk_frozen HGz5 2
 clear HGz5 hgz5
 go_enter Try.func167, Try.ntmps167
 go_wp2
 repeat (go_quiet (fail); try go_wp2)
 go_ret
 exact ⟨by first | rfl | (simp [errW_none, errW_some] <;> rfl) | (simp [*, errW_none, errW_some] <;> rfl), by repeat (first | (with_reducible first | exact HI0.out | apply IsS207.alloc | apply IsS207.drewN | apply IsS207.drew | apply IsS207.set_1 | apply IsS207.set_2) | exact HI0.out), by repeat (first | (with_reducible first | exact HB.out | apply qb0 | apply qa0 | apply qc0 | refine qh0 ?_ (IsS207.ge HI0.out)) | exact HB.out), by repeat (first | (with_reducible first | exact HK.out | apply qg0.set_ | apply qk0 | apply qm0 | apply ql0) | exact HK.out)⟩

/-! ### spec_l1Below: function 84 -/
def spec_l1Below.f (s0_0 : List Int) (s0_1 : Int) (s0_2 : Int) (a1 : Int) : Option (Int × Int × Int) := if a1 ≤ 0 then (some (0, s0_1, s0_2)) else (if a1 ≤ 256 then ((spec_l1Byte.f s0_0 s0_1 s0_2).bind fun bt106 => (if a1 = 0 then (none) else (some (Int.tmod bt106.1 a1, bt106.2.1, bt106.2.2)))) else ((spec_l1Byte.f s0_0 s0_1 s0_2).bind fun bt109 => ((spec_l1Byte.f s0_0 bt109.2.1 bt109.2.2).bind fun bt112 => ((spec_l1Byte.f s0_0 bt112.2.1 bt112.2.2).bind fun bt115 => ((spec_l1Byte.f s0_0 bt115.2.1 bt115.2.2).bind fun bt118 => (if a1 = 0 then (none) else (some (Int.tmod (wrap64 ((wrap64 ((wrap64 ((wrap64 (bt109.1 * 16777216)) + (wrap64 (bt112.1 * 65536)))) + (wrap64 (bt115.1 * 256)))) + bt118.1)) a1, bt118.2.1, bt118.2.2))))))))
set_option maxHeartbeats 8000000 in
set_option maxRecDepth 100000 in
theorem spec_l1Below.calls (g : Nat) (s0_0 : List Int) (s0_1 : Int) (s0_2 : Int) (a1 : Int) (r1 : Int) (r2 : Int) (r3 : Int) (w0 w : World) (hI : IsS207 w0 w g s0_0 s0_1 s0_2) (hB : Below w0.heap.size w0 w) (h : spec_l1Below.f s0_0 s0_1 s0_2 a1 = some (r1, r2, r3)) :
  Calls Try.prog 84 #[.pointer (some ⟨g, 0, none⟩), .int .i64 a1] w fun e w' => e = .returned (.int .i64 r1) ∧ IsS207 w0 w' g s0_0 r2 r3 ∧ Below w0.heap.size w0 w' ∧ qg0 w w' g none := by
 have HI0 := Aside0.mk hI
 have HK := Aside0.mk (qg0.refl w g none)
 have HL := Aside0.mk hB.size
 clear hI
 have HW0 := Aside0.mk hB.size
 have HB := Aside0.mk hB
 clear hB
 have H : (if a1 ≤ 0 then (some (0, s0_1, s0_2)) else (if a1 ≤ 256 then ((spec_l1Byte.f s0_0 s0_1 s0_2).bind fun bt106 => (if a1 = 0 then (none) else (some (Int.tmod bt106.1 a1, bt106.2.1, bt106.2.2)))) else ((spec_l1Byte.f s0_0 s0_1 s0_2).bind fun bt109 => ((spec_l1Byte.f s0_0 bt109.2.1 bt109.2.2).bind fun bt112 => ((spec_l1Byte.f s0_0 bt112.2.1 bt112.2.2).bind fun bt115 => ((spec_l1Byte.f s0_0 bt115.2.1 bt115.2.2).bind fun bt118 => (if a1 = 0 then (none) else (some (Int.tmod (wrap64 ((wrap64 ((wrap64 ((wrap64 (bt109.1 * 16777216)) + (wrap64 (bt112.1 * 65536)))) + (wrap64 (bt115.1 * 256)))) + bt118.1)) a1, bt118.2.1, bt118.2.2))))))))) = some (r1, r2, r3) := h
 clear h
 by_cases c3 : a1 ≤ 0
 ·rw [if_pos c3] at H
  have c3b0 : decide (a1 ≤ 0) = true := decide_eq_true c3
  clear c3
  simp only [Option.some.injEq, Prod.mk.injEq] at H
  obtain ⟨rfl, rfl, rfl⟩ := H
  go_enter Try.func84, Try.ntmps84
  go_wp2
  go_ret
  exact ⟨by first | rfl | (simp [errW_none, errW_some] <;> rfl) | (simp [*, errW_none, errW_some] <;> rfl), by repeat (first | (with_reducible first | exact HI0.out | apply IsS207.alloc | apply IsS207.drewN | apply IsS207.drew | apply IsS207.set_1 | apply IsS207.set_2) | exact HI0.out), by repeat (first | (with_reducible first | exact HB.out | apply qb0 | apply qa0 | apply qc0 | refine qh0 ?_ (IsS207.ge HI0.out)) | exact HB.out), by repeat (first | (with_reducible first | exact HK.out | apply qg0.set_ | apply qk0 | apply qm0 | apply ql0) | exact HK.out)⟩
 rw [if_neg c3] at H
 have c3b0 : decide (a1 ≤ 0) = false := decide_eq_false c3
 clear c3
 by_cases c4 : a1 ≤ 256
 ·rw [if_pos c4] at H
  have c4b0 : decide (a1 ≤ 256) = true := decide_eq_true c4
  clear c4
  replace H := Option.bind_eq_some_iff.mp H
  obtain ⟨⟨t106, t107, t108⟩, A50, H⟩ := H
  replace H : (if a1 = 0 then (none) else (some (Int.tmod t106 a1, t107, t108))) = some (r1, r2, r3) := H
  have A5 := Aside0.mk A50
  clear A50
  by_cases c6 : a1 = 0
  ·rw [if_pos c6] at H
   exact absurd H (by simp)
  rw [if_neg c6] at H
  have c6b0 : (a1 == 0) = false := beq_eq_false_iff_ne.mpr c6
  have c6b1 : (a1 != 0) = true := bne_iff_ne.mpr c6
  simp only [Option.some.injEq, Prod.mk.injEq] at H
  obtain ⟨rfl, rfl, rfl⟩ := H
  go_enter Try.func84, Try.ntmps84
  go_wp2_with (first | ((with_reducible refine qj0 (f := 167) rfl ?_); refine qs0 (some 14) rfl rfl Try.func167 (by kernel_rfl) rfl #[.pointer (some ⟨g, 0, none⟩)] rfl (by (try simp only [List.map_toArray, List.map_cons, List.map_nil]); first | done | rfl | (simp only [List.length_drop, List.length_take]; rfl)) ?_; (with_reducible refine (spec_l1Byte.calls g s0_0 s0_1 s0_2 t106 t107 t108 w0 _ ?side1 ?side2 A5.out).mono ?_); (case side1 => repeat (first | (with_reducible first | exact HI0.out | apply IsS207.alloc | apply IsS207.drewN | apply IsS207.drew | apply IsS207.set_1 | apply IsS207.set_2) | exact HI0.out)); (case side2 => repeat (first | (with_reducible first | exact HB.out | apply qb0 | apply qa0 | apply qc0 | refine qh0 ?_ (IsS207.ge HI0.out)) | exact HB.out)); rintro e w7 ⟨rfl, hi, hb, hk⟩; refine ⟨_, rfl, ?_⟩; have n0_ := Aside0.mk (qg0.trans (by repeat (first | (with_reducible first | exact HK.out | apply qg0.set_ | apply qk0 | apply qm0 | apply ql0) | exact HK.out)) hk (.inl rfl)); have n1_ := Aside0.mk (hb); have n2_ := Aside0.mk (hi); clear HK; clear HB; clear HI0; have HK := n0_; have HB := n1_; have HI0 := n2_; clear n0_ n1_ n2_; (try clear hb); (try clear hb2); (try clear hk); (try clear hi)))
  go_ret
  exact ⟨by first | rfl | (simp [errW_none, errW_some] <;> rfl) | (simp [*, errW_none, errW_some] <;> rfl), by repeat (first | (with_reducible first | exact HI0.out | apply IsS207.alloc | apply IsS207.drewN | apply IsS207.drew | apply IsS207.set_1 | apply IsS207.set_2) | exact HI0.out), by repeat (first | (with_reducible first | exact HB.out | apply qb0 | apply qa0 | apply qc0 | refine qh0 ?_ (IsS207.ge HI0.out)) | exact HB.out), by repeat (first | (with_reducible first | exact HK.out | apply qg0.set_ | apply qk0 | apply qm0 | apply ql0) | exact HK.out)⟩
 rw [if_neg c4] at H
 have c4b0 : decide (a1 ≤ 256) = false := decide_eq_false c4
 clear c4
 replace H := Option.bind_eq_some_iff.mp H
 obtain ⟨⟨t109, t110, t111⟩, A80, H⟩ := H
 replace H : ((spec_l1Byte.f s0_0 t110 t111).bind fun bt112 => ((spec_l1Byte.f s0_0 bt112.2.1 bt112.2.2).bind fun bt115 => ((spec_l1Byte.f s0_0 bt115.2.1 bt115.2.2).bind fun bt118 => (if a1 = 0 then (none) else (some (Int.tmod (wrap64 ((wrap64 ((wrap64 ((wrap64 (t109 * 16777216)) + (wrap64 (bt112.1 * 65536)))) + (wrap64 (bt115.1 * 256)))) + bt118.1)) a1, bt118.2.1, bt118.2.2)))))) = some (r1, r2, r3) := H
 have A8 := Aside0.mk A80
 clear A80
 replace H := Option.bind_eq_some_iff.mp H
 obtain ⟨⟨t112, t113, t114⟩, A90, H⟩ := H
 replace H : ((spec_l1Byte.f s0_0 t113 t114).bind fun bt115 => ((spec_l1Byte.f s0_0 bt115.2.1 bt115.2.2).bind fun bt118 => (if a1 = 0 then (none) else (some (Int.tmod (wrap64 ((wrap64 ((wrap64 ((wrap64 (t109 * 16777216)) + (wrap64 (t112 * 65536)))) + (wrap64 (bt115.1 * 256)))) + bt118.1)) a1, bt118.2.1, bt118.2.2))))) = some (r1, r2, r3) := H
 have A9 := Aside0.mk A90
 clear A90
 replace H := Option.bind_eq_some_iff.mp H
 obtain ⟨⟨t115, t116, t117⟩, A100, H⟩ := H
 replace H : ((spec_l1Byte.f s0_0 t116 t117).bind fun bt118 => (if a1 = 0 then (none) else (some (Int.tmod (wrap64 ((wrap64 ((wrap64 ((wrap64 (t109 * 16777216)) + (wrap64 (t112 * 65536)))) + (wrap64 (t115 * 256)))) + bt118.1)) a1, bt118.2.1, bt118.2.2)))) = some (r1, r2, r3) := H
 have A10 := Aside0.mk A100
 clear A100
 replace H := Option.bind_eq_some_iff.mp H
 obtain ⟨⟨t118, t119, t120⟩, A110, H⟩ := H
 replace H : (if a1 = 0 then (none) else (some (Int.tmod (wrap64 ((wrap64 ((wrap64 ((wrap64 (t109 * 16777216)) + (wrap64 (t112 * 65536)))) + (wrap64 (t115 * 256)))) + t118)) a1, t119, t120))) = some (r1, r2, r3) := H
 have A11 := Aside0.mk A110
 clear A110
 by_cases c12 : a1 = 0
 ·rw [if_pos c12] at H
  exact absurd H (by simp)
 rw [if_neg c12] at H
 have c12b0 : (a1 == 0) = false := beq_eq_false_iff_ne.mpr c12
 have c12b1 : (a1 != 0) = true := bne_iff_ne.mpr c12
 simp only [Option.some.injEq, Prod.mk.injEq] at H
 obtain ⟨rfl, rfl, rfl⟩ := H
 go_enter Try.func84, Try.ntmps84
 go_wp2_with (first | ((with_reducible refine qj0 (f := 167) rfl ?_); refine qs0 (some 18) rfl rfl Try.func167 (by kernel_rfl) rfl #[.pointer (some ⟨g, 0, none⟩)] rfl (by (try simp only [List.map_toArray, List.map_cons, List.map_nil]); first | done | rfl | (simp only [List.length_drop, List.length_take]; rfl)) ?_; (with_reducible refine (spec_l1Byte.calls g s0_0 s0_1 s0_2 t109 t110 t111 w0 _ ?side1 ?side2 A8.out).mono ?_); (case side1 => repeat (first | (with_reducible first | exact HI0.out | apply IsS207.alloc | apply IsS207.drewN | apply IsS207.drew | apply IsS207.set_1 | apply IsS207.set_2) | exact HI0.out)); (case side2 => repeat (first | (with_reducible first | exact HB.out | apply qb0 | apply qa0 | apply qc0 | refine qh0 ?_ (IsS207.ge HI0.out)) | exact HB.out)); rintro e w13 ⟨rfl, hi, hb, hk⟩; refine ⟨_, rfl, ?_⟩; have n0_ := Aside0.mk (qg0.trans (by repeat (first | (with_reducible first | exact HK.out | apply qg0.set_ | apply qk0 | apply qm0 | apply ql0) | exact HK.out)) hk (.inl rfl)); have n1_ := Aside0.mk (hb); have n2_ := Aside0.mk (hi); clear HK; clear HB; clear HI0; have HK := n0_; have HB := n1_; have HI0 := n2_; clear n0_ n1_ n2_; (try clear hb); (try clear hb2); (try clear hk); (try clear hi)) | ((with_reducible refine qj0 (f := 167) rfl ?_); refine qs0 (some 20) rfl rfl Try.func167 (by kernel_rfl) rfl #[.pointer (some ⟨g, 0, none⟩)] rfl (by (try simp only [List.map_toArray, List.map_cons, List.map_nil]); first | done | rfl | (simp only [List.length_drop, List.length_take]; rfl)) ?_; (with_reducible refine (spec_l1Byte.calls g s0_0 t110 t111 t112 t113 t114 w0 _ ?side1 ?side2 A9.out).mono ?_); (case side1 => repeat (first | (with_reducible first | exact HI0.out | apply IsS207.alloc | apply IsS207.drewN | apply IsS207.drew | apply IsS207.set_1 | apply IsS207.set_2) | exact HI0.out)); (case side2 => repeat (first | (with_reducible first | exact HB.out | apply qb0 | apply qa0 | apply qc0 | refine qh0 ?_ (IsS207.ge HI0.out)) | exact HB.out)); rintro e w14 ⟨rfl, hi, hb, hk⟩; refine ⟨_, rfl, ?_⟩; have n0_ := Aside0.mk (qg0.trans (by repeat (first | (with_reducible first | exact HK.out | apply qg0.set_ | apply qk0 | apply qm0 | apply ql0) | exact HK.out)) hk (.inl rfl)); have n1_ := Aside0.mk (hb); have n2_ := Aside0.mk (hi); clear HK; clear HB; clear HI0; have HK := n0_; have HB := n1_; have HI0 := n2_; clear n0_ n1_ n2_; (try clear hb); (try clear hb2); (try clear hk); (try clear hi)) | ((with_reducible refine qj0 (f := 167) rfl ?_); refine qs0 (some 22) rfl rfl Try.func167 (by kernel_rfl) rfl #[.pointer (some ⟨g, 0, none⟩)] rfl (by (try simp only [List.map_toArray, List.map_cons, List.map_nil]); first | done | rfl | (simp only [List.length_drop, List.length_take]; rfl)) ?_; (with_reducible refine (spec_l1Byte.calls g s0_0 t113 t114 t115 t116 t117 w0 _ ?side1 ?side2 A10.out).mono ?_); (case side1 => repeat (first | (with_reducible first | exact HI0.out | apply IsS207.alloc | apply IsS207.drewN | apply IsS207.drew | apply IsS207.set_1 | apply IsS207.set_2) | exact HI0.out)); (case side2 => repeat (first | (with_reducible first | exact HB.out | apply qb0 | apply qa0 | apply qc0 | refine qh0 ?_ (IsS207.ge HI0.out)) | exact HB.out)); rintro e w15 ⟨rfl, hi, hb, hk⟩; refine ⟨_, rfl, ?_⟩; have n0_ := Aside0.mk (qg0.trans (by repeat (first | (with_reducible first | exact HK.out | apply qg0.set_ | apply qk0 | apply qm0 | apply ql0) | exact HK.out)) hk (.inl rfl)); have n1_ := Aside0.mk (hb); have n2_ := Aside0.mk (hi); clear HK; clear HB; clear HI0; have HK := n0_; have HB := n1_; have HI0 := n2_; clear n0_ n1_ n2_; (try clear hb); (try clear hb2); (try clear hk); (try clear hi)) | ((with_reducible refine qj0 (f := 167) rfl ?_); refine qs0 (some 24) rfl rfl Try.func167 (by kernel_rfl) rfl #[.pointer (some ⟨g, 0, none⟩)] rfl (by (try simp only [List.map_toArray, List.map_cons, List.map_nil]); first | done | rfl | (simp only [List.length_drop, List.length_take]; rfl)) ?_; (with_reducible refine (spec_l1Byte.calls g s0_0 t116 t117 t118 t119 t120 w0 _ ?side1 ?side2 A11.out).mono ?_); (case side1 => repeat (first | (with_reducible first | exact HI0.out | apply IsS207.alloc | apply IsS207.drewN | apply IsS207.drew | apply IsS207.set_1 | apply IsS207.set_2) | exact HI0.out)); (case side2 => repeat (first | (with_reducible first | exact HB.out | apply qb0 | apply qa0 | apply qc0 | refine qh0 ?_ (IsS207.ge HI0.out)) | exact HB.out)); rintro e w16 ⟨rfl, hi, hb, hk⟩; refine ⟨_, rfl, ?_⟩; have n0_ := Aside0.mk (qg0.trans (by repeat (first | (with_reducible first | exact HK.out | apply qg0.set_ | apply qk0 | apply qm0 | apply ql0) | exact HK.out)) hk (.inl rfl)); have n1_ := Aside0.mk (hb); have n2_ := Aside0.mk (hi); clear HK; clear HB; clear HI0; have HK := n0_; have HB := n1_; have HI0 := n2_; clear n0_ n1_ n2_; (try clear hb); (try clear hb2); (try clear hk); (try clear hi)))
 go_ret
 exact ⟨by first | rfl | (simp [errW_none, errW_some] <;> rfl) | (simp [*, errW_none, errW_some] <;> rfl), by repeat (first | (with_reducible first | exact HI0.out | apply IsS207.alloc | apply IsS207.drewN | apply IsS207.drew | apply IsS207.set_1 | apply IsS207.set_2) | exact HI0.out), by repeat (first | (with_reducible first | exact HB.out | apply qb0 | apply qa0 | apply qc0 | refine qh0 ?_ (IsS207.ge HI0.out)) | exact HB.out), by repeat (first | (with_reducible first | exact HK.out | apply qg0.set_ | apply qk0 | apply qm0 | apply ql0) | exact HK.out)⟩

/-! ### spec_l1Size: function 85 -/
def spec_l1Size.f (l0 : List Int) (a1 : Int) : Option (Int) := if (wrap64 (2 + (wrap64 ((l0.length : Int) / 20)))) > a1 then (some a1) else (some (wrap64 (2 + (wrap64 ((l0.length : Int) / 20)))))
set_option maxHeartbeats 8000000 in
set_option maxRecDepth 100000 in
theorem spec_l1Size.calls (A0 : Option Addr) (c0 : Nat) (l0 : List Int) (a1 : Int) (r : Int) (w : World) (hr0 : Kd.C (Kd.int .u8) w A0 l0.length l0) (hc0 : l0.length ≤ c0) (h : spec_l1Size.f l0 a1 = some r) :
  Calls Try.prog 85 #[.slice A0 l0.length c0, .int .i64 a1] w fun e w' => e = .returned (.int .i64 r) ∧ Drawn0 w w' := by
 have HR0 := Aside0.mk hr0
 have HC0 := Aside0.mk hc0
 clear hr0 hc0
 have H : (if (wrap64 (2 + (wrap64 ((l0.length : Int) / 20)))) > a1 then (some a1) else (some (wrap64 (2 + (wrap64 ((l0.length : Int) / 20)))))) = some r := h
 clear h
 by_cases c3 : (wrap64 (2 + (wrap64 ((l0.length : Int) / 20)))) > a1
 ·rw [if_pos c3] at H
  have c3b0 : decide (a1 < (wrap64 (2 + (wrap64 ((l0.length : Int) / 20))))) = true := decide_eq_true c3
  clear c3
  obtain rfl := Option.some.inj H
  go_enter Try.func85, Try.ntmps85
  go_wp2
  go_ret
  exact ⟨by first | rfl | (simp; done) | (simp [*]; done), by repeat (first | exact Drawn0.refl _ | apply Drawn0.step)⟩
 rw [if_neg c3] at H
 have c3b0 : decide (a1 < (wrap64 (2 + (wrap64 ((l0.length : Int) / 20))))) = false := decide_eq_false c3
 clear c3
 obtain rfl := Option.some.inj H
 go_enter Try.func85, Try.ntmps85
 go_wp2
 go_ret
 exact ⟨by first | rfl | (simp; done) | (simp [*]; done), by repeat (first | exact Drawn0.refl _ | apply Drawn0.step)⟩

/-! ### spec_l1Once: function 102 -/
def spec_l1Once.f (s0_0 : List Int) (s0_1 : Int) (s0_2 : Int) (a1 : Int) : Option (Bool × Int × Int) := (spec_l1Below.f s0_0 s0_1 s0_2 a1).bind fun bt121 => (some ((bt121.1 == 0), bt121.2.1, bt121.2.2))
set_option maxHeartbeats 8000000 in
set_option maxRecDepth 100000 in
theorem spec_l1Once.calls (g : Nat) (s0_0 : List Int) (s0_1 : Int) (s0_2 : Int) (a1 : Int) (r1 : Bool) (r2 : Int) (r3 : Int) (w0 w : World) (hI : IsS207 w0 w g s0_0 s0_1 s0_2) (hB : Below w0.heap.size w0 w) (h : spec_l1Once.f s0_0 s0_1 s0_2 a1 = some (r1, r2, r3)) :
  Calls Try.prog 102 #[.pointer (some ⟨g, 0, none⟩), .int .i64 a1] w fun e w' => e = .returned (.bool r1) ∧ IsS207 w0 w' g s0_0 r2 r3 ∧ Below w0.heap.size w0 w' ∧ qg0 w w' g none := by
 have HI0 := Aside0.mk hI
 have HK := Aside0.mk (qg0.refl w g none)
 have HL := Aside0.mk hB.size
 clear hI
 have HW0 := Aside0.mk hB.size
 have HB := Aside0.mk hB
 clear hB
 have H : ((spec_l1Below.f s0_0 s0_1 s0_2 a1).bind fun bt121 => (some ((bt121.1 == 0), bt121.2.1, bt121.2.2))) = some (r1, r2, r3) := h
 clear h
 replace H := Option.bind_eq_some_iff.mp H
 obtain ⟨⟨t121, t122, t123⟩, A30, H⟩ := H
 replace H : (some ((t121 == 0), t122, t123)) = some (r1, r2, r3) := H
 have A3 := Aside0.mk A30
 clear A30
 simp only [Option.some.injEq, Prod.mk.injEq] at H
 obtain ⟨rfl, rfl, rfl⟩ := H
 go_enter Try.func102, Try.ntmps102
 go_wp2_with (first | ((with_reducible refine qj0 (f := 84) rfl ?_); refine qs0 (some 7) rfl rfl Try.func84 (by kernel_rfl) rfl #[.pointer (some ⟨g, 0, none⟩), .int .i64 a1] rfl (by (try simp only [List.map_toArray, List.map_cons, List.map_nil]); first | done | rfl | (simp only [List.length_drop, List.length_take]; rfl)) ?_; (with_reducible refine (spec_l1Below.calls g s0_0 s0_1 s0_2 a1 t121 t122 t123 w0 _ ?side1 ?side2 A3.out).mono ?_); (case side1 => repeat (first | (with_reducible first | exact HI0.out | apply IsS207.alloc | apply IsS207.drewN | apply IsS207.drew | apply IsS207.set_1 | apply IsS207.set_2) | exact HI0.out)); (case side2 => repeat (first | (with_reducible first | exact HB.out | apply qb0 | apply qa0 | apply qc0 | refine qh0 ?_ (IsS207.ge HI0.out)) | exact HB.out)); rintro e w4 ⟨rfl, hi, hb, hk⟩; refine ⟨_, rfl, ?_⟩; have n0_ := Aside0.mk (qg0.trans (by repeat (first | (with_reducible first | exact HK.out | apply qg0.set_ | apply qk0 | apply qm0 | apply ql0) | exact HK.out)) hk (.inl rfl)); have n1_ := Aside0.mk (hb); have n2_ := Aside0.mk (hi); clear HK; clear HB; clear HI0; have HK := n0_; have HB := n1_; have HI0 := n2_; clear n0_ n1_ n2_; (try clear hb); (try clear hb2); (try clear hk); (try clear hi)))
 go_ret
 exact ⟨by first | rfl | (simp [errW_none, errW_some] <;> rfl) | (simp [*, errW_none, errW_some] <;> rfl), by repeat (first | (with_reducible first | exact HI0.out | apply IsS207.alloc | apply IsS207.drewN | apply IsS207.drew | apply IsS207.set_1 | apply IsS207.set_2) | exact HI0.out), by repeat (first | (with_reducible first | exact HB.out | apply qb0 | apply qa0 | apply qc0 | refine qh0 ?_ (IsS207.ge HI0.out)) | exact HB.out), by repeat (first | (with_reducible first | exact HK.out | apply qg0.set_ | apply qk0 | apply qm0 | apply ql0) | exact HK.out)⟩

/-! ### spec_l1PickInt: function 103 -/
def spec_l1PickInt.f (s0_0 : List Int) (s0_1 : Int) (s0_2 : Int) (l1 : List Int) : Option (Int × Int × Int) := (spec_l1Below.f s0_0 s0_1 s0_2 (l1.length : Int)).bind fun bt124 => (if 0 ≤ bt124.1 then (if bt124.1 < (l1.length : Int) then (some (rd l1 bt124.1, bt124.2.1, bt124.2.2)) else (none)) else (none))
set_option maxHeartbeats 8000000 in
set_option maxRecDepth 100000 in
theorem spec_l1PickInt.calls (g : Nat) (s0_0 : List Int) (s0_1 : Int) (s0_2 : Int) (A1 : Option Addr) (c1 : Nat) (l1 : List Int) (r1 : Int) (r2 : Int) (r3 : Int) (w0 w : World) (hI : IsS207 w0 w g s0_0 s0_1 s0_2) (hB : Below w0.heap.size w0 w) (hr1 : Kd.C (Kd.int .i64) w A1 l1.length l1) (hc1 : l1.length ≤ c1) (hf1 : ∀ ad, A1 = some ad → 0 < l1.length → ad.block ≠ g) (h : spec_l1PickInt.f s0_0 s0_1 s0_2 l1 = some (r1, r2, r3)) :
  Calls Try.prog 103 #[.pointer (some ⟨g, 0, none⟩), .slice A1 l1.length c1] w fun e w' => e = .returned (.int .i64 r1) ∧ IsS207 w0 w' g s0_0 r2 r3 ∧ Below w0.heap.size w0 w' ∧ qg0 w w' g none := by
 have HR1 := Aside0.mk hr1
 have HC1 := Aside0.mk hc1
 clear hr1 hc1
 have HI0 := Aside0.mk hI
 have HK := Aside0.mk (qg0.refl w g none)
 have HL := Aside0.mk hB.size
 clear hI
 have HW0 := Aside0.mk hB.size
 have HB := Aside0.mk hB
 clear hB
 have H : ((spec_l1Below.f s0_0 s0_1 s0_2 (l1.length : Int)).bind fun bt124 => (if 0 ≤ bt124.1 then (if bt124.1 < (l1.length : Int) then (some (rd l1 bt124.1, bt124.2.1, bt124.2.2)) else (none)) else (none))) = some (r1, r2, r3) := h
 clear h
 replace H := Option.bind_eq_some_iff.mp H
 obtain ⟨⟨t124, t125, t126⟩, A30, H⟩ := H
 replace H : (if 0 ≤ t124 then (if t124 < (l1.length : Int) then (some (rd l1 t124, t125, t126)) else (none)) else (none)) = some (r1, r2, r3) := H
 have A3 := Aside0.mk A30
 clear A30
 by_cases c4 : 0 ≤ t124
 case neg => rw [if_neg c4] at H; exact absurd H (by simp)
 rw [if_pos c4] at H
 have c4b0 : decide (0 ≤ t124) = true := decide_eq_true c4
 clear c4
 by_cases c5 : t124 < (l1.length : Int)
 case neg => rw [if_neg c5] at H; exact absurd H (by simp)
 rw [if_pos c5] at H
 have c5b0 : decide (t124 < (l1.length : Int)) = true := decide_eq_true c5
 clear c5
 simp only [Option.some.injEq, Prod.mk.injEq] at H
 obtain ⟨rfl, rfl, rfl⟩ := H
 go_enter Try.func103, Try.ntmps103
 go_wp2_with (first | ((with_reducible refine qj0 (f := 84) rfl ?_); refine qs0 (some 9) rfl rfl Try.func84 (by kernel_rfl) rfl #[.pointer (some ⟨g, 0, none⟩), .int .i64 (l1.length : Int)] rfl (by (try simp only [List.map_toArray, List.map_cons, List.map_nil]); first | done | rfl | (simp only [List.length_drop, List.length_take]; rfl)) ?_; (with_reducible refine (spec_l1Below.calls g s0_0 s0_1 s0_2 (l1.length : Int) t124 t125 t126 w0 _ ?side1 ?side2 A3.out).mono ?_); (case side1 => repeat (first | (with_reducible first | exact HI0.out | apply IsS207.alloc | apply IsS207.drewN | apply IsS207.drew | apply IsS207.set_1 | apply IsS207.set_2) | exact HI0.out)); (case side2 => repeat (first | (with_reducible first | exact HB.out | apply qb0 | apply qa0 | apply qc0 | refine qh0 ?_ (IsS207.ge HI0.out)) | exact HB.out)); rintro e w6 ⟨rfl, hi, hb, hk⟩; refine ⟨_, rfl, ?_⟩; have n0_ := Aside0.mk (qg0.trans (by repeat (first | (with_reducible first | exact HK.out | apply qg0.set_ | apply qk0 | apply qm0 | apply ql0) | exact HK.out)) hk (.inl rfl)); have n1_ := Aside0.mk (hb); have n2_ := Aside0.mk (hi); clear HK; clear HB; clear HI0; have HK := n0_; have HB := n1_; have HI0 := n2_; clear n0_ n1_ n2_; (try clear hb); (try clear hb2); (try clear hk); (try clear hi); have p127 : 0 ≤ (t124 : Int) := of_decide_eq_true (by first | (with_reducible assumption) | assumption); have q127 : t124 < (l1.length : Int) := of_decide_eq_true (by first | (with_reducible assumption) | assumption); obtain ⟨ad127, e127, hx127_0⟩ := Kd.qf1 HR1.out t124 p127 q127; cases e127; replace hx127_0 := keep_cell HK.out hx127_0 (by first | (rw [add_block]; exact hf1 _ rfl (by omega)) | exact hf1 _ rfl (by omega) | exact hf1 ad127 rfl (by omega)); replace p127 := eq_true p127; replace q127 := eq_true q127))
 go_ret
 exact ⟨by first | rfl | (simp [errW_none, errW_some] <;> rfl) | (simp [*, errW_none, errW_some] <;> rfl), by repeat (first | (with_reducible first | exact HI0.out | apply IsS207.alloc | apply IsS207.drewN | apply IsS207.drew | apply IsS207.set_1 | apply IsS207.set_2) | exact HI0.out), by repeat (first | (with_reducible first | exact HB.out | apply qb0 | apply qa0 | apply qc0 | refine qh0 ?_ (IsS207.ge HI0.out)) | exact HB.out), by repeat (first | (with_reducible first | exact HK.out | apply qg0.set_ | apply qk0 | apply qm0 | apply ql0) | exact HK.out)⟩

/-! ### spec_l1Spoil: function 119 -/
def spec_l1Spoil.f (s0_0 : List Int) (s0_1 : Int) (s0_2 : Int) (a1 : Int) (l2 : List Int) : Option (Int × Int × Int) := (spec_l1Once.f s0_0 s0_1 s0_2 40).bind fun bt128 => (if bt128.1 = true then ((spec_l1PickInt.f s0_0 bt128.2.1 bt128.2.2 l2).bind fun bt131 => (some (bt131.1, bt131.2.1, bt131.2.2))) else (some (a1, bt128.2.1, bt128.2.2)))
set_option maxHeartbeats 8000000 in
set_option maxRecDepth 100000 in
theorem spec_l1Spoil.calls (g : Nat) (s0_0 : List Int) (s0_1 : Int) (s0_2 : Int) (a1 : Int) (A2 : Option Addr) (c2 : Nat) (l2 : List Int) (r1 : Int) (r2 : Int) (r3 : Int) (w0 w : World) (hI : IsS207 w0 w g s0_0 s0_1 s0_2) (hB : Below w0.heap.size w0 w) (hr2 : Kd.C (Kd.int .i64) w A2 l2.length l2) (hc2 : l2.length ≤ c2) (hf2 : ∀ ad, A2 = some ad → 0 < l2.length → ad.block ≠ g) (h : spec_l1Spoil.f s0_0 s0_1 s0_2 a1 l2 = some (r1, r2, r3)) :
  Calls Try.prog 119 #[.pointer (some ⟨g, 0, none⟩), .int .i64 a1, .slice A2 l2.length c2] w fun e w' => e = .returned (.int .i64 r1) ∧ IsS207 w0 w' g s0_0 r2 r3 ∧ Below w0.heap.size w0 w' ∧ qg0 w w' g none := by
 have HR2 := Aside0.mk hr2
 have HC2 := Aside0.mk hc2
 clear hr2 hc2
 have HI0 := Aside0.mk hI
 have HK := Aside0.mk (qg0.refl w g none)
 have HL := Aside0.mk hB.size
 clear hI
 have HW0 := Aside0.mk hB.size
 have HB := Aside0.mk hB
 clear hB
 have H : ((spec_l1Once.f s0_0 s0_1 s0_2 40).bind fun bt128 => (if bt128.1 = true then ((spec_l1PickInt.f s0_0 bt128.2.1 bt128.2.2 l2).bind fun bt131 => (some (bt131.1, bt131.2.1, bt131.2.2))) else (some (a1, bt128.2.1, bt128.2.2)))) = some (r1, r2, r3) := h
 clear h
 replace H := Option.bind_eq_some_iff.mp H
 obtain ⟨⟨t128, t129, t130⟩, A40, H⟩ := H
 replace H : (if t128 = true then ((spec_l1PickInt.f s0_0 t129 t130 l2).bind fun bt131 => (some (bt131.1, bt131.2.1, bt131.2.2))) else (some (a1, t129, t130))) = some (r1, r2, r3) := H
 have A4 := Aside0.mk A40
 clear A40
 by_cases c5 : t128 = true
 ·subst c5
  have H1 : ((spec_l1PickInt.f s0_0 t129 t130 l2).bind fun bt131 => (some (bt131.1, bt131.2.1, bt131.2.2))) = some (r1, r2, r3) := by rw [if_pos rfl] at H; exact H
  clear H
  have H := H1
  clear H1
  replace H := Option.bind_eq_some_iff.mp H
  obtain ⟨⟨t131, t132, t133⟩, A60, H⟩ := H
  replace H : (some (t131, t132, t133)) = some (r1, r2, r3) := H
  have A6 := Aside0.mk A60
  clear A60
  simp only [Option.some.injEq, Prod.mk.injEq] at H
  obtain ⟨rfl, rfl, rfl⟩ := H
  go_enter Try.func119, Try.ntmps119
  go_wp2_with (first | ((with_reducible refine qj0 (f := 102) rfl ?_); refine qs0 (some 8) rfl rfl Try.func102 (by kernel_rfl) rfl #[.pointer (some ⟨g, 0, none⟩), .int .i64 40] rfl (by (try simp only [List.map_toArray, List.map_cons, List.map_nil]); first | done | rfl | (simp only [List.length_drop, List.length_take]; rfl)) ?_; (with_reducible refine (spec_l1Once.calls g s0_0 s0_1 s0_2 40 true t129 t130 w0 _ ?side1 ?side2 A4.out).mono ?_); (case side1 => repeat (first | (with_reducible first | exact HI0.out | apply IsS207.alloc | apply IsS207.drewN | apply IsS207.drew | apply IsS207.set_1 | apply IsS207.set_2) | exact HI0.out)); (case side2 => repeat (first | (with_reducible first | exact HB.out | apply qb0 | apply qa0 | apply qc0 | refine qh0 ?_ (IsS207.ge HI0.out)) | exact HB.out)); rintro e w7 ⟨rfl, hi, hb, hk⟩; refine ⟨_, rfl, ?_⟩; have n0_ := Aside0.mk (qg0.trans (by repeat (first | (with_reducible first | exact HK.out | apply qg0.set_ | apply qk0 | apply qm0 | apply ql0) | exact HK.out)) hk (.inl rfl)); have n1_ := Aside0.mk (hb); have n2_ := Aside0.mk (hi); clear HK; clear HB; clear HI0; have HK := n0_; have HB := n1_; have HI0 := n2_; clear n0_ n1_ n2_; (try clear hb); (try clear hb2); (try clear hk); (try clear hi)) | ((with_reducible refine qj0 (f := 103) rfl ?_); refine qs0 (some 11) rfl rfl Try.func103 (by kernel_rfl) rfl #[.pointer (some ⟨g, 0, none⟩), .slice A2 l2.length c2] rfl (by (try simp only [List.map_toArray, List.map_cons, List.map_nil]); first | done | rfl | (simp only [List.length_drop, List.length_take]; rfl)) ?_; (with_reducible refine (spec_l1PickInt.calls g s0_0 t129 t130 _ _ l2 t131 t132 t133 w0 _ ?side1 ?side2 ?side3 ?side4 ?side5 A6.out).mono ?_); (case side1 => repeat (first | (with_reducible first | exact HI0.out | apply IsS207.alloc | apply IsS207.drewN | apply IsS207.drew | apply IsS207.set_1 | apply IsS207.set_2) | exact HI0.out)); (case side2 => repeat (first | (with_reducible first | exact HB.out | apply qb0 | apply qa0 | apply qc0 | refine qh0 ?_ (IsS207.ge HI0.out)) | exact HB.out)); (case side3 => exact Kd.C_keep 0 HR2.out (by repeat (first | (with_reducible first | exact HK.out | apply qg0.set_ | apply qk0 | apply qm0 | apply ql0) | exact HK.out)) hf2); (case side4 => exact HC2.out); (case side5 => exact hf2); rintro e w8 ⟨rfl, hi, hb, hk⟩; refine ⟨_, rfl, ?_⟩; have n0_ := Aside0.mk (qg0.trans (by repeat (first | (with_reducible first | exact HK.out | apply qg0.set_ | apply qk0 | apply qm0 | apply ql0) | exact HK.out)) hk (.inl rfl)); have n1_ := Aside0.mk (hb); have n2_ := Aside0.mk (hi); clear HK; clear HB; clear HI0; have HK := n0_; have HB := n1_; have HI0 := n2_; clear n0_ n1_ n2_; (try clear hb); (try clear hb2); (try clear hk); (try clear hi)))
  go_ret
  exact ⟨by first | rfl | (simp [errW_none, errW_some] <;> rfl) | (simp [*, errW_none, errW_some] <;> rfl), by repeat (first | (with_reducible first | exact HI0.out | apply IsS207.alloc | apply IsS207.drewN | apply IsS207.drew | apply IsS207.set_1 | apply IsS207.set_2) | exact HI0.out), by repeat (first | (with_reducible first | exact HB.out | apply qb0 | apply qa0 | apply qc0 | refine qh0 ?_ (IsS207.ge HI0.out)) | exact HB.out), by repeat (first | (with_reducible first | exact HK.out | apply qg0.set_ | apply qk0 | apply qm0 | apply ql0) | exact HK.out)⟩
 replace c5 := Bool.eq_false_iff.mpr c5
 subst c5
 have H1 : (some (a1, t129, t130)) = some (r1, r2, r3) := by rw [if_neg (show ¬ (false = true) by decide)] at H; exact H
 clear H
 have H := H1
 clear H1
 simp only [Option.some.injEq, Prod.mk.injEq] at H
 obtain ⟨rfl, rfl, rfl⟩ := H
 go_enter Try.func119, Try.ntmps119
 go_wp2_with (first | ((with_reducible refine qj0 (f := 102) rfl ?_); refine qs0 (some 8) rfl rfl Try.func102 (by kernel_rfl) rfl #[.pointer (some ⟨g, 0, none⟩), .int .i64 40] rfl (by (try simp only [List.map_toArray, List.map_cons, List.map_nil]); first | done | rfl | (simp only [List.length_drop, List.length_take]; rfl)) ?_; (with_reducible refine (spec_l1Once.calls g s0_0 s0_1 s0_2 40 false t129 t130 w0 _ ?side1 ?side2 A4.out).mono ?_); (case side1 => repeat (first | (with_reducible first | exact HI0.out | apply IsS207.alloc | apply IsS207.drewN | apply IsS207.drew | apply IsS207.set_1 | apply IsS207.set_2) | exact HI0.out)); (case side2 => repeat (first | (with_reducible first | exact HB.out | apply qb0 | apply qa0 | apply qc0 | refine qh0 ?_ (IsS207.ge HI0.out)) | exact HB.out)); rintro e w9 ⟨rfl, hi, hb, hk⟩; refine ⟨_, rfl, ?_⟩; have n0_ := Aside0.mk (qg0.trans (by repeat (first | (with_reducible first | exact HK.out | apply qg0.set_ | apply qk0 | apply qm0 | apply ql0) | exact HK.out)) hk (.inl rfl)); have n1_ := Aside0.mk (hb); have n2_ := Aside0.mk (hi); clear HK; clear HB; clear HI0; have HK := n0_; have HB := n1_; have HI0 := n2_; clear n0_ n1_ n2_; (try clear hb); (try clear hb2); (try clear hk); (try clear hi)))
 go_ret
 exact ⟨by first | rfl | (simp [errW_none, errW_some] <;> rfl) | (simp [*, errW_none, errW_some] <;> rfl), by repeat (first | (with_reducible first | exact HI0.out | apply IsS207.alloc | apply IsS207.drewN | apply IsS207.drew | apply IsS207.set_1 | apply IsS207.set_2) | exact HI0.out), by repeat (first | (with_reducible first | exact HB.out | apply qb0 | apply qa0 | apply qc0 | refine qh0 ?_ (IsS207.ge HI0.out)) | exact HB.out), by repeat (first | (with_reducible first | exact HK.out | apply qg0.set_ | apply qk0 | apply qm0 | apply ql0) | exact HK.out)⟩

/-! ### spec_l1BadMoney: function 104 -/
def spec_l1BadMoney.f (s0_0 : List Int) (s0_1 : Int) (s0_2 : Int) (a1 : Int) : Option (Int × Int × Int) := (spec_l1Spoil.f s0_0 s0_1 s0_2 a1 (([100000000001, (-100000000001), 9223372036854775807, (-9223372036854775808)] : List Int))).bind fun bt137 => (some (bt137.1, bt137.2.1, bt137.2.2))
set_option maxHeartbeats 8000000 in
set_option maxRecDepth 100000 in
theorem spec_l1BadMoney.calls (g : Nat) (s0_0 : List Int) (s0_1 : Int) (s0_2 : Int) (a1 : Int) (r1 : Int) (r2 : Int) (r3 : Int) (w0 w : World) (hI : IsS207 w0 w g s0_0 s0_1 s0_2) (hB : Below w0.heap.size w0 w) (h : spec_l1BadMoney.f s0_0 s0_1 s0_2 a1 = some (r1, r2, r3)) :
  Calls Try.prog 104 #[.pointer (some ⟨g, 0, none⟩), .int .i64 a1] w fun e w' => e = .returned (.int .i64 r1) ∧ IsS207 w0 w' g s0_0 r2 r3 ∧ Below w0.heap.size w0 w' ∧ qg0 w w' g none := by
 have HI0 := Aside0.mk hI
 have HK := Aside0.mk (qg0.refl w g none)
 have HL := Aside0.mk hB.size
 clear hI
 have HW0 := Aside0.mk hB.size
 have HB := Aside0.mk hB
 clear hB
 have H : ((spec_l1Spoil.f s0_0 s0_1 s0_2 a1 (([100000000001, (-100000000001), 9223372036854775807, (-9223372036854775808)] : List Int))).bind fun bt137 => (some (bt137.1, bt137.2.1, bt137.2.2))) = some (r1, r2, r3) := h
 clear h
 obtain ⟨y134, hy134⟩ : ∃ y_ : List Int, y_ = (([100000000001, (-100000000001), 9223372036854775807, (-9223372036854775808)] : List Int)) := ⟨_, rfl⟩
 replace H : ((spec_l1Spoil.f s0_0 s0_1 s0_2 a1 y134).bind fun bt137 => (some (bt137.1, bt137.2.1, bt137.2.2))) = some (r1, r2, r3) := by first | (rw [hy134]; with_reducible exact H) | (have H2_ := (Option.bind_some _ _).symm.trans H; rw [hy134]; with_reducible exact H2_) | (have H2_ := (Option.bind_some _ _).symm.trans H; with_reducible exact H2_) | with_reducible exact H | (rw [hy134]; exact H) | exact H
 have Ny134 := Aside0.mk hy134
 clear hy134
 replace H := Option.bind_eq_some_iff.mp H
 obtain ⟨⟨t137, t138, t139⟩, A30, H⟩ := H
 replace H : (some (t137, t138, t139)) = some (r1, r2, r3) := H
 have A3 := Aside0.mk A30
 clear A30
 simp only [Option.some.injEq, Prod.mk.injEq] at H
 obtain ⟨rfl, rfl, rfl⟩ := H
 go_enter Try.func104, Try.ntmps104
 go_wp2_with (first | ((with_reducible refine qb1 (N := 7) rfl ?_); refine Kd.R_lit (Kd.int .i64) _ 3 ?hg (N := 7) ?hd (xs := ([100000000001, (-100000000001), 9223372036854775807, (-9223372036854775808)] : List Int)) (inner := [.int .i64 100000000001, .int .i64 (-100000000001), .int .i64 9223372036854775807, .int .i64 (-9223372036854775808)]) (ok := fun _ => True) (okp := fun _ => True) ?hr ?hp (fun _ hk => hk) trivial (Below.refl _ _) (Nat.le_refl _) (by simp) ?_; (case hd => rfl); (case hg => rfl); (case hr => first | (go_simp; done) | (go_simp; rfl)); (case hp => exact (Reps.one (show Kd.M (Kd.int .i64) _ _ _ 100000000001 [.int .i64 100000000001] from rfl) (Reps.one (show Kd.M (Kd.int .i64) _ _ _ (-100000000001) [.int .i64 (-100000000001)] from rfl) (Reps.one (show Kd.M (Kd.int .i64) _ _ _ 9223372036854775807 [.int .i64 9223372036854775807] from rfl) (Reps.one (show Kd.M (Kd.int .i64) _ _ _ (-9223372036854775808) [.int .i64 (-9223372036854775808)] from rfl) (Reps.none _ _)))))); intro v135 w4 ho5 hb hg_ hnew_; clear hg_ hnew_; (first | rw [← Ny134.out] at ho5 | (simp only [Int.reduceToNat] at ho5; rw [← Ny134.out] at ho5)); have n0_ := Aside0.mk (Kd.qy0 ho5 (keep_size (w := w) (g := g) (row := none) (by repeat (first | (with_reducible first | exact HK.out | apply qg0.set_ | apply qk0 | apply qm0 | apply ql0) | exact HK.out)))); have n1_ := Aside0.mk (IsS207.below (by repeat (first | (with_reducible first | exact HI0.out | apply IsS207.alloc | apply IsS207.drewN | apply IsS207.drew | apply IsS207.set_1 | apply IsS207.set_2) | exact HI0.out)) hb); have n2_ := Aside0.mk (qg0.trans (by repeat (first | (with_reducible first | exact HK.out | apply qg0.set_ | apply qk0 | apply qm0 | apply ql0) | exact HK.out)) (qg0.of_below hb g none) (.inl rfl)); have n3_ := Aside0.mk (qo0 (by repeat (first | (with_reducible first | exact HB.out | apply qb0 | apply qa0 | apply qc0 | refine qh0 ?_ (IsS207.ge HI0.out)) | exact HB.out)) hb); clear HI0; clear HK; clear HB; have HO136 := n0_; have HI0 := n1_; have HK := n2_; have HB := n3_; clear n0_ n1_ n2_ n3_; clear hb ho5; obtain ⟨Ao6, co6, eo6⟩ := Kd.qz0 HO136.out; subst eo6) | ((with_reducible refine qj0 (f := 119) rfl ?_); refine qs0 (some 8) rfl rfl Try.func119 (by kernel_rfl) rfl #[.pointer (some ⟨g, 0, none⟩), .int .i64 a1, .slice Ao6 y134.length co6] rfl (by (try simp only [List.map_toArray, List.map_cons, List.map_nil]); first | done | rfl | (simp only [List.length_drop, List.length_take]; rfl)) ?_; (with_reducible refine (spec_l1Spoil.calls g s0_0 s0_1 s0_2 a1 _ _ y134 t137 t138 t139 w0 _ ?side1 ?side2 ?side3 ?side4 ?side5 A3.out).mono ?_); (case side1 => repeat (first | (with_reducible first | exact HI0.out | apply IsS207.alloc | apply IsS207.drewN | apply IsS207.drew | apply IsS207.set_1 | apply IsS207.set_2) | exact HI0.out)); (case side2 => repeat (first | (with_reducible first | exact HB.out | apply qb0 | apply qa0 | apply qc0 | refine qh0 ?_ (IsS207.ge HI0.out)) | exact HB.out)); (case side3 => repeat (first | exact (Kd.qi0 HO136.out).2.2 | (with_reducible refine Kd.qu0 ?_ _) | (with_reducible refine Kd.qt0 ?_ _) | (with_reducible refine Kd.qa1 ?_))); (case side4 => exact (Kd.qi0 HO136.out).2.1); (case side5 => exact far_slice (IsS207.own_ne HI0.out HO136.out (by decide))); rintro e w7 ⟨rfl, hi, hb, hk⟩; refine ⟨_, rfl, ?_⟩; have n0_ := Aside0.mk (Kd.qp0 (Kd.R_keep (IsS207.apart (show IsS207 w0 _ g s0_0 s0_1 s0_2 from by repeat (first | (with_reducible first | exact HI0.out | apply IsS207.alloc | apply IsS207.drewN | apply IsS207.drew | apply IsS207.set_1 | apply IsS207.set_2) | exact HI0.out)) (by (with_reducible repeat (first | apply Kd.qe0 | apply Kd.qd0 | apply Kd.qf0)); exact HO136.out) (by decide)) hk (fun _ h => h.2)) (fun _ h => h.1)); have n1_ := Aside0.mk (qg0.trans (by repeat (first | (with_reducible first | exact HK.out | apply qg0.set_ | apply qk0 | apply qm0 | apply ql0) | exact HK.out)) hk (.inl rfl)); have n2_ := Aside0.mk (hb); have n3_ := Aside0.mk (hi); clear HO136; clear HK; clear HB; clear HI0; have HO136 := n0_; have HK := n1_; have HB := n2_; have HI0 := n3_; clear n0_ n1_ n2_ n3_; (try clear hb); (try clear hb2); (try clear hk); (try clear hi)))
 go_ret
 exact ⟨by first | rfl | (simp [errW_none, errW_some] <;> rfl) | (simp [*, errW_none, errW_some] <;> rfl), by repeat (first | (with_reducible first | exact HI0.out | apply IsS207.alloc | apply IsS207.drewN | apply IsS207.drew | apply IsS207.set_1 | apply IsS207.set_2) | exact HI0.out), by repeat (first | (with_reducible first | exact HB.out | apply qb0 | apply qa0 | apply qc0 | refine qh0 ?_ (IsS207.ge HI0.out)) | exact HB.out), by repeat (first | (with_reducible first | exact HK.out | apply qg0.set_ | apply qk0 | apply qm0 | apply ql0) | exact HK.out)⟩

/-! ### spec_l1DrawAmount: function 105 -/
def spec_l1DrawAmount.f (s0_0 : List Int) (s0_1 : Int) (s0_2 : Int) : Option (Int × Int × Int) := (spec_l1Below.f s0_0 s0_1 s0_2 12).bind fun bt140 => (if bt140.1 = 0 then ((spec_l1PickInt.f s0_0 bt140.2.1 bt140.2.2 (([0, 1, (-1), 100000000000, (-100000000000), 99999999999, 99, 100, 101] : List Int))).bind fun bt146 => (some (bt146.1, bt146.2.1, bt146.2.2))) else (if bt140.1 = 1 then ((spec_l1Below.f s0_0 bt140.2.1 bt140.2.2 100000000000).bind fun bt149 => (some (bt149.1, bt149.2.1, bt149.2.2))) else (if bt140.1 = 2 then ((spec_l1Below.f s0_0 bt140.2.1 bt140.2.2 1000000).bind fun bt152 => (some (wrap64 (-bt152.1), bt152.2.1, bt152.2.2))) else ((spec_l1Below.f s0_0 bt140.2.1 bt140.2.2 100000).bind fun bt155 => (some (bt155.1, bt155.2.1, bt155.2.2))))))
set_option maxHeartbeats 8000000 in
set_option maxRecDepth 100000 in
theorem spec_l1DrawAmount.calls (g : Nat) (s0_0 : List Int) (s0_1 : Int) (s0_2 : Int) (r1 : Int) (r2 : Int) (r3 : Int) (w0 w : World) (hI : IsS207 w0 w g s0_0 s0_1 s0_2) (hB : Below w0.heap.size w0 w) (h : spec_l1DrawAmount.f s0_0 s0_1 s0_2 = some (r1, r2, r3)) :
  Calls Try.prog 105 #[.pointer (some ⟨g, 0, none⟩)] w fun e w' => e = .returned (.int .i64 r1) ∧ IsS207 w0 w' g s0_0 r2 r3 ∧ Below w0.heap.size w0 w' ∧ qg0 w w' g none := by
 have HI0 := Aside0.mk hI
 have HK := Aside0.mk (qg0.refl w g none)
 have HL := Aside0.mk hB.size
 clear hI
 have HW0 := Aside0.mk hB.size
 have HB := Aside0.mk hB
 clear hB
 have H : ((spec_l1Below.f s0_0 s0_1 s0_2 12).bind fun bt140 => (if bt140.1 = 0 then ((spec_l1PickInt.f s0_0 bt140.2.1 bt140.2.2 (([0, 1, (-1), 100000000000, (-100000000000), 99999999999, 99, 100, 101] : List Int))).bind fun bt146 => (some (bt146.1, bt146.2.1, bt146.2.2))) else (if bt140.1 = 1 then ((spec_l1Below.f s0_0 bt140.2.1 bt140.2.2 100000000000).bind fun bt149 => (some (bt149.1, bt149.2.1, bt149.2.2))) else (if bt140.1 = 2 then ((spec_l1Below.f s0_0 bt140.2.1 bt140.2.2 1000000).bind fun bt152 => (some (wrap64 (-bt152.1), bt152.2.1, bt152.2.2))) else ((spec_l1Below.f s0_0 bt140.2.1 bt140.2.2 100000).bind fun bt155 => (some (bt155.1, bt155.2.1, bt155.2.2))))))) = some (r1, r2, r3) := h
 clear h
 replace H := Option.bind_eq_some_iff.mp H
 obtain ⟨⟨t140, t141, t142⟩, A20, H⟩ := H
 replace H : (if t140 = 0 then ((spec_l1PickInt.f s0_0 t141 t142 (([0, 1, (-1), 100000000000, (-100000000000), 99999999999, 99, 100, 101] : List Int))).bind fun bt146 => (some (bt146.1, bt146.2.1, bt146.2.2))) else (if t140 = 1 then ((spec_l1Below.f s0_0 t141 t142 100000000000).bind fun bt149 => (some (bt149.1, bt149.2.1, bt149.2.2))) else (if t140 = 2 then ((spec_l1Below.f s0_0 t141 t142 1000000).bind fun bt152 => (some (wrap64 (-bt152.1), bt152.2.1, bt152.2.2))) else ((spec_l1Below.f s0_0 t141 t142 100000).bind fun bt155 => (some (bt155.1, bt155.2.1, bt155.2.2)))))) = some (r1, r2, r3) := H
 have A2 := Aside0.mk A20
 clear A20
 by_cases c3 : t140 = 0
 ·rw [if_pos c3] at H
  have c3b0 : (t140 == 0) = true := beq_iff_eq.mpr c3
  have c3b1 : (t140 != 0) = false := bne_eq_false_iff_eq.mpr c3
  clear c3
  obtain ⟨y143, hy143⟩ : ∃ y_ : List Int, y_ = (([0, 1, (-1), 100000000000, (-100000000000), 99999999999, 99, 100, 101] : List Int)) := ⟨_, rfl⟩
  replace H : ((spec_l1PickInt.f s0_0 t141 t142 y143).bind fun bt146 => (some (bt146.1, bt146.2.1, bt146.2.2))) = some (r1, r2, r3) := by first | (rw [hy143]; with_reducible exact H) | (have H2_ := (Option.bind_some _ _).symm.trans H; rw [hy143]; with_reducible exact H2_) | (have H2_ := (Option.bind_some _ _).symm.trans H; with_reducible exact H2_) | with_reducible exact H | (rw [hy143]; exact H) | exact H
  have Ny143 := Aside0.mk hy143
  clear hy143
  replace H := Option.bind_eq_some_iff.mp H
  obtain ⟨⟨t146, t147, t148⟩, A40, H⟩ := H
  replace H : (some (t146, t147, t148)) = some (r1, r2, r3) := H
  have A4 := Aside0.mk A40
  clear A40
  simp only [Option.some.injEq, Prod.mk.injEq] at H
  obtain ⟨rfl, rfl, rfl⟩ := H
  go_enter Try.func105, Try.ntmps105
  go_wp2_with (first | ((with_reducible refine qj0 (f := 84) rfl ?_); refine qs0 (some 4) rfl rfl Try.func84 (by kernel_rfl) rfl #[.pointer (some ⟨g, 0, none⟩), .int .i64 12] rfl (by (try simp only [List.map_toArray, List.map_cons, List.map_nil]); first | done | rfl | (simp only [List.length_drop, List.length_take]; rfl)) ?_; (with_reducible refine (spec_l1Below.calls g s0_0 s0_1 s0_2 12 t140 t141 t142 w0 _ ?side1 ?side2 A2.out).mono ?_); (case side1 => repeat (first | (with_reducible first | exact HI0.out | apply IsS207.alloc | apply IsS207.drewN | apply IsS207.drew | apply IsS207.set_1 | apply IsS207.set_2) | exact HI0.out)); (case side2 => repeat (first | (with_reducible first | exact HB.out | apply qb0 | apply qa0 | apply qc0 | refine qh0 ?_ (IsS207.ge HI0.out)) | exact HB.out)); rintro e w5 ⟨rfl, hi, hb, hk⟩; refine ⟨_, rfl, ?_⟩; have n0_ := Aside0.mk (qg0.trans (by repeat (first | (with_reducible first | exact HK.out | apply qg0.set_ | apply qk0 | apply qm0 | apply ql0) | exact HK.out)) hk (.inl rfl)); have n1_ := Aside0.mk (hb); have n2_ := Aside0.mk (hi); clear HK; clear HB; clear HI0; have HK := n0_; have HB := n1_; have HI0 := n2_; clear n0_ n1_ n2_; (try clear hb); (try clear hb2); (try clear hk); (try clear hi)) | ((with_reducible refine qb1 (N := 8) rfl ?_); refine Kd.R_lit (Kd.int .i64) _ 3 ?hg (N := 8) ?hd (xs := ([0, 1, (-1), 100000000000, (-100000000000), 99999999999, 99, 100, 101] : List Int)) (inner := [.int .i64 0, .int .i64 1, .int .i64 (-1), .int .i64 100000000000, .int .i64 (-100000000000), .int .i64 99999999999, .int .i64 99, .int .i64 100, .int .i64 101]) (ok := fun _ => True) (okp := fun _ => True) ?hr ?hp (fun _ hk => hk) trivial (Below.refl _ _) (Nat.le_refl _) (by simp) ?_; (case hd => rfl); (case hg => rfl); (case hr => first | (go_simp; done) | (go_simp; rfl)); (case hp => exact (Reps.one (show Kd.M (Kd.int .i64) _ _ _ 0 [.int .i64 0] from rfl) (Reps.one (show Kd.M (Kd.int .i64) _ _ _ 1 [.int .i64 1] from rfl) (Reps.one (show Kd.M (Kd.int .i64) _ _ _ (-1) [.int .i64 (-1)] from rfl) (Reps.one (show Kd.M (Kd.int .i64) _ _ _ 100000000000 [.int .i64 100000000000] from rfl) (Reps.one (show Kd.M (Kd.int .i64) _ _ _ (-100000000000) [.int .i64 (-100000000000)] from rfl) (Reps.one (show Kd.M (Kd.int .i64) _ _ _ 99999999999 [.int .i64 99999999999] from rfl) (Reps.one (show Kd.M (Kd.int .i64) _ _ _ 99 [.int .i64 99] from rfl) (Reps.one (show Kd.M (Kd.int .i64) _ _ _ 100 [.int .i64 100] from rfl) (Reps.one (show Kd.M (Kd.int .i64) _ _ _ 101 [.int .i64 101] from rfl) (Reps.none _ _))))))))))); intro v144 w6 ho7 hb hg_ hnew_; clear hg_ hnew_; (first | rw [← Ny143.out] at ho7 | (simp only [Int.reduceToNat] at ho7; rw [← Ny143.out] at ho7)); have n0_ := Aside0.mk (Kd.qy0 ho7 (keep_size (w := w) (g := g) (row := none) (by repeat (first | (with_reducible first | exact HK.out | apply qg0.set_ | apply qk0 | apply qm0 | apply ql0) | exact HK.out)))); have n1_ := Aside0.mk (IsS207.below (by repeat (first | (with_reducible first | exact HI0.out | apply IsS207.alloc | apply IsS207.drewN | apply IsS207.drew | apply IsS207.set_1 | apply IsS207.set_2) | exact HI0.out)) hb); have n2_ := Aside0.mk (qg0.trans (by repeat (first | (with_reducible first | exact HK.out | apply qg0.set_ | apply qk0 | apply qm0 | apply ql0) | exact HK.out)) (qg0.of_below hb g none) (.inl rfl)); have n3_ := Aside0.mk (qo0 (by repeat (first | (with_reducible first | exact HB.out | apply qb0 | apply qa0 | apply qc0 | refine qh0 ?_ (IsS207.ge HI0.out)) | exact HB.out)) hb); clear HI0; clear HK; clear HB; have HO145 := n0_; have HI0 := n1_; have HK := n2_; have HB := n3_; clear n0_ n1_ n2_ n3_; clear hb ho7; obtain ⟨Ao8, co8, eo8⟩ := Kd.qz0 HO145.out; subst eo8) | ((with_reducible refine qj0 (f := 103) rfl ?_); refine qs0 (some 9) rfl rfl Try.func103 (by kernel_rfl) rfl #[.pointer (some ⟨g, 0, none⟩), .slice Ao8 y143.length co8] rfl (by (try simp only [List.map_toArray, List.map_cons, List.map_nil]); first | done | rfl | (simp only [List.length_drop, List.length_take]; rfl)) ?_; (with_reducible refine (spec_l1PickInt.calls g s0_0 t141 t142 _ _ y143 t146 t147 t148 w0 _ ?side1 ?side2 ?side3 ?side4 ?side5 A4.out).mono ?_); (case side1 => repeat (first | (with_reducible first | exact HI0.out | apply IsS207.alloc | apply IsS207.drewN | apply IsS207.drew | apply IsS207.set_1 | apply IsS207.set_2) | exact HI0.out)); (case side2 => repeat (first | (with_reducible first | exact HB.out | apply qb0 | apply qa0 | apply qc0 | refine qh0 ?_ (IsS207.ge HI0.out)) | exact HB.out)); (case side3 => repeat (first | exact (Kd.qi0 HO145.out).2.2 | (with_reducible refine Kd.qu0 ?_ _) | (with_reducible refine Kd.qt0 ?_ _) | (with_reducible refine Kd.qa1 ?_))); (case side4 => exact (Kd.qi0 HO145.out).2.1); (case side5 => exact far_slice (IsS207.own_ne HI0.out HO145.out (by decide))); rintro e w9 ⟨rfl, hi, hb, hk⟩; refine ⟨_, rfl, ?_⟩; have n0_ := Aside0.mk (Kd.qp0 (Kd.R_keep (IsS207.apart (show IsS207 w0 _ g s0_0 t141 t142 from by repeat (first | (with_reducible first | exact HI0.out | apply IsS207.alloc | apply IsS207.drewN | apply IsS207.drew | apply IsS207.set_1 | apply IsS207.set_2) | exact HI0.out)) (by (with_reducible repeat (first | apply Kd.qe0 | apply Kd.qd0 | apply Kd.qf0)); exact HO145.out) (by decide)) hk (fun _ h => h.2)) (fun _ h => h.1)); have n1_ := Aside0.mk (qg0.trans (by repeat (first | (with_reducible first | exact HK.out | apply qg0.set_ | apply qk0 | apply qm0 | apply ql0) | exact HK.out)) hk (.inl rfl)); have n2_ := Aside0.mk (hb); have n3_ := Aside0.mk (hi); clear HO145; clear HK; clear HB; clear HI0; have HO145 := n0_; have HK := n1_; have HB := n2_; have HI0 := n3_; clear n0_ n1_ n2_ n3_; (try clear hb); (try clear hb2); (try clear hk); (try clear hi)))
  go_ret
  exact ⟨by first | rfl | (simp [errW_none, errW_some] <;> rfl) | (simp [*, errW_none, errW_some] <;> rfl), by repeat (first | (with_reducible first | exact HI0.out | apply IsS207.alloc | apply IsS207.drewN | apply IsS207.drew | apply IsS207.set_1 | apply IsS207.set_2) | exact HI0.out), by repeat (first | (with_reducible first | exact HB.out | apply qb0 | apply qa0 | apply qc0 | refine qh0 ?_ (IsS207.ge HI0.out)) | exact HB.out), by repeat (first | (with_reducible first | exact HK.out | apply qg0.set_ | apply qk0 | apply qm0 | apply ql0) | exact HK.out)⟩
 rw [if_neg c3] at H
 have c3b0 : (t140 == 0) = false := beq_eq_false_iff_ne.mpr c3
 have c3b1 : (t140 != 0) = true := bne_iff_ne.mpr c3
 by_cases c10 : t140 = 1
 ·rw [if_pos c10] at H
  have c10b0 : (t140 == 1) = true := beq_iff_eq.mpr c10
  have c10b1 : (t140 != 1) = false := bne_eq_false_iff_eq.mpr c10
  clear c10
  replace H := Option.bind_eq_some_iff.mp H
  obtain ⟨⟨t149, t150, t151⟩, A110, H⟩ := H
  replace H : (some (t149, t150, t151)) = some (r1, r2, r3) := H
  have A11 := Aside0.mk A110
  clear A110
  simp only [Option.some.injEq, Prod.mk.injEq] at H
  obtain ⟨rfl, rfl, rfl⟩ := H
  go_enter Try.func105, Try.ntmps105
  go_wp2_with (first | ((with_reducible refine qj0 (f := 84) rfl ?_); refine qs0 (some 4) rfl rfl Try.func84 (by kernel_rfl) rfl #[.pointer (some ⟨g, 0, none⟩), .int .i64 12] rfl (by (try simp only [List.map_toArray, List.map_cons, List.map_nil]); first | done | rfl | (simp only [List.length_drop, List.length_take]; rfl)) ?_; (with_reducible refine (spec_l1Below.calls g s0_0 s0_1 s0_2 12 t140 t141 t142 w0 _ ?side1 ?side2 A2.out).mono ?_); (case side1 => repeat (first | (with_reducible first | exact HI0.out | apply IsS207.alloc | apply IsS207.drewN | apply IsS207.drew | apply IsS207.set_1 | apply IsS207.set_2) | exact HI0.out)); (case side2 => repeat (first | (with_reducible first | exact HB.out | apply qb0 | apply qa0 | apply qc0 | refine qh0 ?_ (IsS207.ge HI0.out)) | exact HB.out)); rintro e w12 ⟨rfl, hi, hb, hk⟩; refine ⟨_, rfl, ?_⟩; have n0_ := Aside0.mk (qg0.trans (by repeat (first | (with_reducible first | exact HK.out | apply qg0.set_ | apply qk0 | apply qm0 | apply ql0) | exact HK.out)) hk (.inl rfl)); have n1_ := Aside0.mk (hb); have n2_ := Aside0.mk (hi); clear HK; clear HB; clear HI0; have HK := n0_; have HB := n1_; have HI0 := n2_; clear n0_ n1_ n2_; (try clear hb); (try clear hb2); (try clear hk); (try clear hi)) | ((with_reducible refine qj0 (f := 84) rfl ?_); refine qs0 (some 13) rfl rfl Try.func84 (by kernel_rfl) rfl #[.pointer (some ⟨g, 0, none⟩), .int .i64 100000000000] rfl (by (try simp only [List.map_toArray, List.map_cons, List.map_nil]); first | done | rfl | (simp only [List.length_drop, List.length_take]; rfl)) ?_; (with_reducible refine (spec_l1Below.calls g s0_0 t141 t142 100000000000 t149 t150 t151 w0 _ ?side1 ?side2 A11.out).mono ?_); (case side1 => repeat (first | (with_reducible first | exact HI0.out | apply IsS207.alloc | apply IsS207.drewN | apply IsS207.drew | apply IsS207.set_1 | apply IsS207.set_2) | exact HI0.out)); (case side2 => repeat (first | (with_reducible first | exact HB.out | apply qb0 | apply qa0 | apply qc0 | refine qh0 ?_ (IsS207.ge HI0.out)) | exact HB.out)); rintro e w13 ⟨rfl, hi, hb, hk⟩; refine ⟨_, rfl, ?_⟩; have n0_ := Aside0.mk (qg0.trans (by repeat (first | (with_reducible first | exact HK.out | apply qg0.set_ | apply qk0 | apply qm0 | apply ql0) | exact HK.out)) hk (.inl rfl)); have n1_ := Aside0.mk (hb); have n2_ := Aside0.mk (hi); clear HK; clear HB; clear HI0; have HK := n0_; have HB := n1_; have HI0 := n2_; clear n0_ n1_ n2_; (try clear hb); (try clear hb2); (try clear hk); (try clear hi)))
  go_ret
  exact ⟨by first | rfl | (simp [errW_none, errW_some] <;> rfl) | (simp [*, errW_none, errW_some] <;> rfl), by repeat (first | (with_reducible first | exact HI0.out | apply IsS207.alloc | apply IsS207.drewN | apply IsS207.drew | apply IsS207.set_1 | apply IsS207.set_2) | exact HI0.out), by repeat (first | (with_reducible first | exact HB.out | apply qb0 | apply qa0 | apply qc0 | refine qh0 ?_ (IsS207.ge HI0.out)) | exact HB.out), by repeat (first | (with_reducible first | exact HK.out | apply qg0.set_ | apply qk0 | apply qm0 | apply ql0) | exact HK.out)⟩
 rw [if_neg c10] at H
 have c10b0 : (t140 == 1) = false := beq_eq_false_iff_ne.mpr c10
 have c10b1 : (t140 != 1) = true := bne_iff_ne.mpr c10
 by_cases c14 : t140 = 2
 ·rw [if_pos c14] at H
  have c14b0 : (t140 == 2) = true := beq_iff_eq.mpr c14
  have c14b1 : (t140 != 2) = false := bne_eq_false_iff_eq.mpr c14
  clear c14
  replace H := Option.bind_eq_some_iff.mp H
  obtain ⟨⟨t152, t153, t154⟩, A150, H⟩ := H
  replace H : (some (wrap64 (-t152), t153, t154)) = some (r1, r2, r3) := H
  have A15 := Aside0.mk A150
  clear A150
  simp only [Option.some.injEq, Prod.mk.injEq] at H
  obtain ⟨rfl, rfl, rfl⟩ := H
  go_enter Try.func105, Try.ntmps105
  go_wp2_with (first | ((with_reducible refine qj0 (f := 84) rfl ?_); refine qs0 (some 4) rfl rfl Try.func84 (by kernel_rfl) rfl #[.pointer (some ⟨g, 0, none⟩), .int .i64 12] rfl (by (try simp only [List.map_toArray, List.map_cons, List.map_nil]); first | done | rfl | (simp only [List.length_drop, List.length_take]; rfl)) ?_; (with_reducible refine (spec_l1Below.calls g s0_0 s0_1 s0_2 12 t140 t141 t142 w0 _ ?side1 ?side2 A2.out).mono ?_); (case side1 => repeat (first | (with_reducible first | exact HI0.out | apply IsS207.alloc | apply IsS207.drewN | apply IsS207.drew | apply IsS207.set_1 | apply IsS207.set_2) | exact HI0.out)); (case side2 => repeat (first | (with_reducible first | exact HB.out | apply qb0 | apply qa0 | apply qc0 | refine qh0 ?_ (IsS207.ge HI0.out)) | exact HB.out)); rintro e w16 ⟨rfl, hi, hb, hk⟩; refine ⟨_, rfl, ?_⟩; have n0_ := Aside0.mk (qg0.trans (by repeat (first | (with_reducible first | exact HK.out | apply qg0.set_ | apply qk0 | apply qm0 | apply ql0) | exact HK.out)) hk (.inl rfl)); have n1_ := Aside0.mk (hb); have n2_ := Aside0.mk (hi); clear HK; clear HB; clear HI0; have HK := n0_; have HB := n1_; have HI0 := n2_; clear n0_ n1_ n2_; (try clear hb); (try clear hb2); (try clear hk); (try clear hi)) | ((with_reducible refine qj0 (f := 84) rfl ?_); refine qs0 (some 17) rfl rfl Try.func84 (by kernel_rfl) rfl #[.pointer (some ⟨g, 0, none⟩), .int .i64 1000000] rfl (by (try simp only [List.map_toArray, List.map_cons, List.map_nil]); first | done | rfl | (simp only [List.length_drop, List.length_take]; rfl)) ?_; (with_reducible refine (spec_l1Below.calls g s0_0 t141 t142 1000000 t152 t153 t154 w0 _ ?side1 ?side2 A15.out).mono ?_); (case side1 => repeat (first | (with_reducible first | exact HI0.out | apply IsS207.alloc | apply IsS207.drewN | apply IsS207.drew | apply IsS207.set_1 | apply IsS207.set_2) | exact HI0.out)); (case side2 => repeat (first | (with_reducible first | exact HB.out | apply qb0 | apply qa0 | apply qc0 | refine qh0 ?_ (IsS207.ge HI0.out)) | exact HB.out)); rintro e w17 ⟨rfl, hi, hb, hk⟩; refine ⟨_, rfl, ?_⟩; have n0_ := Aside0.mk (qg0.trans (by repeat (first | (with_reducible first | exact HK.out | apply qg0.set_ | apply qk0 | apply qm0 | apply ql0) | exact HK.out)) hk (.inl rfl)); have n1_ := Aside0.mk (hb); have n2_ := Aside0.mk (hi); clear HK; clear HB; clear HI0; have HK := n0_; have HB := n1_; have HI0 := n2_; clear n0_ n1_ n2_; (try clear hb); (try clear hb2); (try clear hk); (try clear hi)))
  go_ret
  exact ⟨by first | rfl | (simp [errW_none, errW_some] <;> rfl) | (simp [*, errW_none, errW_some] <;> rfl), by repeat (first | (with_reducible first | exact HI0.out | apply IsS207.alloc | apply IsS207.drewN | apply IsS207.drew | apply IsS207.set_1 | apply IsS207.set_2) | exact HI0.out), by repeat (first | (with_reducible first | exact HB.out | apply qb0 | apply qa0 | apply qc0 | refine qh0 ?_ (IsS207.ge HI0.out)) | exact HB.out), by repeat (first | (with_reducible first | exact HK.out | apply qg0.set_ | apply qk0 | apply qm0 | apply ql0) | exact HK.out)⟩
 rw [if_neg c14] at H
 have c14b0 : (t140 == 2) = false := beq_eq_false_iff_ne.mpr c14
 have c14b1 : (t140 != 2) = true := bne_iff_ne.mpr c14
 replace H := Option.bind_eq_some_iff.mp H
 obtain ⟨⟨t155, t156, t157⟩, A180, H⟩ := H
 replace H : (some (t155, t156, t157)) = some (r1, r2, r3) := H
 have A18 := Aside0.mk A180
 clear A180
 simp only [Option.some.injEq, Prod.mk.injEq] at H
 obtain ⟨rfl, rfl, rfl⟩ := H
 go_enter Try.func105, Try.ntmps105
 go_wp2_with (first | ((with_reducible refine qj0 (f := 84) rfl ?_); refine qs0 (some 4) rfl rfl Try.func84 (by kernel_rfl) rfl #[.pointer (some ⟨g, 0, none⟩), .int .i64 12] rfl (by (try simp only [List.map_toArray, List.map_cons, List.map_nil]); first | done | rfl | (simp only [List.length_drop, List.length_take]; rfl)) ?_; (with_reducible refine (spec_l1Below.calls g s0_0 s0_1 s0_2 12 t140 t141 t142 w0 _ ?side1 ?side2 A2.out).mono ?_); (case side1 => repeat (first | (with_reducible first | exact HI0.out | apply IsS207.alloc | apply IsS207.drewN | apply IsS207.drew | apply IsS207.set_1 | apply IsS207.set_2) | exact HI0.out)); (case side2 => repeat (first | (with_reducible first | exact HB.out | apply qb0 | apply qa0 | apply qc0 | refine qh0 ?_ (IsS207.ge HI0.out)) | exact HB.out)); rintro e w19 ⟨rfl, hi, hb, hk⟩; refine ⟨_, rfl, ?_⟩; have n0_ := Aside0.mk (qg0.trans (by repeat (first | (with_reducible first | exact HK.out | apply qg0.set_ | apply qk0 | apply qm0 | apply ql0) | exact HK.out)) hk (.inl rfl)); have n1_ := Aside0.mk (hb); have n2_ := Aside0.mk (hi); clear HK; clear HB; clear HI0; have HK := n0_; have HB := n1_; have HI0 := n2_; clear n0_ n1_ n2_; (try clear hb); (try clear hb2); (try clear hk); (try clear hi)) | ((with_reducible refine qj0 (f := 84) rfl ?_); refine qs0 (some 20) rfl rfl Try.func84 (by kernel_rfl) rfl #[.pointer (some ⟨g, 0, none⟩), .int .i64 100000] rfl (by (try simp only [List.map_toArray, List.map_cons, List.map_nil]); first | done | rfl | (simp only [List.length_drop, List.length_take]; rfl)) ?_; (with_reducible refine (spec_l1Below.calls g s0_0 t141 t142 100000 t155 t156 t157 w0 _ ?side1 ?side2 A18.out).mono ?_); (case side1 => repeat (first | (with_reducible first | exact HI0.out | apply IsS207.alloc | apply IsS207.drewN | apply IsS207.drew | apply IsS207.set_1 | apply IsS207.set_2) | exact HI0.out)); (case side2 => repeat (first | (with_reducible first | exact HB.out | apply qb0 | apply qa0 | apply qc0 | refine qh0 ?_ (IsS207.ge HI0.out)) | exact HB.out)); rintro e w20 ⟨rfl, hi, hb, hk⟩; refine ⟨_, rfl, ?_⟩; have n0_ := Aside0.mk (qg0.trans (by repeat (first | (with_reducible first | exact HK.out | apply qg0.set_ | apply qk0 | apply qm0 | apply ql0) | exact HK.out)) hk (.inl rfl)); have n1_ := Aside0.mk (hb); have n2_ := Aside0.mk (hi); clear HK; clear HB; clear HI0; have HK := n0_; have HB := n1_; have HI0 := n2_; clear n0_ n1_ n2_; (try clear hb); (try clear hb2); (try clear hk); (try clear hi)))
 go_ret
 exact ⟨by first | rfl | (simp [errW_none, errW_some] <;> rfl) | (simp [*, errW_none, errW_some] <;> rfl), by repeat (first | (with_reducible first | exact HI0.out | apply IsS207.alloc | apply IsS207.drewN | apply IsS207.drew | apply IsS207.set_1 | apply IsS207.set_2) | exact HI0.out), by repeat (first | (with_reducible first | exact HB.out | apply qb0 | apply qa0 | apply qc0 | refine qh0 ?_ (IsS207.ge HI0.out)) | exact HB.out), by repeat (first | (with_reducible first | exact HK.out | apply qg0.set_ | apply qk0 | apply qm0 | apply ql0) | exact HK.out)⟩

/-! ### spec_l1DrawFactor: function 168 -/
def spec_l1DrawFactor.f (s0_0 : List Int) (s0_1 : Int) (s0_2 : Int) : Option (Int × Int × Int) := (spec_l1Once.f s0_0 s0_1 s0_2 6).bind fun bt158 => (if bt158.1 = true then ((spec_l1PickInt.f s0_0 bt158.2.1 bt158.2.2 (([0, 1, 10000000, 9999999, 2, 3] : List Int))).bind fun bt164 => (some (bt164.1, bt164.2.1, bt164.2.2))) else ((spec_l1Below.f s0_0 bt158.2.1 bt158.2.2 2000).bind fun bt167 => (some (bt167.1, bt167.2.1, bt167.2.2))))
set_option maxHeartbeats 8000000 in
set_option maxRecDepth 100000 in
theorem spec_l1DrawFactor.calls (g : Nat) (s0_0 : List Int) (s0_1 : Int) (s0_2 : Int) (r1 : Int) (r2 : Int) (r3 : Int) (w0 w : World) (hI : IsS207 w0 w g s0_0 s0_1 s0_2) (hB : Below w0.heap.size w0 w) (h : spec_l1DrawFactor.f s0_0 s0_1 s0_2 = some (r1, r2, r3)) :
  Calls Try.prog 168 #[.pointer (some ⟨g, 0, none⟩)] w fun e w' => e = .returned (.int .i64 r1) ∧ IsS207 w0 w' g s0_0 r2 r3 ∧ Below w0.heap.size w0 w' ∧ qg0 w w' g none := by
 have HI0 := Aside0.mk hI
 have HK := Aside0.mk (qg0.refl w g none)
 have HL := Aside0.mk hB.size
 clear hI
 have HW0 := Aside0.mk hB.size
 have HB := Aside0.mk hB
 clear hB
 have H : ((spec_l1Once.f s0_0 s0_1 s0_2 6).bind fun bt158 => (if bt158.1 = true then ((spec_l1PickInt.f s0_0 bt158.2.1 bt158.2.2 (([0, 1, 10000000, 9999999, 2, 3] : List Int))).bind fun bt164 => (some (bt164.1, bt164.2.1, bt164.2.2))) else ((spec_l1Below.f s0_0 bt158.2.1 bt158.2.2 2000).bind fun bt167 => (some (bt167.1, bt167.2.1, bt167.2.2))))) = some (r1, r2, r3) := h
 clear h
 replace H := Option.bind_eq_some_iff.mp H
 obtain ⟨⟨t158, t159, t160⟩, A20, H⟩ := H
 replace H : (if t158 = true then ((spec_l1PickInt.f s0_0 t159 t160 (([0, 1, 10000000, 9999999, 2, 3] : List Int))).bind fun bt164 => (some (bt164.1, bt164.2.1, bt164.2.2))) else ((spec_l1Below.f s0_0 t159 t160 2000).bind fun bt167 => (some (bt167.1, bt167.2.1, bt167.2.2)))) = some (r1, r2, r3) := H
 have A2 := Aside0.mk A20
 clear A20
 by_cases c3 : t158 = true
 ·subst c3
  have H1 : ((spec_l1PickInt.f s0_0 t159 t160 (([0, 1, 10000000, 9999999, 2, 3] : List Int))).bind fun bt164 => (some (bt164.1, bt164.2.1, bt164.2.2))) = some (r1, r2, r3) := by rw [if_pos rfl] at H; exact H
  clear H
  have H := H1
  clear H1
  obtain ⟨y161, hy161⟩ : ∃ y_ : List Int, y_ = (([0, 1, 10000000, 9999999, 2, 3] : List Int)) := ⟨_, rfl⟩
  replace H : ((spec_l1PickInt.f s0_0 t159 t160 y161).bind fun bt164 => (some (bt164.1, bt164.2.1, bt164.2.2))) = some (r1, r2, r3) := by first | (rw [hy161]; with_reducible exact H) | (have H2_ := (Option.bind_some _ _).symm.trans H; rw [hy161]; with_reducible exact H2_) | (have H2_ := (Option.bind_some _ _).symm.trans H; with_reducible exact H2_) | with_reducible exact H | (rw [hy161]; exact H) | exact H
  have Ny161 := Aside0.mk hy161
  clear hy161
  replace H := Option.bind_eq_some_iff.mp H
  obtain ⟨⟨t164, t165, t166⟩, A40, H⟩ := H
  replace H : (some (t164, t165, t166)) = some (r1, r2, r3) := H
  have A4 := Aside0.mk A40
  clear A40
  simp only [Option.some.injEq, Prod.mk.injEq] at H
  obtain ⟨rfl, rfl, rfl⟩ := H
  go_enter Try.func168, Try.ntmps168
  go_wp2_with (first | ((with_reducible refine qj0 (f := 102) rfl ?_); refine qs0 (some 4) rfl rfl Try.func102 (by kernel_rfl) rfl #[.pointer (some ⟨g, 0, none⟩), .int .i64 6] rfl (by (try simp only [List.map_toArray, List.map_cons, List.map_nil]); first | done | rfl | (simp only [List.length_drop, List.length_take]; rfl)) ?_; (with_reducible refine (spec_l1Once.calls g s0_0 s0_1 s0_2 6 true t159 t160 w0 _ ?side1 ?side2 A2.out).mono ?_); (case side1 => repeat (first | (with_reducible first | exact HI0.out | apply IsS207.alloc | apply IsS207.drewN | apply IsS207.drew | apply IsS207.set_1 | apply IsS207.set_2) | exact HI0.out)); (case side2 => repeat (first | (with_reducible first | exact HB.out | apply qb0 | apply qa0 | apply qc0 | refine qh0 ?_ (IsS207.ge HI0.out)) | exact HB.out)); rintro e w5 ⟨rfl, hi, hb, hk⟩; refine ⟨_, rfl, ?_⟩; have n0_ := Aside0.mk (qg0.trans (by repeat (first | (with_reducible first | exact HK.out | apply qg0.set_ | apply qk0 | apply qm0 | apply ql0) | exact HK.out)) hk (.inl rfl)); have n1_ := Aside0.mk (hb); have n2_ := Aside0.mk (hi); clear HK; clear HB; clear HI0; have HK := n0_; have HB := n1_; have HI0 := n2_; clear n0_ n1_ n2_; (try clear hb); (try clear hb2); (try clear hk); (try clear hi)) | ((with_reducible refine qb1 (N := 6) rfl ?_); refine Kd.R_lit (Kd.int .i64) _ 3 ?hg (N := 6) ?hd (xs := ([0, 1, 10000000, 9999999, 2, 3] : List Int)) (inner := [.int .i64 0, .int .i64 1, .int .i64 10000000, .int .i64 9999999, .int .i64 2, .int .i64 3]) (ok := fun _ => True) (okp := fun _ => True) ?hr ?hp (fun _ hk => hk) trivial (Below.refl _ _) (Nat.le_refl _) (by simp) ?_; (case hd => rfl); (case hg => rfl); (case hr => first | (go_simp; done) | (go_simp; rfl)); (case hp => exact (Reps.one (show Kd.M (Kd.int .i64) _ _ _ 0 [.int .i64 0] from rfl) (Reps.one (show Kd.M (Kd.int .i64) _ _ _ 1 [.int .i64 1] from rfl) (Reps.one (show Kd.M (Kd.int .i64) _ _ _ 10000000 [.int .i64 10000000] from rfl) (Reps.one (show Kd.M (Kd.int .i64) _ _ _ 9999999 [.int .i64 9999999] from rfl) (Reps.one (show Kd.M (Kd.int .i64) _ _ _ 2 [.int .i64 2] from rfl) (Reps.one (show Kd.M (Kd.int .i64) _ _ _ 3 [.int .i64 3] from rfl) (Reps.none _ _)))))))); intro v162 w6 ho7 hb hg_ hnew_; clear hg_ hnew_; (first | rw [← Ny161.out] at ho7 | (simp only [Int.reduceToNat] at ho7; rw [← Ny161.out] at ho7)); have n0_ := Aside0.mk (Kd.qy0 ho7 (keep_size (w := w) (g := g) (row := none) (by repeat (first | (with_reducible first | exact HK.out | apply qg0.set_ | apply qk0 | apply qm0 | apply ql0) | exact HK.out)))); have n1_ := Aside0.mk (IsS207.below (by repeat (first | (with_reducible first | exact HI0.out | apply IsS207.alloc | apply IsS207.drewN | apply IsS207.drew | apply IsS207.set_1 | apply IsS207.set_2) | exact HI0.out)) hb); have n2_ := Aside0.mk (qg0.trans (by repeat (first | (with_reducible first | exact HK.out | apply qg0.set_ | apply qk0 | apply qm0 | apply ql0) | exact HK.out)) (qg0.of_below hb g none) (.inl rfl)); have n3_ := Aside0.mk (qo0 (by repeat (first | (with_reducible first | exact HB.out | apply qb0 | apply qa0 | apply qc0 | refine qh0 ?_ (IsS207.ge HI0.out)) | exact HB.out)) hb); clear HI0; clear HK; clear HB; have HO163 := n0_; have HI0 := n1_; have HK := n2_; have HB := n3_; clear n0_ n1_ n2_ n3_; clear hb ho7; obtain ⟨Ao8, co8, eo8⟩ := Kd.qz0 HO163.out; subst eo8) | ((with_reducible refine qj0 (f := 103) rfl ?_); refine qs0 (some 7) rfl rfl Try.func103 (by kernel_rfl) rfl #[.pointer (some ⟨g, 0, none⟩), .slice Ao8 y161.length co8] rfl (by (try simp only [List.map_toArray, List.map_cons, List.map_nil]); first | done | rfl | (simp only [List.length_drop, List.length_take]; rfl)) ?_; (with_reducible refine (spec_l1PickInt.calls g s0_0 t159 t160 _ _ y161 t164 t165 t166 w0 _ ?side1 ?side2 ?side3 ?side4 ?side5 A4.out).mono ?_); (case side1 => repeat (first | (with_reducible first | exact HI0.out | apply IsS207.alloc | apply IsS207.drewN | apply IsS207.drew | apply IsS207.set_1 | apply IsS207.set_2) | exact HI0.out)); (case side2 => repeat (first | (with_reducible first | exact HB.out | apply qb0 | apply qa0 | apply qc0 | refine qh0 ?_ (IsS207.ge HI0.out)) | exact HB.out)); (case side3 => repeat (first | exact (Kd.qi0 HO163.out).2.2 | (with_reducible refine Kd.qu0 ?_ _) | (with_reducible refine Kd.qt0 ?_ _) | (with_reducible refine Kd.qa1 ?_))); (case side4 => exact (Kd.qi0 HO163.out).2.1); (case side5 => exact far_slice (IsS207.own_ne HI0.out HO163.out (by decide))); rintro e w9 ⟨rfl, hi, hb, hk⟩; refine ⟨_, rfl, ?_⟩; have n0_ := Aside0.mk (Kd.qp0 (Kd.R_keep (IsS207.apart (show IsS207 w0 _ g s0_0 t159 t160 from by repeat (first | (with_reducible first | exact HI0.out | apply IsS207.alloc | apply IsS207.drewN | apply IsS207.drew | apply IsS207.set_1 | apply IsS207.set_2) | exact HI0.out)) (by (with_reducible repeat (first | apply Kd.qe0 | apply Kd.qd0 | apply Kd.qf0)); exact HO163.out) (by decide)) hk (fun _ h => h.2)) (fun _ h => h.1)); have n1_ := Aside0.mk (qg0.trans (by repeat (first | (with_reducible first | exact HK.out | apply qg0.set_ | apply qk0 | apply qm0 | apply ql0) | exact HK.out)) hk (.inl rfl)); have n2_ := Aside0.mk (hb); have n3_ := Aside0.mk (hi); clear HO163; clear HK; clear HB; clear HI0; have HO163 := n0_; have HK := n1_; have HB := n2_; have HI0 := n3_; clear n0_ n1_ n2_ n3_; (try clear hb); (try clear hb2); (try clear hk); (try clear hi)))
  go_ret
  exact ⟨by first | rfl | (simp [errW_none, errW_some] <;> rfl) | (simp [*, errW_none, errW_some] <;> rfl), by repeat (first | (with_reducible first | exact HI0.out | apply IsS207.alloc | apply IsS207.drewN | apply IsS207.drew | apply IsS207.set_1 | apply IsS207.set_2) | exact HI0.out), by repeat (first | (with_reducible first | exact HB.out | apply qb0 | apply qa0 | apply qc0 | refine qh0 ?_ (IsS207.ge HI0.out)) | exact HB.out), by repeat (first | (with_reducible first | exact HK.out | apply qg0.set_ | apply qk0 | apply qm0 | apply ql0) | exact HK.out)⟩
 replace c3 := Bool.eq_false_iff.mpr c3
 subst c3
 have H1 : ((spec_l1Below.f s0_0 t159 t160 2000).bind fun bt167 => (some (bt167.1, bt167.2.1, bt167.2.2))) = some (r1, r2, r3) := by rw [if_neg (show ¬ (false = true) by decide)] at H; exact H
 clear H
 have H := H1
 clear H1
 replace H := Option.bind_eq_some_iff.mp H
 obtain ⟨⟨t167, t168, t169⟩, A100, H⟩ := H
 replace H : (some (t167, t168, t169)) = some (r1, r2, r3) := H
 have A10 := Aside0.mk A100
 clear A100
 simp only [Option.some.injEq, Prod.mk.injEq] at H
 obtain ⟨rfl, rfl, rfl⟩ := H
 go_enter Try.func168, Try.ntmps168
 go_wp2_with (first | ((with_reducible refine qj0 (f := 102) rfl ?_); refine qs0 (some 4) rfl rfl Try.func102 (by kernel_rfl) rfl #[.pointer (some ⟨g, 0, none⟩), .int .i64 6] rfl (by (try simp only [List.map_toArray, List.map_cons, List.map_nil]); first | done | rfl | (simp only [List.length_drop, List.length_take]; rfl)) ?_; (with_reducible refine (spec_l1Once.calls g s0_0 s0_1 s0_2 6 false t159 t160 w0 _ ?side1 ?side2 A2.out).mono ?_); (case side1 => repeat (first | (with_reducible first | exact HI0.out | apply IsS207.alloc | apply IsS207.drewN | apply IsS207.drew | apply IsS207.set_1 | apply IsS207.set_2) | exact HI0.out)); (case side2 => repeat (first | (with_reducible first | exact HB.out | apply qb0 | apply qa0 | apply qc0 | refine qh0 ?_ (IsS207.ge HI0.out)) | exact HB.out)); rintro e w11 ⟨rfl, hi, hb, hk⟩; refine ⟨_, rfl, ?_⟩; have n0_ := Aside0.mk (qg0.trans (by repeat (first | (with_reducible first | exact HK.out | apply qg0.set_ | apply qk0 | apply qm0 | apply ql0) | exact HK.out)) hk (.inl rfl)); have n1_ := Aside0.mk (hb); have n2_ := Aside0.mk (hi); clear HK; clear HB; clear HI0; have HK := n0_; have HB := n1_; have HI0 := n2_; clear n0_ n1_ n2_; (try clear hb); (try clear hb2); (try clear hk); (try clear hi)) | ((with_reducible refine qj0 (f := 84) rfl ?_); refine qs0 (some 9) rfl rfl Try.func84 (by kernel_rfl) rfl #[.pointer (some ⟨g, 0, none⟩), .int .i64 2000] rfl (by (try simp only [List.map_toArray, List.map_cons, List.map_nil]); first | done | rfl | (simp only [List.length_drop, List.length_take]; rfl)) ?_; (with_reducible refine (spec_l1Below.calls g s0_0 t159 t160 2000 t167 t168 t169 w0 _ ?side1 ?side2 A10.out).mono ?_); (case side1 => repeat (first | (with_reducible first | exact HI0.out | apply IsS207.alloc | apply IsS207.drewN | apply IsS207.drew | apply IsS207.set_1 | apply IsS207.set_2) | exact HI0.out)); (case side2 => repeat (first | (with_reducible first | exact HB.out | apply qb0 | apply qa0 | apply qc0 | refine qh0 ?_ (IsS207.ge HI0.out)) | exact HB.out)); rintro e w12 ⟨rfl, hi, hb, hk⟩; refine ⟨_, rfl, ?_⟩; have n0_ := Aside0.mk (qg0.trans (by repeat (first | (with_reducible first | exact HK.out | apply qg0.set_ | apply qk0 | apply qm0 | apply ql0) | exact HK.out)) hk (.inl rfl)); have n1_ := Aside0.mk (hb); have n2_ := Aside0.mk (hi); clear HK; clear HB; clear HI0; have HK := n0_; have HB := n1_; have HI0 := n2_; clear n0_ n1_ n2_; (try clear hb); (try clear hb2); (try clear hk); (try clear hi)))
 go_ret
 exact ⟨by first | rfl | (simp [errW_none, errW_some] <;> rfl) | (simp [*, errW_none, errW_some] <;> rfl), by repeat (first | (with_reducible first | exact HI0.out | apply IsS207.alloc | apply IsS207.drewN | apply IsS207.drew | apply IsS207.set_1 | apply IsS207.set_2) | exact HI0.out), by repeat (first | (with_reducible first | exact HB.out | apply qb0 | apply qa0 | apply qc0 | refine qh0 ?_ (IsS207.ge HI0.out)) | exact HB.out), by repeat (first | (with_reducible first | exact HK.out | apply qg0.set_ | apply qk0 | apply qm0 | apply ql0) | exact HK.out)⟩

end Go.Proofs.Ytlodndejipjceaa.PFnShared
