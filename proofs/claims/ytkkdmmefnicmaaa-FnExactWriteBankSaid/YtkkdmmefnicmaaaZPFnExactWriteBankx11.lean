/- Lines by a program (a changed copy of the kit's print: this repo's wip/tools): Go functions as Lean functions, and proofs that the calls answer so. -/
import Derived.Test.YtkkdmmefnicmaaaZPFnExactWriteBankx0
import Derived.Test.YtkkdmmefnicmaaaZPFnExactWriteBankx7
import Derived.Test.YtkkdmmefnicmaaaZPFnExactWriteBankx9
import Derived.Test.YtkkdmmefnicmaaaZPFnExactWriteBankx10
import Derived.LoopTactic
namespace Go.Proofs.Ytkkdmmefnicmaaa.PFnExactWriteBank
open Go.RowKit Go.Proofs.YtkkdmmefnicmaaaW.PrintWords Go.Proofs.YtkkdmmefnicmaaaW.PrintLast Go.Proofs.YtkkdmmefnicmaaaW.PrintMore
attribute [local go_sem] max2_int min2_int max_two min_two max_three min_three max_four min_four   -- for this text's walks alone
set_option linter.unusedVariables false
set_option linter.unusedSimpArgs false

-- EXTERN loop.example/g00040/impl.WriteBank
/-! ### impl_WriteBank: function 35 -/
-- @rounds
-- @making
-- @import Derived.LoopTactic
/-- A line written behind bytes, where there is room. -/
def bkLine (b : List Int) (fs : List ByteArray) : Option (List Int) := if b.length + (lineB fs).length ≤ 140737488355328 then some (b ++ lineB fs) else none
/-- What is handed back. -/
def bkEnd (b : List Int) : ByteArray := if 20000 < (b.length : Int) then (⟨#[]⟩ : ByteArray) else strOfNums b
/-- The payments' lines, and the last one. -/
def impl_WriteBank.rows : Nat → List S140 → List Int → Int → Option ByteArray
 | 0, _, _, _ => none
 | k + 1, l, b, i => if i < (l.length : Int) then (if 0 ≤ i then ((impl_ShowMoney.f k (rd_T140 l i).f2 2).bind fun m => (bkLine b [⟨#[80]⟩, (rd_T140 l i).f0, (rd_T140 l i).f1, m]).bind fun b' => impl_WriteBank.rows k l b' (wrap64 (i + 1))) else none)
  else ((impl_bankCheck.f k (strOfNums b)).bind fun c => (impl_decimal.f k c).bind fun d => (bkLine b [⟨#[84]⟩, d]).bind fun b' => some (bkEnd b'))
def impl_WriteBank.tail (k : Nat) (day : Int) (l : List S140) (sum : Int) : Option ByteArray :=
 (impl_decimal.f k day).bind fun t1 => (impl_decimal.f k (l.length : Int)).bind fun t2 => (impl_ShowMoney.f k sum 2).bind fun m => (bkLine [] [⟨#[72]⟩, t1, t2, m]).bind fun b => impl_WriteBank.rows k l b 0
theorem impl_WriteBank.rows_mono : ∀ k l b i, LeO (impl_WriteBank.rows k l b i) (impl_WriteBank.rows (k + 1) l b i)
 | 0 => fun _ _ _ r h => by simp [impl_WriteBank.rows] at h
 | k + 1 => by
  have ih := impl_WriteBank.rows_mono k
  intro l b i
  unfold impl_WriteBank.rows
  repeat' first
   | (with_reducible exact ih _ _ _)
   | (with_reducible exact impl_ShowMoney.mono _ _ _)
   | (with_reducible exact impl_decimal.mono _ _)
   | (with_reducible exact impl_bankCheck.mono _ _)
   | (with_reducible exact LeO.refl _)
   | (with_reducible exact LeO.none _)
   | (with_reducible refine LeO.ite ?_ ?_)
   | (with_reducible refine LeO.bind ?_ (fun _ => ?_))
theorem impl_WriteBank.tail_mono (k : Nat) (day : Int) (l : List S140) (sum : Int) : LeO (impl_WriteBank.tail k day l sum) (impl_WriteBank.tail (k + 1) day l sum) := by
 unfold impl_WriteBank.tail
 repeat' first
  | (with_reducible exact impl_WriteBank.rows_mono _ _ _ _)
  | (with_reducible exact impl_ShowMoney.mono _ _ _)
  | (with_reducible exact impl_decimal.mono _ _)
  | (with_reducible exact LeO.refl _)
  | (with_reducible exact LeO.none _)
  | (with_reducible refine LeO.ite ?_ ?_)
  | (with_reducible refine LeO.bind ?_ (fun _ => ?_))
section
variable {P : Program} {ops : Array Oper} {rest : List Oper} {o : Oper} {a : Act} {Q : Exit → Act → World → Prop}
/-- A literal of strings: its block. -/
theorem lit_event {W : World} (hgd : o.guard = none) {N : Tmp} (_hd : o.dst = some N) {cs : Array Value} {t : TypeId} {n : Nat}
  (hrun : (execOp a.eval o).run P W = .ok (.value (.slice (some ⟨W.heap.size, 0, none⟩) n n)) (W.alloc (.cells cs t (0, 0))))
  (h : ∀ g, g = W.heap.size → ∀ w1, w1.heap[g]? = some (.cells cs t (0, 0)) → Below W.heap.size W w1 → wpList P ops Q rest (a.put o.dst (.slice (some ⟨g, 0, none⟩) n n)) w1) : wpList P ops Q (o :: rest) a W :=
 Kd.event_run hgd hrun (h _ rfl _ (blk_new W _) (qc0 (Below.refl _ _) _))
theorem lit_step {Kc : Act → World → Prop} {W : World} (hw : Region.wanted o (yielded ops a.tmps) = true) {cs : Array Value} {t : TypeId} {n : Nat}
  (hrun : (execOp a.eval o).run P W = .ok (.value (.slice (some ⟨W.heap.size, 0, none⟩) n n)) (W.alloc (.cells cs t (0, 0))))
  (h : ∀ g, g = W.heap.size → ∀ w1, w1.heap[g]? = some (.cells cs t (0, 0)) → Below W.heap.size W w1 → Kc (a.put o.dst (.slice (some ⟨g, 0, none⟩) n n)) w1) : if Region.wanted o (yielded ops a.tmps) = true then Oper.wp P o a W Kc Q else Kc (a.put o.dst undef) W :=
 event_step hw hrun (h _ rfl _ (blk_new W _) (qc0 (Below.refl _ _) _))
end
theorem bkLine_some {b b' : List Int} {fs : List ByteArray} (h : bkLine b fs = some b') : b.length + (lineB fs).length ≤ 140737488355328 ∧ b' = b ++ lineB fs := by
 unfold bkLine at h
 by_cases c : b.length + (lineB fs).length ≤ 140737488355328
 ·rw [if_pos c] at h
  exact ⟨c, (Option.some.inj h).symm⟩
 ·rw [if_neg c] at h
  cases h
theorem BankF.below {w0 w1 w2 : World} {g : Nat} {v : Value} {b : List Int} {n : Int} (h : BankF w0 w1 g v b n) (hb : Below w1.heap.size w1 w2) : BankF w0 w2 g v b n :=
 ⟨(hb.block g (qf1 h.1)).trans h.1, h.2.1, pw_own_below h.2.2 hb⟩
theorem below_then {w0 w1 w2 : World} (h : Below w0.heap.size w0 w1) (hb : Below w1.heap.size w1 w2) : Below w0.heap.size w0 w2 := qg0 h hb
theorem blk_then {w1 w2 : World} {g : Nat} {o : Obj} (h : w1.heap[g]? = some o) (hb : Below w1.heap.size w1 w2) : w2.heap[g]? = some o := (hb.block g (qf1 h)).trans h
theorem bank_conv {w0 w : World} {g : Nat} {v : Value} {b : List Int} {n : Int} (h : BankF w0 w g v b n) : (convert 22 9 v).run Try.prog w = .ok (.string (strOfNums b)) w := own_string (P := Try.prog) Try.underlying22 Try.underlying5 Try.underlying9 h.2.2
theorem BankF.set {w0 W : World} {g : Nat} {v : Value} {b : List Int} {n : Int} (h : BankF w0 W g v b n) {k : Nat} {cs : Array Value} {t : TypeId} (hk : W.heap[k]? = some (.cells cs t (0, 0))) (ht : t ≠ 5) (hkg : g ≠ k) (j : Nat) (x : Value) : BankF w0 (W.setCell ⟨k, j, none⟩ x) g v b n :=
 ⟨blk_far h.1 hkg _, h.2.1, own_setCell h.2.2 (own_ne150 h.2.2 hk ht) _⟩
def impl_WriteBank.T18 : Bool × List (List Nat × List Nat) := (true, [([], []), ([], []), ([1], [1]), ([], []), ([3], [3]), ([], []), ([5], [5]), ([6], [6]), ([2, 4, 7], [2, 4, 7]), ([0, 8, 7], [0, 8])])
def impl_WriteBank.B18 : List Nat := [0, 0, 2, 0, 8, 0, 32, 96, 254, 511]
theorem impl_WriteBank.tab18 : rtab .any (opsOf Try.f35 18) = impl_WriteBank.T18 := by kernel_rfl
theorem impl_WriteBank.bits18 : waitsOk impl_WriteBank.T18.2 impl_WriteBank.B18 = true := by kernel_rfl
mutual
def impl_WriteBank.j0 : Nat → Int → List (S140) → Bool → Option (ByteArray)
 | 0, _, _, _ => none
 | k + 1, x0, x1, x23 => if x23 = true then (some (⟨#[]⟩ : ByteArray)) else (impl_WriteBank.l0 k x0 0 x1 (x1.length : Int) 0)
def impl_WriteBank.l0 : Nat → Int → Int → List (S140) → Int → Int → Option (ByteArray)
 | 0, _, _, _, _, _ => none
 | k + 1, x0, x5, x24, x25, x26 => if x26 < x25 then (if 0 ≤ x26 then (if x26 < (x24.length : Int) then ((impl_AccountNumber.f ((rd_T140 x24 x26).f0)).bind fun t181 => (if t181 = true then ((impl_NameOk.f k ((rd_T140 x24 x26).f1)).bind fun t182 => (if t182 = true then ((impl_between.f ((rd_T140 x24 x26).f2) 1 100000000000).bind fun t183 => (if t183 = true then (impl_WriteBank.l0 k x0 (wrap64 (x5 + ((rd_T140 x24 x26).f2))) x24 x25 (wrap64 (x26 + 1))) else (some (⟨#[]⟩ : ByteArray)))) else (some (⟨#[]⟩ : ByteArray)))) else (some (⟨#[]⟩ : ByteArray)))) else (none)) else (none)) else (if x5 > 100000000000 then (some (⟨#[]⟩ : ByteArray)) else (impl_WriteBank.tail k x0 x24 x5))
end
def impl_WriteBank.f (k : Nat) (a0 : Int) (l1 : List (S140)) : Option (ByteArray) := (impl_isDay.f a0).bind fun t176 => (if t176 = true then (if (l1.length : Int) < 1 then (impl_WriteBank.j0 k a0 l1 true) else (impl_WriteBank.j0 k a0 l1 (decide ((l1.length : Int) > 100)))) else (impl_WriteBank.j0 k a0 l1 true))
theorem impl_WriteBank.mono_l : ∀ k, (∀ y0 y1 y2, LeO (impl_WriteBank.j0 k y0 y1 y2) (impl_WriteBank.j0 (k + 1) y0 y1 y2)) ∧ (∀ y0 y1 y2 y3 y4, LeO (impl_WriteBank.l0 k y0 y1 y2 y3 y4) (impl_WriteBank.l0 (k + 1) y0 y1 y2 y3 y4))
 | 0 => ⟨fun _ _ _ r h => by simp [impl_WriteBank.j0] at h, fun _ _ _ _ _ r h => by simp [impl_WriteBank.l0] at h⟩
 | k + 1 => by
  obtain ⟨ih0, ih1⟩ := impl_WriteBank.mono_l k
  refine ⟨?_, ?_⟩
  ·intro y0 y1 y2
   unfold impl_WriteBank.j0
   repeat' first
   | (with_reducible exact ih0 _ _ _)
   | (with_reducible exact ih1 _ _ _ _ _)
   | (with_reducible exact impl_NameOk.mono _ _)
   | (with_reducible exact impl_WriteBank.tail_mono _ _ _ _)
   | (with_reducible exact impl_decimal.mono _ _)
   | (with_reducible exact LeO.refl _)
   | (with_reducible exact LeO.none _)
   | (with_reducible refine LeO.ite ?_ ?_)
   | (with_reducible refine LeO.bind ?_ (fun _ => ?_))
   | exact ih0 _ _ _
   | exact ih1 _ _ _ _ _
   | exact impl_NameOk.mono _ _
   | exact impl_decimal.mono _ _
   | exact LeO.none _
   | refine LeO.ite ?_ ?_
   | refine LeO.bind ?_ (fun _ => ?_)
  ·intro y0 y1 y2 y3 y4
   unfold impl_WriteBank.l0
   repeat' first
   | (with_reducible exact ih0 _ _ _)
   | (with_reducible exact ih1 _ _ _ _ _)
   | (with_reducible exact impl_NameOk.mono _ _)
   | (with_reducible exact impl_WriteBank.tail_mono _ _ _ _)
   | (with_reducible exact impl_decimal.mono _ _)
   | (with_reducible exact LeO.refl _)
   | (with_reducible exact LeO.none _)
   | (with_reducible refine LeO.ite ?_ ?_)
   | (with_reducible refine LeO.bind ?_ (fun _ => ?_))
   | exact ih0 _ _ _
   | exact ih1 _ _ _ _ _
   | exact impl_NameOk.mono _ _
   | exact impl_decimal.mono _ _
   | exact LeO.none _
   | refine LeO.ite ?_ ?_
   | refine LeO.bind ?_ (fun _ => ?_)
theorem impl_WriteBank.mono : ∀ a0 a1 k, LeO (impl_WriteBank.f k a0 a1) (impl_WriteBank.f (k + 1) a0 a1) := by
 intro a0 a1 k
 obtain ⟨ih0, ih1⟩ := impl_WriteBank.mono_l k
 unfold impl_WriteBank.f
 repeat' first
   | (with_reducible exact ih0 _ _ _)
   | (with_reducible exact ih1 _ _ _ _ _)
   | (with_reducible exact impl_NameOk.mono _ _)
   | (with_reducible exact impl_WriteBank.tail_mono _ _ _ _)
   | (with_reducible exact impl_decimal.mono _ _)
   | (with_reducible exact LeO.refl _)
   | (with_reducible exact LeO.none _)
   | (with_reducible refine LeO.ite ?_ ?_)
   | (with_reducible refine LeO.bind ?_ (fun _ => ?_))
   | exact ih0 _ _ _
   | exact ih1 _ _ _ _ _
   | exact impl_NameOk.mono _ _
   | exact impl_decimal.mono _ _
   | exact LeO.none _
   | refine LeO.ite ?_ ?_
   | refine LeO.bind ?_ (fun _ => ?_)
set_option maxHeartbeats 8000000 in
set_option maxRecDepth 100000 in
theorem impl_WriteBank.calls (k : Nat) (a0 : Int) (A1 : Option Addr) (c1 : Nat) (l1 : List (S140)) (r : ByteArray) (w : World) (hr1 : Kd.C k140 w A1 l1.length l1) (hc1 : l1.length ≤ c1) (h : impl_WriteBank.f k a0 l1 = some r) :
  Calls Try.prog 35 #[.int .i64 a0, .slice A1 l1.length c1] w fun e w' => e = .returned (.string r) ∧ Below w.heap.size w w' := by
 have hu140 := Try.underlying140
 have hu150 := Try.underlying150
 have HR1 := Aside0.mk hr1
 have HC1 := Aside0.mk hc1
 clear hr1 hc1
 have HB := Aside0.mk (Below.refl w.heap.size w)
 have H : ((impl_isDay.f a0).bind fun t176 => (if t176 = true then (if (l1.length : Int) < 1 then (impl_WriteBank.j0 k a0 l1 true) else (impl_WriteBank.j0 k a0 l1 (decide ((l1.length : Int) > 100)))) else (impl_WriteBank.j0 k a0 l1 true))) = some r := h
 clear h
 have HC3 := Aside0.mk H
 clear H
 go_enter Try.func35, Try.ntmps35
 go_upto_region 1 with (fail)
 go_cut [23] (fun v23 wc => ∃ (kq : Nat) (x23_2 : Bool), v23 = .bool x23_2 ∧ Aside0 (impl_WriteBank.j0 kq a0 l1 x23_2 = some r) ∧ Aside0 (kq ≤ k) ∧ Aside0 (Below w.heap.size w wc))
 case first =>
  have H := HC3.out
  clear HC3
  replace H := Option.bind_eq_some_iff.mp H
  obtain ⟨t176, A40, H⟩ := H
  replace H : (if t176 = true then (if (l1.length : Int) < 1 then (impl_WriteBank.j0 k a0 l1 true) else (impl_WriteBank.j0 k a0 l1 (decide ((l1.length : Int) > 100)))) else (impl_WriteBank.j0 k a0 l1 true)) = some r := H
  have A4 := Aside0.mk A40
  clear A40
  by_cases c5 : t176 = true
  ·subst c5
   have H1 : (if (l1.length : Int) < 1 then (impl_WriteBank.j0 k a0 l1 true) else (impl_WriteBank.j0 k a0 l1 (decide ((l1.length : Int) > 100)))) = some r := by rw [if_pos rfl] at H; exact H
   clear H
   have H := H1
   clear H1
   by_cases c6 : (l1.length : Int) < 1
   ·rw [if_pos c6] at H
    have c6b0 : decide ((l1.length : Int) < 1) = true := decide_eq_true c6
    have c6b1 : decide (l1.length < 1) = true := decide_eq_true (by omega)
    clear c6
    (first | rw [c6b0] | (simp only [i64_w, i32_w]; rw [c6b0]) | skip)
    have H' := Aside0.mk H
    clear H
    go_wp2_with (first | ((with_reducible refine qf0 (f := 98) rfl ?_); refine qn0 (some 12) rfl rfl Try.func98 (by kernel_rfl) rfl #[.int .i64 a0] rfl (by (try simp only [List.map_toArray, List.map_cons, List.map_nil]); first | done | rfl | (simp only [List.length_drop, List.length_take]; rfl)) ?_; (with_reducible refine (impl_isDay.calls a0 true _ A4.out).mono ?_); rintro e w' ⟨rfl, ⟨nd, rfl⟩⟩; refine ⟨_, rfl, ?_⟩))
    go_meet
    case rel => exact ⟨_, (true), (by first | rfl | (simp; done) | (simp [*]; done)), H', ⟨by first | omega | exact Nat.le_refl _⟩, ⟨by repeat (first | (with_reducible first | exact HB.out | apply qc0 | apply qa0 | apply qb0) | exact HB.out)⟩⟩
   rw [if_neg c6] at H
   have c6b0 : decide ((l1.length : Int) < 1) = false := decide_eq_false c6
   have c6b1 : decide (l1.length < 1) = false := decide_eq_false (by omega)
   clear c6
   (first | rw [c6b0] | (simp only [i64_w, i32_w]; rw [c6b0]) | skip)
   have H' := Aside0.mk H
   clear H
   go_wp2_with (first | ((with_reducible refine qf0 (f := 98) rfl ?_); refine qn0 (some 12) rfl rfl Try.func98 (by kernel_rfl) rfl #[.int .i64 a0] rfl (by (try simp only [List.map_toArray, List.map_cons, List.map_nil]); first | done | rfl | (simp only [List.length_drop, List.length_take]; rfl)) ?_; (with_reducible refine (impl_isDay.calls a0 true _ A4.out).mono ?_); rintro e w' ⟨rfl, ⟨nd, rfl⟩⟩; refine ⟨_, rfl, ?_⟩))
   go_meet
   case rel => exact ⟨_, (decide ((l1.length : Int) > 100)), (by first | rfl | (simp; done) | (simp [*]; done)), H', ⟨by first | omega | exact Nat.le_refl _⟩, ⟨by repeat (first | (with_reducible first | exact HB.out | apply qc0 | apply qa0 | apply qb0) | exact HB.out)⟩⟩
  replace c5 := Bool.eq_false_iff.mpr c5
  subst c5
  have H1 : (impl_WriteBank.j0 k a0 l1 true) = some r := by rw [if_neg (show ¬ (false = true) by decide)] at H; exact H
  clear H
  have H := H1
  clear H1
  have H' := Aside0.mk H
  clear H
  go_wp2_with (first | ((with_reducible refine qf0 (f := 98) rfl ?_); refine qn0 (some 12) rfl rfl Try.func98 (by kernel_rfl) rfl #[.int .i64 a0] rfl (by (try simp only [List.map_toArray, List.map_cons, List.map_nil]); first | done | rfl | (simp only [List.length_drop, List.length_take]; rfl)) ?_; (with_reducible refine (impl_isDay.calls a0 false _ A4.out).mono ?_); rintro e w' ⟨rfl, ⟨nd, rfl⟩⟩; refine ⟨_, rfl, ?_⟩))
  go_meet
  case rel => exact ⟨_, (true), (by first | rfl | (simp; done) | (simp [*]; done)), H', ⟨by first | omega | exact Nat.le_refl _⟩, ⟨by repeat (first | (with_reducible first | exact HB.out | apply qc0 | apply qa0 | apply qb0) | exact HB.out)⟩⟩
 case rest =>
  clear HC3
  try clear c1
  try clear p2
  try clear c3
  try clear c5
  try clear c6
  try clear c6b0
  try clear c6b1
  obtain ⟨kq, x23_2, rfl, HA, HJ2, HB⟩ := hcut
  cases kq with
  | zero => exact absurd HA.out (by simp [impl_WriteBank.j0])
  | succ kj2 =>
   have H := HA.out
   clear HA
   simp only [impl_WriteBank.j0] at H
   by_cases c7 : x23_2 = true
   ·subst c7
    have H1 : (some (⟨#[]⟩ : ByteArray)) = some r := by rw [if_pos rfl] at H; exact H
    clear H
    have H := H1
    clear H1
    obtain rfl := Option.some.inj H
    go_wp2
    go_ret
    exact ⟨by first | rfl | (simp [errW_none, errW_some] <;> rfl) | (simp [*, errW_none, errW_some] <;> rfl), by repeat (first | (with_reducible first | exact HB.out | apply qc0 | apply qa0 | apply qb0) | exact HB.out)⟩
   replace c7 := Bool.eq_false_iff.mpr c7
   subst c7
   have H1 : (impl_WriteBank.l0 kj2 a0 0 l1 (l1.length : Int) 0) = some r := by rw [if_neg (show ¬ (false = true) by decide)] at H; exact H
   clear H
   have H := H1
   clear H1
   have H' := Aside0.mk H
   clear H
   go_wp2
   go_loopg [5, 26] kj2 (fun kq v5 v26 w' => ∃ (x5_2 : Int) (x26_2 : Int), v5 = .int .i64 x5_2 ∧ v26 = .int .i64 x26_2 ∧ Aside0 (impl_WriteBank.l0 kq a0 x5_2 l1 (l1.length : Int) x26_2 = some r) ∧ Aside0 (kq ≤ kj2) ∧ Aside0 (Below w.heap.size w w'))
   case atStart => exact ⟨(0), (0), (by first | rfl | (simp; done) | (simp [*]; done)), (by first | rfl | (simp; done) | (simp [*]; done)), H', ⟨Nat.le_refl _⟩, ⟨by repeat (first | (with_reducible first | exact HB.out | apply qc0 | apply qa0 | apply qb0) | exact HB.out)⟩⟩
   case round =>
    clear H'
    try clear c1
    try clear p2
    try clear c3
    try clear c5
    try clear c6
    try clear c6b0
    try clear c6b1
    try clear c7
    try clear p2
    obtain ⟨x5_2, x26_2, rfl, rfl, HA, HK2, HB⟩ := hrel
    cases gk with
    | zero => exact absurd HA.out (by simp [impl_WriteBank.l0])
    | succ k2 =>
     have H := HA.out
     clear HA
     simp only [impl_WriteBank.l0] at H
     by_cases c8 : x26_2 < (l1.length : Int)
     ·rw [if_pos c8] at H
      have c8b0 : decide (x26_2 < (l1.length : Int)) = true := decide_eq_true c8
      clear c8
      by_cases c9 : 0 ≤ x26_2
      case neg => rw [if_neg c9] at H; exact absurd H (by simp)
      rw [if_pos c9] at H
      have c9b0 : decide (0 ≤ x26_2) = true := decide_eq_true c9
      clear c9
      by_cases c10 : x26_2 < (l1.length : Int)
      case neg => rw [if_neg c10] at H; exact absurd H (by simp)
      rw [if_pos c10] at H
      have c10b0 : decide (x26_2 < (l1.length : Int)) = true := decide_eq_true c10
      clear c10
      replace H := Option.bind_eq_some_iff.mp H
      obtain ⟨t181, A110, H⟩ := H
      replace H : (if t181 = true then ((impl_NameOk.f k2 ((rd_T140 l1 x26_2).f1)).bind fun t182 => (if t182 = true then ((impl_between.f ((rd_T140 l1 x26_2).f2) 1 100000000000).bind fun t183 => (if t183 = true then (impl_WriteBank.l0 k2 a0 (wrap64 (x5_2 + ((rd_T140 l1 x26_2).f2))) l1 (l1.length : Int) (wrap64 (x26_2 + 1))) else (some (⟨#[]⟩ : ByteArray)))) else (some (⟨#[]⟩ : ByteArray)))) else (some (⟨#[]⟩ : ByteArray))) = some r := H
      have A11 := Aside0.mk A110
      clear A110
      by_cases c12 : t181 = true
      ·subst c12
       have H1 : ((impl_NameOk.f k2 ((rd_T140 l1 x26_2).f1)).bind fun t182 => (if t182 = true then ((impl_between.f ((rd_T140 l1 x26_2).f2) 1 100000000000).bind fun t183 => (if t183 = true then (impl_WriteBank.l0 k2 a0 (wrap64 (x5_2 + ((rd_T140 l1 x26_2).f2))) l1 (l1.length : Int) (wrap64 (x26_2 + 1))) else (some (⟨#[]⟩ : ByteArray)))) else (some (⟨#[]⟩ : ByteArray)))) = some r := by rw [if_pos rfl] at H; exact H
       clear H
       have H := H1
       clear H1
       replace H := Option.bind_eq_some_iff.mp H
       obtain ⟨t182, A130, H⟩ := H
       replace H : (if t182 = true then ((impl_between.f ((rd_T140 l1 x26_2).f2) 1 100000000000).bind fun t183 => (if t183 = true then (impl_WriteBank.l0 k2 a0 (wrap64 (x5_2 + ((rd_T140 l1 x26_2).f2))) l1 (l1.length : Int) (wrap64 (x26_2 + 1))) else (some (⟨#[]⟩ : ByteArray)))) else (some (⟨#[]⟩ : ByteArray))) = some r := H
       have A13 := Aside0.mk A130
       clear A130
       by_cases c14 : t182 = true
       ·subst c14
        have H1 : ((impl_between.f ((rd_T140 l1 x26_2).f2) 1 100000000000).bind fun t183 => (if t183 = true then (impl_WriteBank.l0 k2 a0 (wrap64 (x5_2 + ((rd_T140 l1 x26_2).f2))) l1 (l1.length : Int) (wrap64 (x26_2 + 1))) else (some (⟨#[]⟩ : ByteArray)))) = some r := by rw [if_pos rfl] at H; exact H
        clear H
        have H := H1
        clear H1
        replace H := Option.bind_eq_some_iff.mp H
        obtain ⟨t183, A150, H⟩ := H
        replace H : (if t183 = true then (impl_WriteBank.l0 k2 a0 (wrap64 (x5_2 + ((rd_T140 l1 x26_2).f2))) l1 (l1.length : Int) (wrap64 (x26_2 + 1))) else (some (⟨#[]⟩ : ByteArray))) = some r := H
        have A15 := Aside0.mk A150
        clear A150
        by_cases c16 : t183 = true
        ·subst c16
         have H1 : (impl_WriteBank.l0 k2 a0 (wrap64 (x5_2 + ((rd_T140 l1 x26_2).f2))) l1 (l1.length : Int) (wrap64 (x26_2 + 1))) = some r := by rw [if_pos rfl] at H; exact H
         clear H
         have H := H1
         clear H1
         have H' := Aside0.mk H
         clear H
         have p179 : 0 ≤ (x26_2 : Int) := of_decide_eq_true (by first | (with_reducible assumption) | assumption)
         have q179 : x26_2 < (l1.length : Int) := of_decide_eq_true (by first | (with_reducible assumption) | assumption)
         obtain ⟨ad179, e179, hx179_0, hx179_1, hx179_2⟩ := at_T140 HR1.out x26_2 p179 q179
         cases e179
         replace hx179_0 := (HB.out.cell (World.block_lt_of_cell? w _ hx179_0)).trans hx179_0
         replace hx179_1 := (HB.out.cell (World.block_lt_of_cell? w _ hx179_1)).trans hx179_1
         replace hx179_2 := (HB.out.cell (World.block_lt_of_cell? w _ hx179_2)).trans hx179_2
         replace p179 := eq_true p179
         replace q179 := eq_true q179
         go_wp2_with (first | ((with_reducible refine qp0 (N := 7) rfl ?_); (try (refine gate_guard (by rfl) ?_; dsimp only)); refine qq0 ?hg (N := 7) ?hd (cs := #[.string (⟨#[]⟩ : ByteArray), .string (⟨#[]⟩ : ByteArray), .int .i64 0]) (t := 140) ?hr ?_; (case hd => rfl); (case hg => rfl); (case hr => first | (go_simp; done) | (go_simp; rfl)); intro gb180 hg w17 hbox hb; have n0_ := Aside0.mk (qg0 (by repeat (first | (with_reducible first | exact HB.out | apply qc0 | apply qa0 | apply qb0) | exact HB.out)) hb); have n1_ := Aside0.mk (hbox); have n2_ := Aside0.mk ((by rw [hg]; exact (qi0 (by repeat (first | (with_reducible first | exact HB.out | apply qc0 | apply qa0 | apply qb0) | exact HB.out))) : w.heap.size ≤ gb180)); have n3_ := Aside0.mk ((by rw [hg]; exact (qi0 (by repeat (first | (with_reducible first | exact HB.out | apply qc0 | apply qa0 | apply qb0) | exact HB.out))) : w.heap.size ≤ gb180)); clear HB; have HB := n0_; have BK180 := n1_; have GW180 := n2_; have GE180 := n3_; clear n0_ n1_ n2_ n3_; clear hb hbox hg; have hcz18_0 : w17.cell? ⟨gb180, 0, none⟩ = some (.string (⟨#[]⟩ : ByteArray)) := (qh0 BK180.out 0).trans rfl; have hcz18_1 : w17.cell? ⟨gb180, 1, none⟩ = some (.string (⟨#[]⟩ : ByteArray)) := (qh0 BK180.out 1).trans rfl; have hcz18_2 : w17.cell? ⟨gb180, 2, none⟩ = some (.int .i64 0) := (qh0 BK180.out 2).trans rfl; have hfz18_0 := qe0 BK180.out 0; have hfz18_1 := qe0 BK180.out 1; have hfz18_2 := qe0 BK180.out 2) | ((with_reducible refine qf0 (f := 99) rfl ?_); refine qn0 (some 32) rfl rfl Try.func99 (by kernel_rfl) rfl #[.string ((rd_T140 l1 x26_2).f0)] rfl (by (try simp only [List.map_toArray, List.map_cons, List.map_nil]); first | done | rfl | (simp only [List.length_drop, List.length_take]; rfl)) ?_; (with_reducible refine (impl_AccountNumber.calls ((rd_T140 l1 x26_2).f0) true _ A11.out).mono ?_); rintro e w19 ⟨rfl, hb⟩; refine ⟨_, rfl, ?_⟩; have n0_ := Aside0.mk (blk_below (g := gb180) (o := .cells #[.string ((rd_T140 l1 x26_2).f0), .string ((rd_T140 l1 x26_2).f1), .int .i64 ((rd_T140 l1 x26_2).f2)] 140 (0, 0)) (by (with_reducible repeat (first | refine qk0 ?_ _ | refine qm0 ?_ | refine ql0 ?_ _)); refine blk_put (cs := #[.string ((rd_T140 l1 x26_2).f0), .string ((rd_T140 l1 x26_2).f1), .int .i64 0]) ?_ 2 _ rfl; (with_reducible repeat (first | refine qk0 ?_ _ | refine qm0 ?_ | refine ql0 ?_ _)); refine blk_put (cs := #[.string ((rd_T140 l1 x26_2).f0), .string (⟨#[]⟩ : ByteArray), .int .i64 0]) ?_ 1 _ rfl; (with_reducible repeat (first | refine qk0 ?_ _ | refine qm0 ?_ | refine ql0 ?_ _)); refine blk_put (cs := #[.string (⟨#[]⟩ : ByteArray), .string (⟨#[]⟩ : ByteArray), .int .i64 0]) ?_ 0 _ rfl; (with_reducible repeat (first | refine qk0 ?_ _ | refine qm0 ?_ | refine ql0 ?_ _)); exact BK180.out) hb); have n1_ := Aside0.mk (qg0 (by repeat (first | (with_reducible first | exact HB.out | apply qc0 | apply qa0 | apply qb0 | refine qj0 ?_ GE180.out) | exact HB.out)) hb); clear BK180; clear HB; have BK180 := n0_; have HB := n1_; clear n0_ n1_; (try clear hb); (try clear hb2); (try clear hk); (try clear hi); have hcz20_0 : w19.cell? ⟨gb180, 0, none⟩ = some (.string ((rd_T140 l1 x26_2).f0)) := (qh0 BK180.out 0).trans rfl; have hcz20_1 : w19.cell? ⟨gb180, 1, none⟩ = some (.string ((rd_T140 l1 x26_2).f1)) := (qh0 BK180.out 1).trans rfl; have hcz20_2 : w19.cell? ⟨gb180, 2, none⟩ = some (.int .i64 ((rd_T140 l1 x26_2).f2)) := (qh0 BK180.out 2).trans rfl; have hfz20_0 := qe0 BK180.out 0; have hfz20_1 := qe0 BK180.out 1; have hfz20_2 := qe0 BK180.out 2) | (go_at_call 71; (with_reducible refine (impl_NameOk.calls k2 ((rd_T140 l1 x26_2).f1) true _ A13.out).mono ?_); rintro e w' ⟨rfl, ⟨nd, rfl⟩⟩) | (go_at_call 100; (with_reducible refine (impl_between.calls ((rd_T140 l1 x26_2).f2) 1 100000000000 true _ A15.out).mono ?_); rintro e w' ⟨rfl, ⟨nd, rfl⟩⟩))
         go_roundg k2
         case measure => have := HJ2.out; have := HK2.out; omega
         case rel => exact ⟨(wrap64 (x5_2 + ((rd_T140 l1 x26_2).f2))), (wrap64 (x26_2 + 1)), (by first | rfl | (simp; done) | (simp [*]; done)), (by first | rfl | (simp; done) | (simp [*]; done)), H', ⟨by have := HJ2.out; have := HK2.out; omega⟩, ⟨by repeat (first | (with_reducible first | exact HB.out | apply qc0 | apply qa0 | apply qb0 | refine qj0 ?_ GE180.out) | exact HB.out)⟩⟩
        replace c16 := Bool.eq_false_iff.mpr c16
        subst c16
        have H1 : (some (⟨#[]⟩ : ByteArray)) = some r := by rw [if_neg (show ¬ (false = true) by decide)] at H; exact H
        clear H
        have H := H1
        clear H1
        obtain rfl := Option.some.inj H
        have p179 : 0 ≤ (x26_2 : Int) := of_decide_eq_true (by first | (with_reducible assumption) | assumption)
        have q179 : x26_2 < (l1.length : Int) := of_decide_eq_true (by first | (with_reducible assumption) | assumption)
        obtain ⟨ad179, e179, hx179_0, hx179_1, hx179_2⟩ := at_T140 HR1.out x26_2 p179 q179
        cases e179
        replace hx179_0 := (HB.out.cell (World.block_lt_of_cell? w _ hx179_0)).trans hx179_0
        replace hx179_1 := (HB.out.cell (World.block_lt_of_cell? w _ hx179_1)).trans hx179_1
        replace hx179_2 := (HB.out.cell (World.block_lt_of_cell? w _ hx179_2)).trans hx179_2
        replace p179 := eq_true p179
        replace q179 := eq_true q179
        go_wp2_with (first | ((with_reducible refine qp0 (N := 7) rfl ?_); (try (refine gate_guard (by rfl) ?_; dsimp only)); refine qq0 ?hg (N := 7) ?hd (cs := #[.string (⟨#[]⟩ : ByteArray), .string (⟨#[]⟩ : ByteArray), .int .i64 0]) (t := 140) ?hr ?_; (case hd => rfl); (case hg => rfl); (case hr => first | (go_simp; done) | (go_simp; rfl)); intro gb180 hg w21 hbox hb; have n0_ := Aside0.mk (qg0 (by repeat (first | (with_reducible first | exact HB.out | apply qc0 | apply qa0 | apply qb0) | exact HB.out)) hb); have n1_ := Aside0.mk (hbox); have n2_ := Aside0.mk ((by rw [hg]; exact (qi0 (by repeat (first | (with_reducible first | exact HB.out | apply qc0 | apply qa0 | apply qb0) | exact HB.out))) : w.heap.size ≤ gb180)); have n3_ := Aside0.mk ((by rw [hg]; exact (qi0 (by repeat (first | (with_reducible first | exact HB.out | apply qc0 | apply qa0 | apply qb0) | exact HB.out))) : w.heap.size ≤ gb180)); clear HB; have HB := n0_; have BK180 := n1_; have GW180 := n2_; have GE180 := n3_; clear n0_ n1_ n2_ n3_; clear hb hbox hg; have hcz22_0 : w21.cell? ⟨gb180, 0, none⟩ = some (.string (⟨#[]⟩ : ByteArray)) := (qh0 BK180.out 0).trans rfl; have hcz22_1 : w21.cell? ⟨gb180, 1, none⟩ = some (.string (⟨#[]⟩ : ByteArray)) := (qh0 BK180.out 1).trans rfl; have hcz22_2 : w21.cell? ⟨gb180, 2, none⟩ = some (.int .i64 0) := (qh0 BK180.out 2).trans rfl; have hfz22_0 := qe0 BK180.out 0; have hfz22_1 := qe0 BK180.out 1; have hfz22_2 := qe0 BK180.out 2) | ((with_reducible refine qf0 (f := 99) rfl ?_); refine qn0 (some 32) rfl rfl Try.func99 (by kernel_rfl) rfl #[.string ((rd_T140 l1 x26_2).f0)] rfl (by (try simp only [List.map_toArray, List.map_cons, List.map_nil]); first | done | rfl | (simp only [List.length_drop, List.length_take]; rfl)) ?_; (with_reducible refine (impl_AccountNumber.calls ((rd_T140 l1 x26_2).f0) true _ A11.out).mono ?_); rintro e w23 ⟨rfl, hb⟩; refine ⟨_, rfl, ?_⟩; have n0_ := Aside0.mk (blk_below (g := gb180) (o := .cells #[.string ((rd_T140 l1 x26_2).f0), .string ((rd_T140 l1 x26_2).f1), .int .i64 ((rd_T140 l1 x26_2).f2)] 140 (0, 0)) (by (with_reducible repeat (first | refine qk0 ?_ _ | refine qm0 ?_ | refine ql0 ?_ _)); refine blk_put (cs := #[.string ((rd_T140 l1 x26_2).f0), .string ((rd_T140 l1 x26_2).f1), .int .i64 0]) ?_ 2 _ rfl; (with_reducible repeat (first | refine qk0 ?_ _ | refine qm0 ?_ | refine ql0 ?_ _)); refine blk_put (cs := #[.string ((rd_T140 l1 x26_2).f0), .string (⟨#[]⟩ : ByteArray), .int .i64 0]) ?_ 1 _ rfl; (with_reducible repeat (first | refine qk0 ?_ _ | refine qm0 ?_ | refine ql0 ?_ _)); refine blk_put (cs := #[.string (⟨#[]⟩ : ByteArray), .string (⟨#[]⟩ : ByteArray), .int .i64 0]) ?_ 0 _ rfl; (with_reducible repeat (first | refine qk0 ?_ _ | refine qm0 ?_ | refine ql0 ?_ _)); exact BK180.out) hb); have n1_ := Aside0.mk (qg0 (by repeat (first | (with_reducible first | exact HB.out | apply qc0 | apply qa0 | apply qb0 | refine qj0 ?_ GE180.out) | exact HB.out)) hb); clear BK180; clear HB; have BK180 := n0_; have HB := n1_; clear n0_ n1_; (try clear hb); (try clear hb2); (try clear hk); (try clear hi); have hcz24_0 : w23.cell? ⟨gb180, 0, none⟩ = some (.string ((rd_T140 l1 x26_2).f0)) := (qh0 BK180.out 0).trans rfl; have hcz24_1 : w23.cell? ⟨gb180, 1, none⟩ = some (.string ((rd_T140 l1 x26_2).f1)) := (qh0 BK180.out 1).trans rfl; have hcz24_2 : w23.cell? ⟨gb180, 2, none⟩ = some (.int .i64 ((rd_T140 l1 x26_2).f2)) := (qh0 BK180.out 2).trans rfl; have hfz24_0 := qe0 BK180.out 0; have hfz24_1 := qe0 BK180.out 1; have hfz24_2 := qe0 BK180.out 2) | (go_at_call 71; (with_reducible refine (impl_NameOk.calls k2 ((rd_T140 l1 x26_2).f1) true _ A13.out).mono ?_); rintro e w' ⟨rfl, ⟨nd, rfl⟩⟩) | (go_at_call 100; (with_reducible refine (impl_between.calls ((rd_T140 l1 x26_2).f2) 1 100000000000 false _ A15.out).mono ?_); rintro e w' ⟨rfl, ⟨nd, rfl⟩⟩))
        go_ret
        exact ⟨by first | rfl | (simp [errW_none, errW_some] <;> rfl) | (simp [*, errW_none, errW_some] <;> rfl), by repeat (first | (with_reducible first | exact HB.out | apply qc0 | apply qa0 | apply qb0 | refine qj0 ?_ GE180.out) | exact HB.out)⟩
       replace c14 := Bool.eq_false_iff.mpr c14
       subst c14
       have H1 : (some (⟨#[]⟩ : ByteArray)) = some r := by rw [if_neg (show ¬ (false = true) by decide)] at H; exact H
       clear H
       have H := H1
       clear H1
       obtain rfl := Option.some.inj H
       have p179 : 0 ≤ (x26_2 : Int) := of_decide_eq_true (by first | (with_reducible assumption) | assumption)
       have q179 : x26_2 < (l1.length : Int) := of_decide_eq_true (by first | (with_reducible assumption) | assumption)
       obtain ⟨ad179, e179, hx179_0, hx179_1, hx179_2⟩ := at_T140 HR1.out x26_2 p179 q179
       cases e179
       replace hx179_0 := (HB.out.cell (World.block_lt_of_cell? w _ hx179_0)).trans hx179_0
       replace hx179_1 := (HB.out.cell (World.block_lt_of_cell? w _ hx179_1)).trans hx179_1
       replace hx179_2 := (HB.out.cell (World.block_lt_of_cell? w _ hx179_2)).trans hx179_2
       replace p179 := eq_true p179
       replace q179 := eq_true q179
       go_wp2_with (first | ((with_reducible refine qp0 (N := 7) rfl ?_); (try (refine gate_guard (by rfl) ?_; dsimp only)); refine qq0 ?hg (N := 7) ?hd (cs := #[.string (⟨#[]⟩ : ByteArray), .string (⟨#[]⟩ : ByteArray), .int .i64 0]) (t := 140) ?hr ?_; (case hd => rfl); (case hg => rfl); (case hr => first | (go_simp; done) | (go_simp; rfl)); intro gb180 hg w25 hbox hb; have n0_ := Aside0.mk (qg0 (by repeat (first | (with_reducible first | exact HB.out | apply qc0 | apply qa0 | apply qb0) | exact HB.out)) hb); have n1_ := Aside0.mk (hbox); have n2_ := Aside0.mk ((by rw [hg]; exact (qi0 (by repeat (first | (with_reducible first | exact HB.out | apply qc0 | apply qa0 | apply qb0) | exact HB.out))) : w.heap.size ≤ gb180)); have n3_ := Aside0.mk ((by rw [hg]; exact (qi0 (by repeat (first | (with_reducible first | exact HB.out | apply qc0 | apply qa0 | apply qb0) | exact HB.out))) : w.heap.size ≤ gb180)); clear HB; have HB := n0_; have BK180 := n1_; have GW180 := n2_; have GE180 := n3_; clear n0_ n1_ n2_ n3_; clear hb hbox hg; have hcz26_0 : w25.cell? ⟨gb180, 0, none⟩ = some (.string (⟨#[]⟩ : ByteArray)) := (qh0 BK180.out 0).trans rfl; have hcz26_1 : w25.cell? ⟨gb180, 1, none⟩ = some (.string (⟨#[]⟩ : ByteArray)) := (qh0 BK180.out 1).trans rfl; have hcz26_2 : w25.cell? ⟨gb180, 2, none⟩ = some (.int .i64 0) := (qh0 BK180.out 2).trans rfl; have hfz26_0 := qe0 BK180.out 0; have hfz26_1 := qe0 BK180.out 1; have hfz26_2 := qe0 BK180.out 2) | ((with_reducible refine qf0 (f := 99) rfl ?_); refine qn0 (some 32) rfl rfl Try.func99 (by kernel_rfl) rfl #[.string ((rd_T140 l1 x26_2).f0)] rfl (by (try simp only [List.map_toArray, List.map_cons, List.map_nil]); first | done | rfl | (simp only [List.length_drop, List.length_take]; rfl)) ?_; (with_reducible refine (impl_AccountNumber.calls ((rd_T140 l1 x26_2).f0) true _ A11.out).mono ?_); rintro e w27 ⟨rfl, hb⟩; refine ⟨_, rfl, ?_⟩; have n0_ := Aside0.mk (blk_below (g := gb180) (o := .cells #[.string ((rd_T140 l1 x26_2).f0), .string ((rd_T140 l1 x26_2).f1), .int .i64 ((rd_T140 l1 x26_2).f2)] 140 (0, 0)) (by (with_reducible repeat (first | refine qk0 ?_ _ | refine qm0 ?_ | refine ql0 ?_ _)); refine blk_put (cs := #[.string ((rd_T140 l1 x26_2).f0), .string ((rd_T140 l1 x26_2).f1), .int .i64 0]) ?_ 2 _ rfl; (with_reducible repeat (first | refine qk0 ?_ _ | refine qm0 ?_ | refine ql0 ?_ _)); refine blk_put (cs := #[.string ((rd_T140 l1 x26_2).f0), .string (⟨#[]⟩ : ByteArray), .int .i64 0]) ?_ 1 _ rfl; (with_reducible repeat (first | refine qk0 ?_ _ | refine qm0 ?_ | refine ql0 ?_ _)); refine blk_put (cs := #[.string (⟨#[]⟩ : ByteArray), .string (⟨#[]⟩ : ByteArray), .int .i64 0]) ?_ 0 _ rfl; (with_reducible repeat (first | refine qk0 ?_ _ | refine qm0 ?_ | refine ql0 ?_ _)); exact BK180.out) hb); have n1_ := Aside0.mk (qg0 (by repeat (first | (with_reducible first | exact HB.out | apply qc0 | apply qa0 | apply qb0 | refine qj0 ?_ GE180.out) | exact HB.out)) hb); clear BK180; clear HB; have BK180 := n0_; have HB := n1_; clear n0_ n1_; (try clear hb); (try clear hb2); (try clear hk); (try clear hi); have hcz28_0 : w27.cell? ⟨gb180, 0, none⟩ = some (.string ((rd_T140 l1 x26_2).f0)) := (qh0 BK180.out 0).trans rfl; have hcz28_1 : w27.cell? ⟨gb180, 1, none⟩ = some (.string ((rd_T140 l1 x26_2).f1)) := (qh0 BK180.out 1).trans rfl; have hcz28_2 : w27.cell? ⟨gb180, 2, none⟩ = some (.int .i64 ((rd_T140 l1 x26_2).f2)) := (qh0 BK180.out 2).trans rfl; have hfz28_0 := qe0 BK180.out 0; have hfz28_1 := qe0 BK180.out 1; have hfz28_2 := qe0 BK180.out 2) | (go_at_call 71; (with_reducible refine (impl_NameOk.calls k2 ((rd_T140 l1 x26_2).f1) false _ A13.out).mono ?_); rintro e w' ⟨rfl, ⟨nd, rfl⟩⟩))
       go_ret
       exact ⟨by first | rfl | (simp [errW_none, errW_some] <;> rfl) | (simp [*, errW_none, errW_some] <;> rfl), by repeat (first | (with_reducible first | exact HB.out | apply qc0 | apply qa0 | apply qb0 | refine qj0 ?_ GE180.out) | exact HB.out)⟩
      replace c12 := Bool.eq_false_iff.mpr c12
      subst c12
      have H1 : (some (⟨#[]⟩ : ByteArray)) = some r := by rw [if_neg (show ¬ (false = true) by decide)] at H; exact H
      clear H
      have H := H1
      clear H1
      obtain rfl := Option.some.inj H
      have p179 : 0 ≤ (x26_2 : Int) := of_decide_eq_true (by first | (with_reducible assumption) | assumption)
      have q179 : x26_2 < (l1.length : Int) := of_decide_eq_true (by first | (with_reducible assumption) | assumption)
      obtain ⟨ad179, e179, hx179_0, hx179_1, hx179_2⟩ := at_T140 HR1.out x26_2 p179 q179
      cases e179
      replace hx179_0 := (HB.out.cell (World.block_lt_of_cell? w _ hx179_0)).trans hx179_0
      replace hx179_1 := (HB.out.cell (World.block_lt_of_cell? w _ hx179_1)).trans hx179_1
      replace hx179_2 := (HB.out.cell (World.block_lt_of_cell? w _ hx179_2)).trans hx179_2
      replace p179 := eq_true p179
      replace q179 := eq_true q179
      go_wp2_with (first | ((with_reducible refine qp0 (N := 7) rfl ?_); (try (refine gate_guard (by rfl) ?_; dsimp only)); refine qq0 ?hg (N := 7) ?hd (cs := #[.string (⟨#[]⟩ : ByteArray), .string (⟨#[]⟩ : ByteArray), .int .i64 0]) (t := 140) ?hr ?_; (case hd => rfl); (case hg => rfl); (case hr => first | (go_simp; done) | (go_simp; rfl)); intro gb180 hg w29 hbox hb; have n0_ := Aside0.mk (qg0 (by repeat (first | (with_reducible first | exact HB.out | apply qc0 | apply qa0 | apply qb0) | exact HB.out)) hb); have n1_ := Aside0.mk (hbox); have n2_ := Aside0.mk ((by rw [hg]; exact (qi0 (by repeat (first | (with_reducible first | exact HB.out | apply qc0 | apply qa0 | apply qb0) | exact HB.out))) : w.heap.size ≤ gb180)); have n3_ := Aside0.mk ((by rw [hg]; exact (qi0 (by repeat (first | (with_reducible first | exact HB.out | apply qc0 | apply qa0 | apply qb0) | exact HB.out))) : w.heap.size ≤ gb180)); clear HB; have HB := n0_; have BK180 := n1_; have GW180 := n2_; have GE180 := n3_; clear n0_ n1_ n2_ n3_; clear hb hbox hg; have hcz30_0 : w29.cell? ⟨gb180, 0, none⟩ = some (.string (⟨#[]⟩ : ByteArray)) := (qh0 BK180.out 0).trans rfl; have hcz30_1 : w29.cell? ⟨gb180, 1, none⟩ = some (.string (⟨#[]⟩ : ByteArray)) := (qh0 BK180.out 1).trans rfl; have hcz30_2 : w29.cell? ⟨gb180, 2, none⟩ = some (.int .i64 0) := (qh0 BK180.out 2).trans rfl; have hfz30_0 := qe0 BK180.out 0; have hfz30_1 := qe0 BK180.out 1; have hfz30_2 := qe0 BK180.out 2) | ((with_reducible refine qf0 (f := 99) rfl ?_); refine qn0 (some 32) rfl rfl Try.func99 (by kernel_rfl) rfl #[.string ((rd_T140 l1 x26_2).f0)] rfl (by (try simp only [List.map_toArray, List.map_cons, List.map_nil]); first | done | rfl | (simp only [List.length_drop, List.length_take]; rfl)) ?_; (with_reducible refine (impl_AccountNumber.calls ((rd_T140 l1 x26_2).f0) false _ A11.out).mono ?_); rintro e w31 ⟨rfl, hb⟩; refine ⟨_, rfl, ?_⟩; have n0_ := Aside0.mk (blk_below (g := gb180) (o := .cells #[.string ((rd_T140 l1 x26_2).f0), .string ((rd_T140 l1 x26_2).f1), .int .i64 ((rd_T140 l1 x26_2).f2)] 140 (0, 0)) (by (with_reducible repeat (first | refine qk0 ?_ _ | refine qm0 ?_ | refine ql0 ?_ _)); refine blk_put (cs := #[.string ((rd_T140 l1 x26_2).f0), .string ((rd_T140 l1 x26_2).f1), .int .i64 0]) ?_ 2 _ rfl; (with_reducible repeat (first | refine qk0 ?_ _ | refine qm0 ?_ | refine ql0 ?_ _)); refine blk_put (cs := #[.string ((rd_T140 l1 x26_2).f0), .string (⟨#[]⟩ : ByteArray), .int .i64 0]) ?_ 1 _ rfl; (with_reducible repeat (first | refine qk0 ?_ _ | refine qm0 ?_ | refine ql0 ?_ _)); refine blk_put (cs := #[.string (⟨#[]⟩ : ByteArray), .string (⟨#[]⟩ : ByteArray), .int .i64 0]) ?_ 0 _ rfl; (with_reducible repeat (first | refine qk0 ?_ _ | refine qm0 ?_ | refine ql0 ?_ _)); exact BK180.out) hb); have n1_ := Aside0.mk (qg0 (by repeat (first | (with_reducible first | exact HB.out | apply qc0 | apply qa0 | apply qb0 | refine qj0 ?_ GE180.out) | exact HB.out)) hb); clear BK180; clear HB; have BK180 := n0_; have HB := n1_; clear n0_ n1_; (try clear hb); (try clear hb2); (try clear hk); (try clear hi)))
      go_ret
      exact ⟨by first | rfl | (simp [errW_none, errW_some] <;> rfl) | (simp [*, errW_none, errW_some] <;> rfl), by repeat (first | (with_reducible first | exact HB.out | apply qc0 | apply qa0 | apply qb0 | refine qj0 ?_ GE180.out) | exact HB.out)⟩
     rw [if_neg c8] at H
     have c8b0 : decide (x26_2 < (l1.length : Int)) = false := decide_eq_false c8
     clear c8
     by_cases c32 : x5_2 > 100000000000
     ·rw [if_pos c32] at H
      have c32b0 : decide (100000000000 < x5_2) = true := decide_eq_true c32
      clear c32
      obtain rfl := Option.some.inj H
      go_wp2
      go_ret
      exact ⟨by first | rfl | (simp [errW_none, errW_some] <;> rfl) | (simp [*, errW_none, errW_some] <;> rfl), by repeat (first | (with_reducible first | exact HB.out | apply qc0 | apply qa0 | apply qb0) | exact HB.out)⟩
     rw [if_neg c32] at H
     have c32b0 : decide (100000000000 < x5_2) = false := decide_eq_false c32
     clear c32
     go_wp2_with (first | ((with_reducible refine qp0 (N := 54) rfl ?_); (try (refine gate_guard (by rfl) ?_; dsimp only)); refine qq0 ?hg (N := 54) ?hd (cs := #[.slice none 0 0, .int .i64 0]) (t := 150) ?hr ?_; (case hd => rfl); (case hg => rfl); (case hr => first | (go_simp; done) | (go_simp; rfl)); intro gb177 hg w34 hbox hb; have n0_ := Aside0.mk (qg0 (by repeat (first | (with_reducible first | exact HB.out | apply qc0 | apply qa0 | apply qb0) | exact HB.out)) hb); have n1_ := Aside0.mk (hbox); have n2_ := Aside0.mk ((by rw [hg]; exact (qi0 (by repeat (first | (with_reducible first | exact HB.out | apply qc0 | apply qa0 | apply qb0) | exact HB.out))) : w.heap.size ≤ gb177)); have n3_ := Aside0.mk ((by rw [hg]; exact (qi0 (by repeat (first | (with_reducible first | exact HB.out | apply qc0 | apply qa0 | apply qb0) | exact HB.out))) : w.heap.size ≤ gb177)); clear HB; have HB := n0_; have BK177 := n1_; have GW177 := n2_; have GE177 := n3_; clear n0_ n1_ n2_ n3_; clear hb hbox hg))
     have HBx := HB.out
     simp only [impl_WriteBank.tail] at H
     obtain ⟨t1, e1, H⟩ := Option.bind_eq_some_iff.1 H
     obtain ⟨t2, e2, H⟩ := Option.bind_eq_some_iff.1 H
     obtain ⟨mm, e3, H⟩ := Option.bind_eq_some_iff.1 H
     obtain ⟨b0, e4, H⟩ := Option.bind_eq_some_iff.1 H
     obtain ⟨hroom, rfl⟩ := bkLine_some e4
     have hGE := GE177.out
     have hI0 : BankF w _ gb177 (.slice none 0 0) [] 0 := ⟨BK177.out, hGE, rfl, .inl ⟨rfl, rfl⟩⟩
     refine (impl_decimal.calls _ a0 t1 _ e1).mono ?_
     rintro e wA ⟨rfl, hbA⟩
     dsimp only
     replace hI0 := hI0.below hbA
     replace HBx := below_then HBx hbA
     go_wp2_with (fail)
     refine (impl_decimal.calls _ _ t2 _ e2).mono ?_
     rintro e wB ⟨rfl, hbB⟩
     dsimp only
     replace hI0 := hI0.below hbB
     replace HBx := below_then HBx hbB
     go_wp2_with (fail)
     refine (impl_ShowMoney.calls _ _ 2 mm _ e3).mono ?_
     rintro e wC ⟨rfl, hbC⟩
     dsimp only
     replace hI0 := hI0.below hbC
     replace HBx := below_then HBx hbC
     go_wp2_with (first | ((with_reducible refine qp0 (N := 63) rfl ?_); refine lit_event ?hg (N := 63) ?hd (cs := #[.string (⟨#[72]⟩ : ByteArray), .string t1, .string t2, .string mm]) (t := 9) (n := 4) ?hr ?_; (case hd => rfl); (case hg => rfl); (case hr => first | (go_simp; done) | (go_simp; rfl)); intro fb hfb wD hf hbD; clear hfb))
     replace hI0 := hI0.below hbD
     replace HBx := below_then HBx hbD
     refine (bank_line w _ gb177 fb 4 (.slice none 0 0) [] 0 [⟨#[72]⟩, t1, t2, mm] hI0 HBx hf hroom (by simp)).mono ?_
     rintro e wE ⟨rfl, ⟨v5, hI5⟩, hB5, hK5⟩
     dsimp only
     clear hI0 HBx hf hbD hbC hbB hbA e1 e2 e3 e4 hroom hK5
     go_wp2
     have hH := Aside0.mk H
     clear H
     go_loopg [67] k2 (fun kq v67 w' => ∃ (b : List Int) (i : Int) (vv : Value) (n : Int), v67 = .int .i64 i ∧ Aside0 (impl_WriteBank.rows kq l1 b i = some r) ∧ Aside0 (kq ≤ k2) ∧ Aside0 (BankF w w' gb177 vv b n) ∧ Aside0 (Below w.heap.size w w'))
     case atStart => exact ⟨_, 0, _, _, rfl, hH, ⟨Nat.le_refl _⟩, ⟨hI5⟩, ⟨hB5⟩⟩
     case round =>
      clear hH
      obtain ⟨b, i, vv, n, rfl, HA, HK3, hI6, HB6⟩ := hrel
      cases gk with
      | zero => exact absurd HA.out (by simp [impl_WriteBank.rows])
      | succ k3 =>
       have H := HA.out
       clear HA
       simp only [impl_WriteBank.rows] at H
       by_cases c40 : i < (l1.length : Int)
       ·rw [if_pos c40] at H
        have c40b0 : decide (i < (l1.length : Int)) = true := decide_eq_true c40
        by_cases c41 : 0 ≤ i
        case neg => rw [if_neg c41] at H; exact absurd H (by simp)
        rw [if_pos c41] at H
        have c41b0 : decide (0 ≤ i) = true := decide_eq_true c41
        obtain ⟨mm, e1, H⟩ := Option.bind_eq_some_iff.1 H
        obtain ⟨b', e2, H⟩ := Option.bind_eq_some_iff.1 H
        obtain ⟨hroom, rfl⟩ := bkLine_some e2
        obtain ⟨ad, e178, hx0, hx1, hx2⟩ := at_T140 HR1.out i c41 c40
        cases e178
        replace hx0 := (HB6.out.cell (World.block_lt_of_cell? w _ hx0)).trans hx0
        replace hx1 := (HB6.out.cell (World.block_lt_of_cell? w _ hx1)).trans hx1
        replace hx2 := (HB6.out.cell (World.block_lt_of_cell? w _ hx2)).trans hx2
        have p178 : (0 ≤ i) = True := eq_true c41
        have q178 : (i < (l1.length : Int)) = True := eq_true c40
        have hH := Aside0.mk H
        clear H
        go_wp2_with (first | ((with_reducible refine qp0 (N := 10) rfl ?_); (try (refine gate_guard (by rfl) ?_; dsimp only)); refine qq0 ?hg (N := 10) ?hd (cs := #[.string (⟨#[]⟩ : ByteArray), .string (⟨#[]⟩ : ByteArray), .int .i64 0]) (t := 140) ?hr ?_; (case hd => rfl); (case hg => rfl); (case hr => first | (go_simp; done) | (go_simp; rfl)); intro gp hgp wF hbox hbF; have hge := Aside0.mk (show wr.heap.size ≤ gp from Nat.le_of_eq hgp.symm); clear hgp; have hz0 : wF.cell? ⟨gp, 0, none⟩ = some (.string (⟨#[]⟩ : ByteArray)) := (qh0 hbox 0).trans rfl; have hz1 : wF.cell? ⟨gp, 1, none⟩ = some (.string (⟨#[]⟩ : ByteArray)) := (qh0 hbox 1).trans rfl; have hz2 : wF.cell? ⟨gp, 2, none⟩ = some (.int .i64 0) := (qh0 hbox 2).trans rfl; have hfz0 := qe0 hbox 0; have hfz1 := qe0 hbox 1; have hfz2 := qe0 hbox 2))
        have hsz : w.heap.size ≤ wr.heap.size := HB6.out.size
        have hgep : w.heap.size ≤ gp := Nat.le_trans hsz hge.out
        have hI7 := hI6.out.below hbF
        have hB7 := below_then HB6.out hbF
        have hne : gb177 ≠ gp := blk_ne hI7.1 hbox (by decide)
        have hP0 := blk_put (cs := #[.string (⟨#[]⟩ : ByteArray), .string (⟨#[]⟩ : ByteArray), .int .i64 0]) hbox 0 (.string (rd_T140 l1 i).f0) rfl
        have hI0 := hI7.set hbox (by decide) hne 0 (.string (rd_T140 l1 i).f0)
        have hP1 := blk_put (cs := #[.string (rd_T140 l1 i).f0, .string (⟨#[]⟩ : ByteArray), .int .i64 0]) hP0 1 (.string (rd_T140 l1 i).f1) rfl
        have hI1 := hI0.set hP0 (by decide) hne 1 (.string (rd_T140 l1 i).f1)
        have hP : (((wF.setCell ⟨gp, 0, none⟩ (.string (rd_T140 l1 i).f0)).setCell ⟨gp, 1, none⟩ (.string (rd_T140 l1 i).f1)).setCell ⟨gp, 2, none⟩ (.int .i64 (rd_T140 l1 i).f2)).heap[gp]? = some (.cells #[.string (rd_T140 l1 i).f0, .string (rd_T140 l1 i).f1, .int .i64 (rd_T140 l1 i).f2] 140 (0, 0)) := blk_put (cs := #[.string (rd_T140 l1 i).f0, .string (rd_T140 l1 i).f1, .int .i64 0]) hP1 2 (.int .i64 (rd_T140 l1 i).f2) rfl
        have hI2 := hI1.set hP1 (by decide) hne 2 (.int .i64 (rd_T140 l1 i).f2)
        have hB2 := ((hB7.setCell (p := ⟨gp, 0, none⟩) hgep (.string (rd_T140 l1 i).f0)).setCell (p := ⟨gp, 1, none⟩) hgep (.string (rd_T140 l1 i).f1)).setCell (p := ⟨gp, 2, none⟩) hgep (.int .i64 (rd_T140 l1 i).f2)
        clear hP0 hP1 hI0 hI1 hI7 hB7
        generalize (((wF.setCell ⟨gp, 0, none⟩ (.string (rd_T140 l1 i).f0)).setCell ⟨gp, 1, none⟩ (.string (rd_T140 l1 i).f1)).setCell ⟨gp, 2, none⟩ (.int .i64 (rd_T140 l1 i).f2)) = W0 at hP hI2 hB2 ⊢
        replace hP := qm0 hP
        replace hI2 := hI2.below (qb0 (Below.refl _ _))
        replace hB2 := qb0 hB2
        refine start_ (n := 10) (S := fun w' => w'.cell? ⟨gp, 0, none⟩ = some (.string (rd_T140 l1 i).f0) ∧ w'.cell? ⟨gp, 1, none⟩ = some (.string (rd_T140 l1 i).f1) ∧ w'.cell? ⟨gp, 2, none⟩ = some (.int .i64 (rd_T140 l1 i).f2)) (ds := []) #[false, false, false, false, false, false, false, false, false, false] (by kernel_rfl) rfl rfl ⟨(qh0 hP 0).trans rfl, (qh0 hP 1).trans rfl, (qh0 hP 2).trans rfl⟩ (fun hHeld => ?_)
        refine with_tabW impl_WriteBank.tab18 impl_WriteBank.bits18 (fun HT_ HW_ => ?_)
        generalize W0.drew = W1 at hP hI2 hB2 hHeld ⊢
        refine pure_ (i := 0) (N := some 71) (v := ?_) (a' := ?_) #[true, false, false, false, false, false, false, false, false, false] rfl rfl (qd0 HT_.out (by kernel_rfl)) (fun _ _ _ h => h) (Or.inl ⟨by rfl, ?_⟩) ?_ ?_
        rotate_left
        ·intro w'
         go_simp
         with_reducible rfl
        rotate_left
        ·simp only [Act.put, List.setIfInBounds_toArray, List.set_cons_zero, List.set_cons_succ, i64_w, i32_w]
         rfl
        refine pure_ (i := 1) (N := some 72) (v := ?_) (a' := ?_) #[true, true, false, false, false, false, false, false, false, false] rfl rfl (qd0 HT_.out (by kernel_rfl)) (fun _ _ _ h => h) (Or.inl ⟨by rfl, ?_⟩) ?_ ?_
        rotate_left
        ·intro w'
         go_simp
         with_reducible rfl
        rotate_left
        ·simp only [Act.put, List.setIfInBounds_toArray, List.set_cons_zero, List.set_cons_succ, i64_w, i32_w]
         rfl
        refine pure_ (i := 3) (N := some 74) (v := ?_) (a' := ?_) #[true, true, false, true, false, false, false, false, false, false] rfl rfl (qd0 HT_.out (by kernel_rfl)) (fun _ _ _ h => h) (Or.inl ⟨by rfl, ?_⟩) ?_ ?_
        rotate_left
        ·intro w'
         go_simp
         with_reducible rfl
        rotate_left
        ·simp only [Act.put, List.setIfInBounds_toArray, List.set_cons_zero, List.set_cons_succ, i64_w, i32_w]
         rfl
        refine pure_ (i := 5) (N := some 76) (v := ?_) (a' := ?_) #[true, true, false, true, false, true, false, false, false, false] rfl rfl (qd0 HT_.out (by kernel_rfl)) (fun _ _ _ h => h) (Or.inl ⟨by rfl, ?_⟩) ?_ ?_
        rotate_left
        ·intro w'
         go_simp
         with_reducible rfl
        rotate_left
        ·simp only [Act.put, List.setIfInBounds_toArray, List.set_cons_zero, List.set_cons_succ, i64_w, i32_w]
         rfl
        refine take_ (i := 2) (N := some 73) (v := ?_) (a' := ?_) #[true, true, true, true, false, true, false, false, false, false] rfl rfl (qt0 HT_.out HW_.out (by kernel_rfl)) (fun _ _ _ h => h) (Or.inl ⟨by rfl, ?_⟩) hHeld ?_ ?_
        rotate_left
        ·rintro w' ⟨s0, s1, s2⟩
         go_simp
         with_reducible rfl
        rotate_left
        ·simp only [Act.put, List.setIfInBounds_toArray, List.set_cons_zero, List.set_cons_succ, i64_w, i32_w]
         rfl
        refine take_ (i := 4) (N := some 75) (v := ?_) (a' := ?_) #[true, true, true, true, true, true, false, false, false, false] rfl rfl (qt0 HT_.out HW_.out (by kernel_rfl)) (fun _ _ _ h => h) (Or.inl ⟨by rfl, ?_⟩) hHeld ?_ ?_
        rotate_left
        ·rintro w' ⟨s0, s1, s2⟩
         go_simp
         with_reducible rfl
        rotate_left
        ·simp only [Act.put, List.setIfInBounds_toArray, List.set_cons_zero, List.set_cons_succ, i64_w, i32_w]
         rfl
        refine take_ (i := 6) (N := some 77) (v := ?_) (a' := ?_) #[true, true, true, true, true, true, true, false, false, false] rfl rfl (qt0 HT_.out HW_.out (by kernel_rfl)) (fun _ _ _ h => h) (Or.inl ⟨by rfl, ?_⟩) hHeld ?_ ?_
        rotate_left
        ·rintro w' ⟨s0, s1, s2⟩
         go_simp
         with_reducible rfl
        rotate_left
        ·simp only [Act.put, List.setIfInBounds_toArray, List.set_cons_zero, List.set_cons_succ, i64_w, i32_w]
         rfl
        refine one_ (i := 7) (N := some 78) #[true, true, true, true, true, true, true, true, false, false] rfl rfl (qw0 HT_.out (by kernel_rfl)) (by decide) (fun K hK => ?_)
        refine goes_ Try.func103 (by kernel_rfl) rfl #[.int .i64 (rd_T140 l1 i).f2, .int .i64 2] (by rfl) rfl rfl (by (try simp only [List.map_toArray, List.map_cons, List.map_nil]); first | done | rfl) ?_
        refine (impl_ShowMoney.calls k3 _ 2 mm _ e1).mono ?_
        rintro e wG ⟨rfl, hbG⟩
        refine ⟨_, rfl, ?_⟩
        replace hI2 := hI2.below hbG
        replace hB2 := below_then hB2 hbG
        replace hP := blk_then hP hbG
        refine hK.out _ _ ⟨(qh0 hP 0).trans rfl, (qh0 hP 1).trans rfl, (qh0 hP 2).trans rfl⟩ (fun hHeld => ?_)
        clear hK K
        refine norm_ (a' := ?_) ?_ ?_
        rotate_left
        ·show Act.put _ (some 78) _ = _
         simp only [Act.put, List.setIfInBounds_toArray, List.set_cons_zero, List.set_cons_succ, i64_w, i32_w]
         rfl
        refine one_ (i := 8) (N := some 79) #[true, true, true, true, true, true, true, true, true, false] rfl rfl (qw0 HT_.out (by kernel_rfl)) (by decide) (fun K hK => ?_)
        refine lit_step (by rfl) (cs := #[.string (⟨#[80]⟩ : ByteArray), .string (rd_T140 l1 i).f0, .string (rd_T140 l1 i).f1, .string mm]) (t := 9) (n := 4) ?hr ?_
        case hr => first | (go_simp; done) | (go_simp; rfl)
        intro fb hfb wH hf hbH
        clear hfb
        replace hI2 := hI2.below hbH
        replace hB2 := below_then hB2 hbH
        replace hP := blk_then hP hbH
        refine hK.out _ _ ⟨(qh0 hP 0).trans rfl, (qh0 hP 1).trans rfl, (qh0 hP 2).trans rfl⟩ (fun hHeld => ?_)
        clear hK K
        refine norm_ (a' := ?_) ?_ ?_
        rotate_left
        ·show Act.put _ (some 79) _ = _
         simp only [Act.put, List.setIfInBounds_toArray, List.set_cons_zero, List.set_cons_succ, i64_w, i32_w]
         rfl
        refine one_ (i := 9) (N := some 80) #[true, true, true, true, true, true, true, true, true, true] rfl rfl (qw0 HT_.out (by kernel_rfl)) (by decide) (fun K hK => ?_)
        refine goes_ Try.func101 (by kernel_rfl) rfl #[.pointer (some ⟨gb177, 0, none⟩), .slice (some ⟨fb, 0, none⟩) 4 4] (by rfl) rfl rfl (by (try simp only [List.map_toArray, List.map_cons, List.map_nil]); first | done | rfl) ?_
        refine (bank_line w _ gb177 fb 4 vv b n [⟨#[80]⟩, (rd_T140 l1 i).f0, (rd_T140 l1 i).f1, mm] hI2 hB2 hf hroom (by simp)).mono ?_
        rintro e wJ ⟨rfl, ⟨v8, hI8⟩, hB8, hK8⟩
        refine ⟨_, rfl, ?_⟩
        replace hP := hK8 gp _ _ hP (by decide) hne.symm
        refine hK.out _ _ ⟨(qh0 hP 0).trans rfl, (qh0 hP 1).trans rfl, (qh0 hP 2).trans rfl⟩ (fun hHeld => ?_)
        clear hK K
        refine norm_ (a' := ?_) ?_ ?_
        rotate_left
        ·show Act.put _ (some 80) _ = _
         simp only [Act.put, List.setIfInBounds_toArray, List.set_cons_zero, List.set_cons_succ, i64_w, i32_w]
         rfl
        refine done_ (done_of HT_.out (by kernel_rfl)) ?_
        go_wp2
        go_roundg k3
        case measure => have := HK3.out; omega
        case rel => exact ⟨_, _, _, _, rfl, hH, ⟨by have := HK3.out; omega⟩, ⟨hI8⟩, ⟨hB8⟩⟩
       rw [if_neg c40] at H
       have c40b0 : decide (i < (l1.length : Int)) = false := decide_eq_false c40
       obtain ⟨c, e1, H⟩ := Option.bind_eq_some_iff.1 H
       obtain ⟨d, e2, H⟩ := Option.bind_eq_some_iff.1 H
       obtain ⟨b', e3, H⟩ := Option.bind_eq_some_iff.1 H
       obtain ⟨hroom, rfl⟩ := bkLine_some e3
       obtain rfl := Option.some.inj H
       have hI7 := hI6.out
       have hB7 := HB6.out
       have hc7 : wr.cell? ⟨gb177, 0, none⟩ = some vv := (qh0 hI7.1 0).trans rfl
       have hcv := bank_conv hI7
       go_wp2_with (fail)
       refine (impl_bankCheck.calls k3 (strOfNums b) c _ e1).mono ?_
       rintro e wK ⟨rfl, ⟨nd, rfl⟩⟩
       dsimp only
       replace hI7 := hI7.below (qa0 (Below.refl _ _) nd)
       replace hB7 := qa0 hB7 nd
       go_wp2_with (fail)
       refine (impl_decimal.calls k3 c d _ e2).mono ?_
       rintro e wL ⟨rfl, hbL⟩
       dsimp only
       replace hI7 := hI7.below hbL
       replace hB7 := below_then hB7 hbL
       go_wp2_with (first | ((with_reducible refine qp0 (N := 91) rfl ?_); refine lit_event ?hg (N := 91) ?hd (cs := #[.string (⟨#[84]⟩ : ByteArray), .string d]) (t := 9) (n := 2) ?hr ?_; (case hd => rfl); (case hg => rfl); (case hr => first | (go_simp; done) | (go_simp; rfl)); intro fb hfb wM hf hbM; clear hfb))
       replace hI7 := hI7.below hbM
       replace hB7 := below_then hB7 hbM
       refine (bank_line w _ gb177 fb 2 vv b n [⟨#[84]⟩, d] hI7 hB7 hf hroom (by simp)).mono ?_
       rintro e wN ⟨rfl, ⟨v9, hI9⟩, hB9, hK9⟩
       dsimp only
       clear hc7 hcv
       generalize hb9 : b ++ lineB [⟨#[84]⟩, d] = b9 at hI9
       have hb9' := Aside0.mk (hb9)
       clear hb9
       have hc9 : wN.cell? ⟨gb177, 0, none⟩ = some v9 := (qh0 hI9.1 0).trans rfl
       have hcv9 := bank_conv hI9
       obtain ⟨A9, cp9, rfl⟩ := own_sl hI9.2.2
       by_cases c50 : 20000 < (b9.length : Int)
       ·have hE := Aside0.mk (if_pos c50 : bkEnd b9 = _)
        have c50n : 20000 < b9.length := by omega
        have c50b0 : decide (20000 < (b9.length : Int)) = true := decide_eq_true c50
        have c50b1 : (20000 < (b9.length : Int)) = True := eq_true c50
        have c50b2 : decide (20000 < b9.length) = true := decide_eq_true c50n
        have c50b3 : (20000 < b9.length) = True := eq_true c50n
        go_wp2_with (fail)
        go_ret
        exact ⟨congrArg (fun x => Ending.returned (Value.string x)) ((congrArg bkEnd hb9'.out).trans hE.out).symm, hB9⟩
       ·have hE := Aside0.mk (if_neg c50 : bkEnd b9 = _)
        have c50n : ¬ 20000 < b9.length := by omega
        have c50b0 : decide (20000 < (b9.length : Int)) = false := decide_eq_false c50
        have c50b1 : (20000 < (b9.length : Int)) = False := eq_false c50
        have c50b2 : decide (20000 < b9.length) = false := decide_eq_false c50n
        have c50b3 : (20000 < b9.length) = False := eq_false c50n
        go_wp2_with (fail)
        go_ret
        exact ⟨congrArg (fun x => Ending.returned (Value.string x)) ((congrArg bkEnd hb9'.out).trans hE.out).symm, hB9⟩

end Go.Proofs.Ytkkdmmefnicmaaa.PFnExactWriteBank
