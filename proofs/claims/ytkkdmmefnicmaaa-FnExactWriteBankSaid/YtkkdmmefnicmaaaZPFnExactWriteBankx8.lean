/- Lines by a program (a changed copy of the kit's print: this repo's wip/tools): Go functions as Lean functions, and proofs that the calls answer so. -/
import Derived.Test.YtkkdmmefnicmaaaZPFnExactWriteBankx0
import Derived.Lib.OthersKept
import Derived.LoopTactic
namespace Go.Proofs.Ytkkdmmefnicmaaa.PFnExactWriteBank
open Go.RowKit Go.Proofs.YtkkdmmefnicmaaaW.PrintWords Go.Proofs.YtkkdmmefnicmaaaW.PrintLast Go.Proofs.YtkkdmmefnicmaaaW.PrintMore
attribute [local go_sem] max2_int min2_int max_two min_two max_three min_three max_four min_four   -- for this text's walks alone
set_option linter.unusedVariables false
set_option linter.unusedSimpArgs false

-- EXTERN loop.example/g00040/impl.rest97
/-! ### impl_rest97: function 144 -/
-- @making
-- @import Derived.Lib.OthersKept
-- @import Derived.LoopTactic
open Go.Lib
/-- The rest by 97, rune by rune. -/
def r97 (s : ByteArray) : Nat → Nat → Int → Int
 | 0, _, n => n
 | b + 1, pos, n => if pos < s.size then (if 48 ≤ ((Utf8.decode s pos).1 : Int) ∧ ((Utf8.decode s pos).1 : Int) ≤ 57 then r97 s b (pos + (Utf8.decode s pos).2) (Int.tmod (wrap64 (wrap64 (n * 10) + (((Utf8.decode s pos).1 : Int) - 48))) 97)
   else if 65 ≤ ((Utf8.decode s pos).1 : Int) ∧ ((Utf8.decode s pos).1 : Int) ≤ 90 then r97 s b (pos + (Utf8.decode s pos).2) (Int.tmod (wrap64 (wrap64 (wrap64 (n * 100) + (((Utf8.decode s pos).1 : Int) - 65)) + 10)) 97) else -1) else n
theorem r97_end (s : ByteArray) (b pos : Nat) (n : Int) (h : ¬ pos < s.size) : r97 s b pos n = n := by
 cases b with
 | zero => rfl
 | succ b => simp [r97, h]
theorem width_pos97 (s : ByteArray) (pos : Nat) (h : pos < s.size) : 1 ≤ (Utf8.decode s pos).2 := by
 by_cases ha : (s[pos]'h).toNat < 128
 ·rw [decode_ascii s pos h ha]
  exact Nat.le_refl _
 ·exact (decode_high s pos h (by omega)).2
def impl_rest97.f (a0 : ByteArray) : Option (Int) := some (r97 a0 a0.size 0 0)
set_option maxHeartbeats 8000000 in
set_option maxRecDepth 100000 in
theorem impl_rest97.calls (a0 : ByteArray) (r : Int) (w : World) (h : impl_rest97.f a0 = some r) :
  Calls Try.prog 144 #[.string a0] w fun e w' => e = .returned (.int .i64 r) ∧ Below w.heap.size w w' := by
 obtain rfl := Option.some.inj h
 go_enter Try.func144, Try.ntmps144
 go_wp2
 go_loopw [3] (fun n w' => ∃ (pos b : Nat) (acc : Int), w'.heap[w.heap.size]? = some (.stringIter a0 pos) ∧ n = .int .i64 acc ∧ r97 a0 b pos acc = r97 a0 a0.size 0 0 ∧ a0.size ≤ pos + b ∧ Below w.heap.size w w') (fun _ w' => a0.size - w'.iterPos w.heap.size)
 case atStart => exact ⟨0, a0.size, 0, World.iter_heap w a0 0, rfl, rfl, by omega, qc0 (Below.refl _ _) _⟩
 case round =>
  obtain ⟨pos, b, acc, hit, rfl, hc, hb, HB⟩ := hrel
  by_cases hp : pos < a0.size
  ·have hnx : ∀ ty, (Instr.next (.pointer (some ⟨w.heap.size, 0, none⟩)) true ty).run Try.prog wr = _ := fun ty => run_next_any_at wr w.heap.size a0 pos ty hit hp
   have hwd := width_pos97 a0 pos hp
   cases b with
   | zero => omega
   | succ b =>
    simp only [r97, if_pos hp] at hc
    have hmu : a0.size - (wr.iterAt w.heap.size a0 (pos + (Utf8.decode a0 pos).2)).iterPos w.heap.size < a0.size - wr.iterPos w.heap.size := by
     simp only [World.iterPos, iterAt_heap wr _ a0 _ _ hit, hit]
     omega
    go_wp2
    all_goals first
     | (refine ⟨⟨pos + (Utf8.decode a0 pos).2, b, _, iterAt_heap wr _ a0 _ _ hit, rfl, ?_, by omega, below_iterAt HB (Nat.le_refl _) _ _⟩, hmu⟩; rw [← hc]; (repeat' split) <;> first | rfl | omega)
     | (go_ret; refine ⟨?_, below_iterAt HB (Nat.le_refl _) _ _⟩; rw [← hc]; (repeat' split) <;> first | rfl | omega)
  ·have hnx : ∀ ty, (Instr.next (.pointer (some ⟨w.heap.size, 0, none⟩)) true ty).run Try.prog wr = _ := fun ty => run_next_end_at wr w.heap.size a0 pos ty hit hp
   go_wp2
   go_ret
   rw [r97_end a0 b pos acc hp] at hc
   subst hc
   exact ⟨rfl, HB⟩

end Go.Proofs.Ytkkdmmefnicmaaa.PFnExactWriteBank
