/- Lines by a program (a changed copy of the kit's print: this repo's wip/tools): Go functions as Lean functions, and proofs that the calls answer so. -/
import Derived.Test.YtdnhpicgjkddbaaProg
import Derived.Below
import Derived.Deep.Draws
import Derived.Deep.AppendLies
import Derived.Maps.AppendAt
import Derived.OwnWalk
import Derived.Laws.BytesArg
import Derived.Laws.MakeOwn
import Derived.Laws.OwnMore
import Derived.Deep.OwnRows
import Derived.Tactics
import Derived.Lib.ConvBytes
import Derived.Laws.Slices
import Derived.WalkKit
import Derived.KernelRfl
import Derived.RowKit3
import Derived.Deep.LoopGhost
import Derived.Deep.QuietTactic
import Derived.BigQuiet
import Derived.WideLaws
import Derived.Deep.DeepCutAuto
import Derived.Deep.CutBlock
import Derived.Deep.RegionHeld3
import Derived.Laws.Rows
import Derived.Lib.AppendStr
import Derived.ArgAppend
import Derived.Laws.IdiomCopy
import Derived.OrdersHeld
import Derived.Laws.BitsLemmas
import Derived.RowKit
import Derived.Test.YtdnhpicgjkddbaaZWWords
import Derived.Test.YtdnhpicgjkddbaaZWLast
import Derived.Test.YtdnhpicgjkddbaaZWTab
import Derived.Test.YtdnhpicgjkddbaaZWFour
import Derived.Test.YtdnhpicgjkddbaaZWQPut
import Derived.Test.YtdnhpicgjkddbaaZWApart
import Derived.Test.YtdnhpicgjkddbaaZWArr
import Derived.Test.YtdnhpicgjkddbaaZWZeros
import Derived.Test.YtdnhpicgjkddbaaZWFoot
import Derived.Test.YtdnhpicgjkddbaaZWKept
import Derived.Test.YtdnhpicgjkddbaaZWShare
import Derived.Test.YtdnhpicgjkddbaaZWN
import Derived.Test.YtdnhpicgjkddbaaZWFootNe
import Derived.Test.YtdnhpicgjkddbaaZWAt
import Derived.Test.YtdnhpicgjkddbaaZWEqStruct
import Derived.Test.YtdnhpicgjkddbaaZWRepsOne
import Derived.Test.YtdnhpicgjkddbaaZWInv
import Derived.Test.YtdnhpicgjkddbaaZWInvWords
import Derived.Test.YtdnhpicgjkddbaaZWGuard
import Derived.Test.YtdnhpicgjkddbaaZWNEv
import Derived.Test.YtdnhpicgjkddbaaZWMore
import Derived.Test.YtdnhpicgjkddbaaZMap
import Derived.Test.YtdnhpicgjkddbaaZFn
namespace Go.Proofs.Ytdnhpicgjkddbaa.PFnRolled
open Go.RowKit Go.Proofs.YtdnhpicgjkddbaaW.PrintWords Go.Proofs.YtdnhpicgjkddbaaW.PrintLast Go.Proofs.YtdnhpicgjkddbaaW.PrintMore
attribute [local go_sem] max2_int min2_int max_two min_two max_three min_three max_four min_four   -- for this text's walks alone
set_option linter.unusedVariables false
set_option linter.unusedSimpArgs false



def errW : Option Int → Value
 | none => .nilIface
 | some c => .iface 0 (.int .i64 c)
theorem errW_none : errW none = .nilIface := rfl
theorem errW_some (c : Int) : errW (some c) = .iface 0 (.int .i64 c) := rfl

theorem info3 : (Try.prog.info? 3).map (fun i => (i.zero, i.size, i.bytes)) = some (some (.int .i64 0), 1, 8) := by kernel_rfl
theorem info30 : (Try.prog.info? 30).map (fun i => (i.zero, i.size, i.bytes)) = some (some (.agg #[(.string ⟨#[]⟩), (.int .i64 0), (.int .i64 0)]), 3, 32) := by kernel_rfl
-- the values' own types
/-! #### struct type 30 -/
structure S30 where
 f0 : ByteArray
 f1 : Int
 f2 : Int
def z30 : S30 := ⟨(⟨#[]⟩ : ByteArray), (0 : Int), (0 : Int)⟩
def k30 : Kd S30 := Kd.iso (Kd.pair Kd.string (Kd.pair (Kd.int .i64) (Kd.int .i64))) (fun x : S30 => (x.f0, x.f1, x.f2))
theorem k30_open {w : World} {x : S30} {cs : List Value} (h : k30.K w x cs) : cs = [.string x.f0, .int .i64 x.f1, .int .i64 x.f2] := by
 obtain ⟨_, _, rfl, rfl, ⟨_, _, rfl, rfl, rfl⟩⟩ := h
 exact rfl
theorem k30_openM {w : World} {base : Nat} {ok : Nat → Prop} {x : S30} {cs : List Value} (h : k30.M w base ok x cs) : cs = [.string x.f0, .int .i64 x.f1, .int .i64 x.f2] := by
 obtain ⟨_, _, rfl, rfl, ⟨_, _, rfl, rfl, rfl⟩⟩ := h
 exact rfl
theorem k30_mkM (w : World) (base : Nat) (ok : Nat → Prop) (x : S30)  : k30.M w base ok x [.string x.f0, .int .i64 x.f1, .int .i64 x.f2] := ⟨[.string x.f0], [.int .i64 x.f1, .int .i64 x.f2], rfl, rfl, ⟨[.int .i64 x.f1], [.int .i64 x.f2], rfl, rfl, rfl⟩⟩
def rd_T30 (xs : List S30) (i : Int) : S30 := xs.getD i.toNat z30
theorem at_T30 {w : World} {A : Option Addr} {n : Nat} {xs : List S30} (h : Kd.C k30 w A n xs) (i : Int) (h0 : 0 ≤ i) (h1 : i < n) : ∃ ad , A = some ad ∧ w.cell? (ad.add (i.toNat * 3)) = some (.string (rd_T30 xs i).f0) ∧ w.cell? ⟨(ad.add (i.toNat * 3)).block, (ad.add (i.toNat * 3)).off + 1, none⟩ = some (.int .i64 (rd_T30 xs i).f1) ∧ w.cell? ⟨(ad.add (i.toNat * 3)).block, (ad.add (i.toNat * 3)).off + 2, none⟩ = some (.int .i64 (rd_T30 xs i).f2) := by
 obtain ⟨ad, c, e, _, hK, hc0⟩ := Kd.C_get h z30 i h0 h1
 have hc : ∀ j u, c[j]? = some u → w.cell? (ad.add (i.toNat * 3 + j)) = some u := hc0
 obtain rfl := k30_open hK
 exact ⟨ad, e, hc 0 _ rfl, by rw [← add_field _ _ 1 (by omega)]; exact hc 1 _ rfl, by rw [← add_field _ _ 2 (by omega)]; exact hc 2 _ rfl⟩

noncomputable def kz205 : Kz ByteArray Int := ⟨Try.prog, 9, Value.string, (Value.int .i64)⟩
theorem kz205_K : Go.Maps.Keyed kz205.P kz205.kt := Go.Maps.string_keyed Try.underlying9
theorem kz205_inj : ∀ x y, kz205.enc x = kz205.enc y → x = y := by
 intro x y h
 injection h
theorem kz205_t : kz205.P.underlying 205 = some (.map kz205.kt 3) := Try.underlying205
theorem kz205_z : ∀ w, (zeroValue 3).run kz205.P w = .ok (kz205.encv 0) w := fun _ => by kernel_rfl
theorem kz205_key (x : ByteArray) (h : x.size ≤ 9223372036854775807) : ∃ kl, keyOf kz205.P kz205.kt (kz205.enc x) = some kl := ⟨_, Go.WideMaps.keyOf_string_mk Try.underlying9 h⟩
end Go.Proofs.Ytdnhpicgjkddbaa.PFnRolled
