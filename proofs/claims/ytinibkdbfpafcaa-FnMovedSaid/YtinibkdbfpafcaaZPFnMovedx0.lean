/- Lines by a program (a changed copy of the kit's print: this repo's wip/tools): Go functions as Lean functions, and proofs that the calls answer so. -/
import Derived.Test.YtinibkdbfpafcaaProg
import Derived.Below
import Derived.Deep.Draws
import Derived.Deep.AppendLies
import Derived.Maps.AppendAt
import Derived.OwnWalk
import Derived.Laws.BytesArg
import Derived.Laws.MakeOwn
import Derived.Laws.OwnMore
import Derived.Deep.OwnRows
import Derived.Tactics
import Derived.Lib.ConvBytes
import Derived.Laws.Slices
import Derived.WalkKit
import Derived.KernelRfl
import Derived.RowKit3
import Derived.Deep.LoopGhost
import Derived.Deep.QuietTactic
import Derived.BigQuiet
import Derived.WideLaws
import Derived.Deep.DeepCutAuto
import Derived.Deep.CutBlock
import Derived.Deep.RegionHeld3
import Derived.Laws.Rows
import Derived.Lib.AppendStr
import Derived.ArgAppend
import Derived.Laws.IdiomCopy
import Derived.OrdersHeld
import Derived.Laws.BitsLemmas
import Derived.RowKit
import Derived.Test.YtinibkdbfpafcaaZWWords
import Derived.Test.YtinibkdbfpafcaaZWLast
import Derived.Test.YtinibkdbfpafcaaZWTab
import Derived.Test.YtinibkdbfpafcaaZWFour
import Derived.Test.YtinibkdbfpafcaaZWQPut
import Derived.Test.YtinibkdbfpafcaaZWApart
import Derived.Test.YtinibkdbfpafcaaZWArr
import Derived.Test.YtinibkdbfpafcaaZWZeros
import Derived.Test.YtinibkdbfpafcaaZWFoot
import Derived.Test.YtinibkdbfpafcaaZWKept
import Derived.Test.YtinibkdbfpafcaaZWShare
import Derived.Test.YtinibkdbfpafcaaZWN
import Derived.Test.YtinibkdbfpafcaaZWFootNe
import Derived.Test.YtinibkdbfpafcaaZWAt
import Derived.Test.YtinibkdbfpafcaaZWEqStruct
import Derived.Test.YtinibkdbfpafcaaZWRepsOne
import Derived.Test.YtinibkdbfpafcaaZWInv
import Derived.Test.YtinibkdbfpafcaaZWInvWords
import Derived.Test.YtinibkdbfpafcaaZWGuard
import Derived.Test.YtinibkdbfpafcaaZWNEv
import Derived.Test.YtinibkdbfpafcaaZWMore
import Derived.Test.YtinibkdbfpafcaaZMap
namespace Go.Proofs.Ytinibkdbfpafcaa.PFnMoved
open Go.RowKit Go.Proofs.YtinibkdbfpafcaaW.PrintWords Go.Proofs.YtinibkdbfpafcaaW.PrintLast Go.Proofs.YtinibkdbfpafcaaW.PrintMore
attribute [local go_sem] max2_int min2_int max_two min_two max_three min_three max_four min_four   -- for this text's walks alone
set_option linter.unusedVariables false
set_option linter.unusedSimpArgs false



def errW : Option Int → Value
 | none => .nilIface
 | some c => .iface 0 (.int .i64 c)
theorem errW_none : errW none = .nilIface := rfl
theorem errW_some (c : Int) : errW (some c) = .iface 0 (.int .i64 c) := rfl

theorem info117 : (Try.prog.info? 117).map (fun i => (i.zero, i.size, i.bytes)) = some (some (.agg #[(.string ⟨#[]⟩), (.string ⟨#[]⟩), (.string ⟨#[]⟩), (.int .i64 0), (.int .i64 0), (.int .i64 0)]), 6, 72) := by kernel_rfl
-- the values' own types
/-! #### struct type 117 -/
structure S117 where
 f0 : ByteArray
 f1 : ByteArray
 f2 : ByteArray
 f3 : Int
 f4 : Int
 f5 : Int
def z117 : S117 := ⟨(⟨#[]⟩ : ByteArray), (⟨#[]⟩ : ByteArray), (⟨#[]⟩ : ByteArray), (0 : Int), (0 : Int), (0 : Int)⟩
def k117 : Kd S117 := Kd.iso (Kd.pair Kd.string (Kd.pair Kd.string (Kd.pair Kd.string (Kd.pair (Kd.int .i64) (Kd.pair (Kd.int .i64) (Kd.int .i64)))))) (fun x : S117 => (x.f0, x.f1, x.f2, x.f3, x.f4, x.f5))
theorem k117_open {w : World} {x : S117} {cs : List Value} (h : k117.K w x cs) : cs = [.string x.f0, .string x.f1, .string x.f2, .int .i64 x.f3, .int .i64 x.f4, .int .i64 x.f5] := by
 obtain ⟨_, _, rfl, rfl, ⟨_, _, rfl, rfl, ⟨_, _, rfl, rfl, ⟨_, _, rfl, rfl, ⟨_, _, rfl, rfl, rfl⟩⟩⟩⟩⟩ := h
 exact rfl
theorem k117_openM {w : World} {base : Nat} {ok : Nat → Prop} {x : S117} {cs : List Value} (h : k117.M w base ok x cs) : cs = [.string x.f0, .string x.f1, .string x.f2, .int .i64 x.f3, .int .i64 x.f4, .int .i64 x.f5] := by
 obtain ⟨_, _, rfl, rfl, ⟨_, _, rfl, rfl, ⟨_, _, rfl, rfl, ⟨_, _, rfl, rfl, ⟨_, _, rfl, rfl, rfl⟩⟩⟩⟩⟩ := h
 exact rfl
theorem k117_mkM (w : World) (base : Nat) (ok : Nat → Prop) (x : S117)  : k117.M w base ok x [.string x.f0, .string x.f1, .string x.f2, .int .i64 x.f3, .int .i64 x.f4, .int .i64 x.f5] := ⟨[.string x.f0], [.string x.f1, .string x.f2, .int .i64 x.f3, .int .i64 x.f4, .int .i64 x.f5], rfl, rfl, ⟨[.string x.f1], [.string x.f2, .int .i64 x.f3, .int .i64 x.f4, .int .i64 x.f5], rfl, rfl, ⟨[.string x.f2], [.int .i64 x.f3, .int .i64 x.f4, .int .i64 x.f5], rfl, rfl, ⟨[.int .i64 x.f3], [.int .i64 x.f4, .int .i64 x.f5], rfl, rfl, ⟨[.int .i64 x.f4], [.int .i64 x.f5], rfl, rfl, rfl⟩⟩⟩⟩⟩
def rd_T117 (xs : List S117) (i : Int) : S117 := xs.getD i.toNat z117
theorem at_T117 {w : World} {A : Option Addr} {n : Nat} {xs : List S117} (h : Kd.C k117 w A n xs) (i : Int) (h0 : 0 ≤ i) (h1 : i < n) : ∃ ad , A = some ad ∧ w.cell? (ad.add (i.toNat * 6)) = some (.string (rd_T117 xs i).f0) ∧ w.cell? ⟨(ad.add (i.toNat * 6)).block, (ad.add (i.toNat * 6)).off + 1, none⟩ = some (.string (rd_T117 xs i).f1) ∧ w.cell? ⟨(ad.add (i.toNat * 6)).block, (ad.add (i.toNat * 6)).off + 2, none⟩ = some (.string (rd_T117 xs i).f2) ∧ w.cell? ⟨(ad.add (i.toNat * 6)).block, (ad.add (i.toNat * 6)).off + 3, none⟩ = some (.int .i64 (rd_T117 xs i).f3) ∧ w.cell? ⟨(ad.add (i.toNat * 6)).block, (ad.add (i.toNat * 6)).off + 4, none⟩ = some (.int .i64 (rd_T117 xs i).f4) ∧ w.cell? ⟨(ad.add (i.toNat * 6)).block, (ad.add (i.toNat * 6)).off + 5, none⟩ = some (.int .i64 (rd_T117 xs i).f5) := by
 obtain ⟨ad, c, e, _, hK, hc0⟩ := Kd.C_get h z117 i h0 h1
 have hc : ∀ j u, c[j]? = some u → w.cell? (ad.add (i.toNat * 6 + j)) = some u := hc0
 obtain rfl := k117_open hK
 exact ⟨ad, e, hc 0 _ rfl, by rw [← add_field _ _ 1 (by omega)]; exact hc 1 _ rfl, by rw [← add_field _ _ 2 (by omega)]; exact hc 2 _ rfl, by rw [← add_field _ _ 3 (by omega)]; exact hc 3 _ rfl, by rw [← add_field _ _ 4 (by omega)]; exact hc 4 _ rfl, by rw [← add_field _ _ 5 (by omega)]; exact hc 5 _ rfl⟩

/-! #### struct type 229 -/
structure S229 where
 f0 : ByteArray
 f1 : ByteArray
 f2 : ByteArray
instance : DecidableEq S229 := fun a b => decidable_of_iff (a.f0 = b.f0 ∧ a.f1 = b.f1 ∧ a.f2 = b.f2) ⟨fun h => by cases a; cases b; simp_all, fun h => by subst h; simp⟩
noncomputable def kz226 : Kz S229 Bool := ⟨Try.prog, 229, (fun x : S229 => Value.agg #[.string x.f0, .string x.f1, .string x.f2]), Value.bool⟩
theorem kz226_K : Go.Maps.Keyed kz226.P kz226.kt := Go.Maps.Keyed.of_law (Go.deep_law_laid (P := Try.prog) (by kernel_rfl) (m := 9) (by decide) (of_decide_eq_true (by kernel_rfl)) (by kernel_rfl) (by kernel_rfl))
theorem kz226_inj : ∀ x y, kz226.enc x = kz226.enc y → x = y := by
 intro x y h
 cases x; cases y; simp [kz226] at h; simp_all
theorem kz226_t : kz226.P.underlying 226 = some (.map kz226.kt 4) := Try.underlying226
theorem kz226_z : ∀ w, (zeroValue 4).run kz226.P w = .ok (kz226.encv false) w := fun _ => by kernel_rfl
theorem kz226_key (x : S229) (h0 : x.f0.size ≤ 9223372036854775807) (h1 : x.f1.size ≤ 9223372036854775807) (h2 : x.f2.size ≤ 9223372036854775807) : ∃ kl, keyOf kz226.P kz226.kt (kz226.enc x) = some kl := by
 have hu := Try.underlying229
 have hs : ∃ m, Try.prog.types.size = m + 1 := ⟨Try.prog.types.size - 1, by have : 0 < Try.prog.types.size := of_decide_eq_true (by kernel_rfl); omega⟩
 have hk : Try.prog.keyType 229 = true := by kernel_rfl
 have hf : Value.formed Try.prog 229 (Value.agg #[.string x.f0, .string x.f1, .string x.f2]) = true := by simp [Value.formed, hu]; try kernel_rfl
 obtain ⟨m, hm⟩ := hs
 show ∃ kl, keyOf Try.prog 229 (Value.agg #[.string x.f0, .string x.f1, .string x.f2]) = some kl
 unfold keyOf
 simp only [hu]
 rw [if_pos (by simp [hk, hf]), hm]
 unfold Program.keyLits
 simp only [hu, Value.cells]
 have ck : Try.prog.cellsOf 229 = 3 := by kernel_rfl
 have c9 : Try.prog.cellsOf 9 = 1 := by kernel_rfl
 have u9 := Try.underlying9
 cases m with
 | zero => exact absurd hm (by intro h; have : 1 < Try.prog.types.size := of_decide_eq_true (by kernel_rfl); omega)
 | succ m => simp [Program.keyLits, hu, ck, maxLen, u9, c9, h0, h1, h2]
end Go.Proofs.Ytinibkdbfpafcaa.PFnMoved
