/- Lines by a program (a changed copy of the kit's print: this repo's wip/tools): Go functions as Lean functions, and proofs that the calls answer so. -/
import Derived.Test.YtkkdmmefnicmaaaProg
import Derived.Below
import Derived.Deep.Draws
import Derived.Deep.AppendLies
import Derived.Maps.AppendAt
import Derived.OwnWalk
import Derived.Laws.BytesArg
import Derived.Laws.MakeOwn
import Derived.Laws.OwnMore
import Derived.Deep.OwnRows
import Derived.Tactics
import Derived.Lib.ConvBytes
import Derived.Laws.Slices
import Derived.WalkKit
import Derived.KernelRfl
import Derived.RowKit3
import Derived.Deep.LoopGhost
import Derived.Deep.QuietTactic
import Derived.BigQuiet
import Derived.WideLaws
import Derived.Deep.DeepCutAuto
import Derived.Deep.CutBlock
import Derived.Deep.RegionHeld3
import Derived.Laws.Rows
import Derived.Lib.AppendStr
import Derived.ArgAppend
import Derived.Laws.IdiomCopy
import Derived.OrdersHeld
import Derived.Laws.BitsLemmas
import Derived.RowKit
import Derived.Test.YtkkdmmefnicmaaaZWWords
import Derived.Test.YtkkdmmefnicmaaaZWLast
import Derived.Test.YtkkdmmefnicmaaaZWTab
import Derived.Test.YtkkdmmefnicmaaaZWFour
import Derived.Test.YtkkdmmefnicmaaaZWQPut
import Derived.Test.YtkkdmmefnicmaaaZWApart
import Derived.Test.YtkkdmmefnicmaaaZWArr
import Derived.Test.YtkkdmmefnicmaaaZWZeros
import Derived.Test.YtkkdmmefnicmaaaZWFoot
import Derived.Test.YtkkdmmefnicmaaaZWKept
import Derived.Test.YtkkdmmefnicmaaaZWShare
import Derived.Test.YtkkdmmefnicmaaaZWN
import Derived.Test.YtkkdmmefnicmaaaZWFootNe
import Derived.Test.YtkkdmmefnicmaaaZWAt
import Derived.Test.YtkkdmmefnicmaaaZWEqStruct
import Derived.Test.YtkkdmmefnicmaaaZWRepsOne
import Derived.Test.YtkkdmmefnicmaaaZWInv
import Derived.Test.YtkkdmmefnicmaaaZWInvWords
import Derived.Test.YtkkdmmefnicmaaaZWGuard
import Derived.Test.YtkkdmmefnicmaaaZWNEv
import Derived.Test.YtkkdmmefnicmaaaZWMore
import Derived.Test.YtkkdmmefnicmaaaZMap
import Derived.Test.YtkkdmmefnicmaaaZFn
import Derived.Test.YtkkdmmefnicmaaaZMark
namespace Go.Proofs.Ytkkdmmefnicmaaa.PFnNoGap
open Go.RowKit Go.Proofs.YtkkdmmefnicmaaaW.PrintWords Go.Proofs.YtkkdmmefnicmaaaW.PrintLast Go.Proofs.YtkkdmmefnicmaaaW.PrintMore
/-- Closing blocks told once. -/
theorem z0_0 {P : Prop} (h : P:=by rw [← add_field _ _ 1 (by omega)];exact hc 1 _ rfl) : P:=h
attribute [local go_sem] max2_int min2_int max_two min_two max_three min_three max_four min_four   -- for this text's walks alone
set_option linter.unusedVariables false
set_option linter.unusedSimpArgs false



def errW : Option Int → Value
 | none => .nilIface
 | some c => .iface 0 (.int .i64 c)
theorem errW_none : errW none = .nilIface:=rfl
theorem errW_some (c : Int) : errW (some c) = .iface 0 (.int .i64 c) := rfl

theorem info76 : (Try.prog.info? 76).map (fun i => (i.zero,i.size,i.bytes)) = some (some (.agg #[(.int .i64 0),(.int .i64 0),(.int .i64 0),(.bool false)]),4,32) := by kernel_rfl
theorem info156 : (Try.prog.info? 156).map (fun i => (i.zero,i.size,i.bytes)) = some (some (.agg #[(.string ⟨#[]⟩),(.int .i64 0)]),2,24) := by kernel_rfl
-- the values' own types
/-! #### struct type 156 -/
structure S156 where
 f0 : ByteArray
 f1 : Int
def z156 : S156:=⟨(⟨#[]⟩ : ByteArray),(0 : Int)⟩
def k156 : Kd S156:=Kd.iso (Kd.pair Kd.string (Kd.int .i64)) (fun x : S156 => (x.f0,x.f1))
theorem k156_open {w : World} {x : S156} {cs : List Value} (h : k156.K w x cs) : cs = [.string x.f0,.int .i64 x.f1] := by
 obtain ⟨_,_,rfl,rfl,rfl⟩ := h;exact rfl
theorem k156_openM {w : World} {base : Nat} {ok : Nat → Prop} {x : S156} {cs : List Value} (h : k156.M w base ok x cs) : cs = [.string x.f0,.int .i64 x.f1] := by
 obtain ⟨_,_,rfl,rfl,rfl⟩ := h;exact rfl
theorem k156_mkM (w : World) (base : Nat) (ok : Nat → Prop) (x : S156)  : k156.M w base ok x [.string x.f0,.int .i64 x.f1] := ⟨[.string x.f0],[.int .i64 x.f1],rfl,rfl,rfl⟩
def rd_T156 (xs : List S156) (i : Int) : S156:=xs.getD i.toNat z156
theorem at_T156 {w : World} {A : Option Addr} {n : Nat} {xs : List S156} (h : Kd.C k156 w A n xs) (i : Int) (h0 : 0 ≤ i) (h1 : i < n) : ∃ ad , A = some ad ∧ w.cell? (ad.add (i.toNat * 2)) = some (.string (rd_T156 xs i).f0) ∧ w.cell? ⟨(ad.add (i.toNat * 2)).block,(ad.add (i.toNat * 2)).off + 1,none⟩ = some (.int .i64 (rd_T156 xs i).f1) := by
 obtain ⟨ad,c,e,_,hK,hc0⟩ := Kd.C_get h z156 i h0 h1;(have hc : ∀ j u,c[j]? = some u → w.cell? (ad.add (i.toNat * 2 + j)) = some u:=hc0);obtain rfl:=k156_open hK;exact ⟨ad,e,hc 0 _ rfl,z0_0⟩

/-! #### struct type 76 -/
structure S76 where
 f0 : Int
 f1 : Int
 f2 : Int
 f3 : Bool
def z76 : S76:=⟨(0 : Int),(0 : Int),(0 : Int),false⟩
def k76 : Kd S76:=Kd.iso (Kd.pair (Kd.int .i64) (Kd.pair (Kd.int .i64) (Kd.pair (Kd.int .i64) Kd.bool))) (fun x : S76 => (x.f0,x.f1,x.f2,x.f3))
theorem k76_open {w : World} {x : S76} {cs : List Value} (h : k76.K w x cs) : cs = [.int .i64 x.f0,.int .i64 x.f1,.int .i64 x.f2,.bool x.f3] := by
 obtain ⟨_,_,rfl,rfl,⟨_,_,rfl,rfl,⟨_,_,rfl,rfl,rfl⟩⟩⟩ := h;exact rfl
theorem k76_openM {w : World} {base : Nat} {ok : Nat → Prop} {x : S76} {cs : List Value} (h : k76.M w base ok x cs) : cs = [.int .i64 x.f0,.int .i64 x.f1,.int .i64 x.f2,.bool x.f3] := by
 obtain ⟨_,_,rfl,rfl,⟨_,_,rfl,rfl,⟨_,_,rfl,rfl,rfl⟩⟩⟩ := h;exact rfl
theorem k76_mkM (w : World) (base : Nat) (ok : Nat → Prop) (x : S76)  : k76.M w base ok x [.int .i64 x.f0,.int .i64 x.f1,.int .i64 x.f2,.bool x.f3] := ⟨[.int .i64 x.f0],[.int .i64 x.f1,.int .i64 x.f2,.bool x.f3],rfl,rfl,⟨[.int .i64 x.f1],[.int .i64 x.f2,.bool x.f3],rfl,rfl,⟨[.int .i64 x.f2],[.bool x.f3],rfl,rfl,rfl⟩⟩⟩
def rd_T76 (xs : List S76) (i : Int) : S76:=xs.getD i.toNat z76
theorem at_T76 {w : World} {A : Option Addr} {n : Nat} {xs : List S76} (h : Kd.C k76 w A n xs) (i : Int) (h0 : 0 ≤ i) (h1 : i < n) : ∃ ad , A = some ad ∧ w.cell? (ad.add (i.toNat * 4)) = some (.int .i64 (rd_T76 xs i).f0) ∧ w.cell? ⟨(ad.add (i.toNat * 4)).block,(ad.add (i.toNat * 4)).off + 1,none⟩ = some (.int .i64 (rd_T76 xs i).f1) ∧ w.cell? ⟨(ad.add (i.toNat * 4)).block,(ad.add (i.toNat * 4)).off + 2,none⟩ = some (.int .i64 (rd_T76 xs i).f2) ∧ w.cell? ⟨(ad.add (i.toNat * 4)).block,(ad.add (i.toNat * 4)).off + 3,none⟩ = some (.bool (rd_T76 xs i).f3) := by
 obtain ⟨ad,c,e,_,hK,hc0⟩ := Kd.C_get h z76 i h0 h1;(have hc : ∀ j u,c[j]? = some u → w.cell? (ad.add (i.toNat * 4 + j)) = some u:=hc0);obtain rfl:=k76_open hK;exact ⟨ad,e,hc 0 _ rfl,z0_0,by rw [← add_field _ _ 2 (by omega)];exact hc 2 _ rfl,by rw [← add_field _ _ 3 (by omega)];exact hc 3 _ rfl⟩

/-! #### struct type 71 -/
structure S71 where
 f0 : (List S156)
 f1 : (List S76)
noncomputable def kz115 : Kz ByteArray Bool:=⟨Try.prog,9,Value.string,Value.bool⟩
theorem kz115_K : Go.Maps.Keyed kz115.P kz115.kt:=Go.Maps.string_keyed Try.underlying9
theorem kz115_inj : ∀ x y,kz115.enc x = kz115.enc y → x = y:=by
 intro x y h;injection h
theorem kz115_t : kz115.P.underlying 115 = some (.map kz115.kt 4) := Try.underlying115
theorem kz115_z : ∀ w,(zeroValue 4).run kz115.P w = .ok (kz115.encv false) w:=fun _ => by kernel_rfl
theorem kz115_key (x : ByteArray) (h : x.size ≤ 9223372036854775807) : ∃ kl,keyOf kz115.P kz115.kt (kz115.enc x) = some kl:=⟨_,Go.WideMaps.keyOf_string_mk Try.underlying9 h⟩
noncomputable def kz157 : Kz Int Int:=⟨Try.prog,3,(Value.int .i64),(Value.int .i64)⟩
theorem kz157_K : Go.Maps.Keyed kz157.P kz157.kt:=Go.Maps.int_keyed Try.underlying3
theorem kz157_inj : ∀ x y,kz157.enc x = kz157.enc y → x = y:=by
 intro x y h;injection h
theorem kz157_t : kz157.P.underlying 157 = some (.map kz157.kt 3) := Try.underlying157
theorem kz157_z : ∀ w,(zeroValue 3).run kz157.P w = .ok (kz157.encv 0) w:=fun _ => by kernel_rfl
theorem kz157_key (x : Int) (h0 : (-9223372036854775808) ≤ x) (h1 : x ≤ 9223372036854775807) : ∃ kl,keyOf kz157.P kz157.kt (kz157.enc x) = some kl:=⟨_,Go.Maps.keyOf_int_mk Try.underlying3 (Go.WalkArith.wf_i64 ⟨h0,h1⟩)⟩
end Go.Proofs.Ytkkdmmefnicmaaa.PFnNoGap
