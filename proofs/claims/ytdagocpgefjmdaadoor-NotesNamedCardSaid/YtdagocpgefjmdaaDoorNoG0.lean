/-
  Library functions: what they compute, out of the contracts of the shelf. Conditions: in each contract.
-/
import Derived.Test.YtdagocpgefjmdaaDoorNoU
import Derived.KernelRfl
import Derived.Test.YtdagocpgefjmdaaDoorShelfB
import Derived.Lib.AtoiErrMem
import Derived.Lib.AppendIntMem
set_option linter.unusedVariables false
set_option linter.unusedSectionVars false
set_option linter.unusedSimpArgs false
open Go Go.M Go.Proofs Go.RowKit T
set_option linter.unusedVariables false
set_option maxRecDepth 100000
namespace Fn.f99
noncomputable def F (k : Nat) : Int → Option (ByteArray) := fun n => cond (decide (-9223372036854775808 ≤ n) && decide (n ≤ 9223372036854775807)) (some ⟨(Lib.itoa n).toArray⟩) none
def decA : List (D El) → List (Nat × MObj El) → Nat → Option (Int)
  | [(.int .i64 n)], [], 0 => some n
  | _, _, _ => none
def outOf (r : ByteArray) : Out El := ⟨(.str r), [], 0⟩
noncomputable def entry (k : Nat) : Entry El := ⟨[], 0, specOf decA (F k) outOf⟩
theorem ok (k : Nat) : FnOK Tryd.prog 99 0 (specOf decA (F k) outOf) :=
  fnOK_plain decA (F k) outOf (fun n => [.int .i64 n]) (fun r => .string r) (by intro ds objs next a h; unfold decA at h; split at h <;> cases h; exact ⟨rfl, rfl⟩)
    (fun r => ⟨rfl, rfl, fun w S β => by constructor⟩)
    (by
      rintro n y w hL h
      obtain ⟨hc, h1⟩ := cond_some h
      cases h1
      obtain ⟨g1, g2⟩ := Bool.and_eq_true_iff.1 hc
      refine (Tryd.strconv_Itoa n (of_decide_eq_true g1) (of_decide_eq_true g2) w hL.1).mono ?_
      rintro e w' ⟨rfl, k, os, rfl⟩
      exact ⟨rfl, Lib.below_grow _ _ (Nat.le_refl _) _ _⟩)
theorem enter : ∀ args w, (callFunc 99 args).run Tryd.prog w = .ok (.enter 99 args) w := fun _ _ => by kernel_rfl
end Fn.f99

namespace Fn.f125
noncomputable def F (k : Nat) : ByteArray → Option (ByteArray) := fun s => cond (Nat.ble s.size 9223372036854775807 && s.data.toList.all (fun b => decide (b.toNat < 128))) (some ⟨(Lib.trimSpace s.data.toList).toArray⟩) none
def decA : List (D El) → List (Nat × MObj El) → Nat → Option (ByteArray)
  | [(.str s)], [], 0 => some s
  | _, _, _ => none
def outOf (r : ByteArray) : Out El := ⟨(.str r), [], 0⟩
noncomputable def entry (k : Nat) : Entry El := ⟨[], 0, specOf decA (F k) outOf⟩
theorem ok (k : Nat) : FnOK Tryd.prog 125 0 (specOf decA (F k) outOf) :=
  fnOK_plain decA (F k) outOf (fun s => [.string s]) (fun r => .string r) (by intro ds objs next a h; unfold decA at h; split at h <;> cases h; exact ⟨rfl, rfl⟩)
    (fun r => ⟨rfl, rfl, fun w S β => by constructor⟩)
    (by
      rintro s y w hL h
      obtain ⟨hc, h1⟩ := cond_some h
      cases h1
      obtain ⟨g1, g2⟩ := Bool.and_eq_true_iff.1 hc
      refine (Tryd.strings_TrimSpace s w (Nat.le_of_ble_eq_true g1) (fun j b h => of_decide_eq_true (List.all_eq_true.1 g2 b (List.mem_of_getElem? h))) hL.2).mono ?_
      rintro e w' ⟨rfl, rfl⟩
      exact ⟨rfl, Lib.bytesWorld_below w _ s⟩)
theorem enter : ∀ args w, (callFunc 125 args).run Tryd.prog w = .ok (.enter 125 args) w := fun _ _ => by kernel_rfl
end Fn.f125

namespace Fn.f127
noncomputable def F (k : Nat) : ByteArray × ByteArray → Option (ByteArray × Bool) := fun (s, p) => some (⟨(Lib.trimPrefix s.data.toList p.data.toList).toArray⟩, Lib.hasPrefix s.data.toList p.data.toList)
def decA : List (D El) → List (Nat × MObj El) → Nat → Option (ByteArray × ByteArray)
  | [(.str s), (.str p)], [], 0 => some (s, p)
  | _, _, _ => none
def outOf (r : ByteArray × Bool) : Out El := ⟨(.tup [.str r.1, .bool r.2]), [], 0⟩
noncomputable def entry (k : Nat) : Entry El := ⟨[], 0, specOf decA (F k) outOf⟩
theorem ok (k : Nat) : FnOK Tryd.prog 127 0 (specOf decA (F k) outOf) :=
  fnOK_plain decA (F k) outOf (fun (s, p) => [.string s, .string p]) (fun r => .tuple #[.string r.1, .bool r.2]) (by intro ds objs next a h; unfold decA at h; split at h <;> cases h; exact ⟨rfl, rfl⟩)
    (fun r => ⟨rfl, rfl, fun w S β => .tup _ _ rfl (fun i v d p q => by rcases i with _ | _ | i <;> simp at p q <;> subst p <;> subst q <;> constructor)⟩)
    (by
      rintro ⟨s, p⟩ y w hL h
      cases h
      refine (Tryd.strings_CutPrefix s p w).mono ?_
      rintro e w' ⟨rfl, rfl⟩
      exact ⟨rfl, Below.refl _ _⟩)
theorem enter : ∀ args w, (callFunc 127 args).run Tryd.prog w = .ok (.enter 127 args) w := fun _ _ => by kernel_rfl
end Fn.f127

namespace Fn.f140
noncomputable def F (k : Nat) : ByteArray × ByteArray → Option (ByteArray) := fun (s, p) => cond (Nat.ble s.size 9223372036854775807 && (Nat.ble p.size 4294967280 && p.data.toList.all (fun b => decide (b.toNat < 128)))) (some ⟨(Lib.trimS s.data.toList p.data.toList).toArray⟩) none
def decA : List (D El) → List (Nat × MObj El) → Nat → Option (ByteArray × ByteArray)
  | [(.str s), (.str p)], [], 0 => some (s, p)
  | _, _, _ => none
def outOf (r : ByteArray) : Out El := ⟨(.str r), [], 0⟩
noncomputable def entry (k : Nat) : Entry El := ⟨[], 0, specOf decA (F k) outOf⟩
theorem ok (k : Nat) : FnOK Tryd.prog 140 0 (specOf decA (F k) outOf) :=
  fnOK_plain decA (F k) outOf (fun (s, p) => [.string s, .string p]) (fun r => .string r) (by intro ds objs next a h; unfold decA at h; split at h <;> cases h; exact ⟨rfl, rfl⟩)
    (fun r => ⟨rfl, rfl, fun w S β => by constructor⟩)
    (by
      rintro ⟨s, p⟩ y w hL h
      obtain ⟨hc, h1⟩ := cond_some h
      cases h1
      obtain ⟨g1, g2⟩ := Bool.and_eq_true_iff.1 hc
      obtain ⟨g2, g3⟩ := Bool.and_eq_true_iff.1 g2
      exact Go.Proofs.Any.strings_Trim_laid Tryd.lays160 (by kernel_rfl) s p w (Nat.le_of_ble_eq_true g1) (Nat.lt_succ_of_le (Nat.le_of_ble_eq_true g2)) (fun j b h => of_decide_eq_true (List.all_eq_true.1 g3 b (List.mem_of_getElem? h))))
theorem enter : ∀ args w, (callFunc 140 args).run Tryd.prog w = .ok (.enter 140 args) w := fun _ _ => by kernel_rfl
end Fn.f140

namespace Fn.f162
noncomputable def F (k : Nat) : ByteArray → Option (Int) := fun s => cond (Nat.ble s.size 18) (Lib.atoi s.data.toList) none
def decA : List (D El) → List (Nat × MObj El) → Nat → Option (ByteArray)
  | [(.str s)], [], 0 => some s
  | _, _, _ => none
def outOf (r : Int) : Out El := ⟨(.tup [.int .i64 r, .niliface]), [], 0⟩
noncomputable def entry (k : Nat) : Entry El := ⟨[], 0, specOf decA (F k) outOf⟩
theorem ok (k : Nat) : FnOK Tryd.prog 162 0 (specOf decA (F k) outOf) :=
  fnOK_plain decA (F k) outOf (fun s => [.string s]) (fun r => .tuple #[.int .i64 r, .nilIface]) (by intro ds objs next a h; unfold decA at h; split at h <;> cases h; exact ⟨rfl, rfl⟩)
    (fun r => ⟨rfl, rfl, fun w S β => .tup _ _ rfl (fun i v d p q => by rcases i with _ | _ | i <;> simp at p q <;> subst p <;> subst q <;> constructor)⟩)
    (by
      rintro s y w hL h
      obtain ⟨hc, h1⟩ := cond_some h
      refine (Tryd.strconv_Atoi s y (Nat.le_of_ble_eq_true hc) h1 w).mono ?_
      rintro e w' ⟨rfl, t, rfl⟩
      exact ⟨rfl, Lib.bytesWorld_below w 5 t⟩)
theorem enter : ∀ args w, (callFunc 162 args).run Tryd.prog w = .ok (.enter 162 args) w := fun _ _ => by kernel_rfl
end Fn.f162

namespace Fn.f129
noncomputable def F (k : Nat) : ByteArray × Int → Option (Int) := fun (s, c) => some (Lib.indexByte s.data.toList c.toNat.toUInt8)
def decA : List (D El) → List (Nat × MObj El) → Nat → Option (ByteArray × Int)
  | [(.str s), (.int .u8 c)], [], 0 => some (s, c)
  | _, _, _ => none
def outOf (r : Int) : Out El := ⟨(.int .i64 r), [], 0⟩
noncomputable def entry (k : Nat) : Entry El := ⟨[], 0, specOf decA (F k) outOf⟩
theorem ok (k : Nat) : FnOK Tryd.prog 129 0 (specOf decA (F k) outOf) :=
  fnOK_plain decA (F k) outOf (fun (s, c) => [.string s, .int .u8 c]) (fun r => .int .i64 r) (by intro ds objs next a h; unfold decA at h; split at h <;> cases h; exact ⟨rfl, rfl⟩)
    (fun r => ⟨rfl, rfl, fun w S β => by constructor⟩)
    (by
      rintro ⟨s, c⟩ y w hL h
      cases h
      refine (Tryd.strings_IndexByte s c w).mono ?_
      rintro e w' ⟨rfl, rfl⟩
      exact ⟨rfl, Below.refl _ _⟩)
theorem enter : ∀ args w, (callFunc 129 args).run Tryd.prog w = .ok (.enter 129 args) w := fun _ _ => by kernel_rfl
end Fn.f129

