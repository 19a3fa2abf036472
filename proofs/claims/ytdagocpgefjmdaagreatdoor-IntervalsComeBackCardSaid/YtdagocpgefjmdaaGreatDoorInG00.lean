/-
  Functions given by hand: what they compute, out of the contracts of the shelf or of walks. Conditions: in each contract.
-/
import Derived.Test.YtdagocpgefjmdaaGreatDoorInU
import Derived.KernelRfl
import Derived.Test.YtdagocpgefjmdaaGreatDoorShelfB
import Derived.Lib.AtoiErrMem
import Derived.Lib.AppendIntMem
set_option linter.unusedVariables false
set_option linter.unusedSectionVars false
set_option linter.unusedSimpArgs false
open Go Go.M Go.Proofs Go.RowKit T
set_option linter.unusedVariables false
set_option maxRecDepth 100000
set_option maxHeartbeats 4000000
namespace Fn.f87
noncomputable def F (k : Nat) : Int → Option (ByteArray) := fun n => cond (decide (-9223372036854775808 ≤ n) && decide (n ≤ 9223372036854775807)) (some ⟨(Lib.itoa n).toArray⟩) none
def decA : List (D El) → List (Nat × MObj El) → Nat → Option (Int)
  | [(.int .i64 n)], [], 0 => some n
  | _, _, _ => none
def outOf (r : ByteArray) : Out El := ⟨(.str r), [], 0⟩
noncomputable def entry (k : Nat) : Entry El := ⟨[], 0, specOf decA (F k) outOf⟩
theorem ok (k : Nat) : FnOK Tryz.prog 87 0 (specOf decA (F k) outOf) :=
  fnOK_plain decA (F k) outOf (fun n => [.int .i64 n]) (fun r => .string r) (by intro ds objs next a h; unfold decA at h; split at h <;> cases h; exact ⟨rfl, rfl⟩)
    (fun r => ⟨rfl, rfl, fun w S β => by constructor⟩)
    (by
      rintro n y w hL h
      obtain ⟨hc, h1⟩ := cond_some h
      cases h1
      obtain ⟨g1, g2⟩ := Bool.and_eq_true_iff.1 hc
      refine (Tryz.strconv_Itoa n (of_decide_eq_true g1) (of_decide_eq_true g2) w hL).mono ?_
      rintro e w' ⟨rfl, k, os, rfl⟩
      exact ⟨rfl, Lib.below_grow _ _ (Nat.le_refl _) _ _⟩)
theorem enter : ∀ args w, (callFunc 87 args).run Tryz.prog w = .ok (.enter 87 args) w := fun _ _ => by kernel_rfl
end Fn.f87

namespace Fn.f124
noncomputable def F (k : Nat) : Int × Int → Option (Int × Int) := fun (x, y) => if 0 ≤ x then (if 0 ≤ y then (if x < 18446744073709551616 then (if y < 18446744073709551616 then some (x * y / 18446744073709551616, x * y % 18446744073709551616) else none) else none) else none) else none
def decA : List (D El) → List (Nat × MObj El) → Nat → Option (Int × Int)
  | [(.int .u64 x), (.int .u64 y)], [], 0 => some (x, y)
  | _, _, _ => none
def outOf (r : Int × Int) : Out El := ⟨(.tup [.int .u64 r.1, .int .u64 r.2]), [], 0⟩
noncomputable def entry (k : Nat) : Entry El := ⟨[], 0, specOf decA (F k) outOf⟩
theorem ok (k : Nat) : FnOK Tryz.prog 124 0 (specOf decA (F k) outOf) :=
  fnOK_plain decA (F k) outOf (fun (x, y) => [.int .u64 x, .int .u64 y]) (fun r => .tuple #[.int .u64 r.1, .int .u64 r.2]) (by intro ds objs next a h; unfold decA at h; split at h <;> cases h; exact ⟨rfl, rfl⟩)
    (fun r => ⟨rfl, rfl, fun w S β => .tup _ _ rfl (fun i v d p q => by rcases i with _ | _ | i <;> simp at p q <;> subst p <;> subst q <;> constructor)⟩)
    (by
      rintro ⟨x, y⟩ r w hL h
      unfold F at h
      dsimp only at h
      split at h
      · split at h
        · split at h
          · split at h
            · rename_i hx hy hx2 hy2
              cases h
              obtain ⟨m, rfl⟩ := Int.eq_ofNat_of_zero_le hx
              obtain ⟨q, rfl⟩ := Int.eq_ofNat_of_zero_le hy
              refine (Tryz.bits_Mul64 m q (by omega) (by omega) w).mono ?_
              rintro e w' ⟨rfl, rfl⟩
              refine ⟨?_, Below.refl _ _⟩
              simp
            · cases h
          · cases h
        · cases h
      · cases h)
theorem enter : ∀ args w, (callFunc 124 args).run Tryz.prog w = .ok (.enter 124 args) w := fun _ _ => by kernel_rfl
end Fn.f124

namespace Fn.f89
noncomputable def F (k : Nat) : ByteArray × ByteArray → Option (ByteArray × Bool) := fun (s, p) => some (⟨(Lib.trimPrefix s.data.toList p.data.toList).toArray⟩, Lib.hasPrefix s.data.toList p.data.toList)
def decA : List (D El) → List (Nat × MObj El) → Nat → Option (ByteArray × ByteArray)
  | [(.str s), (.str p)], [], 0 => some (s, p)
  | _, _, _ => none
def outOf (r : ByteArray × Bool) : Out El := ⟨(.tup [.str r.1, .bool r.2]), [], 0⟩
noncomputable def entry (k : Nat) : Entry El := ⟨[], 0, specOf decA (F k) outOf⟩
theorem ok (k : Nat) : FnOK Tryz.prog 89 0 (specOf decA (F k) outOf) :=
  fnOK_plain decA (F k) outOf (fun (s, p) => [.string s, .string p]) (fun r => .tuple #[.string r.1, .bool r.2]) (by intro ds objs next a h; unfold decA at h; split at h <;> cases h; exact ⟨rfl, rfl⟩)
    (fun r => ⟨rfl, rfl, fun w S β => .tup _ _ rfl (fun i v d p q => by rcases i with _ | _ | i <;> simp at p q <;> subst p <;> subst q <;> constructor)⟩)
    (by
      rintro ⟨s, p⟩ y w hL h
      cases h
      refine (Tryz.strings_CutPrefix s p w).mono ?_
      rintro e w' ⟨rfl, rfl⟩
      exact ⟨rfl, Below.refl _ _⟩)
theorem enter : ∀ args w, (callFunc 89 args).run Tryz.prog w = .ok (.enter 89 args) w := fun _ _ => by kernel_rfl
end Fn.f89

namespace Fn.f92
noncomputable def F (k : Nat) : ByteArray × ByteArray → Option (ByteArray) := fun (s, p) => cond (Nat.ble s.size 9223372036854775807 && (Nat.ble p.size 4294967280 && p.data.toList.all (fun b => decide (b.toNat < 128)))) (some ⟨(Lib.trimS s.data.toList p.data.toList).toArray⟩) none
def decA : List (D El) → List (Nat × MObj El) → Nat → Option (ByteArray × ByteArray)
  | [(.str s), (.str p)], [], 0 => some (s, p)
  | _, _, _ => none
def outOf (r : ByteArray) : Out El := ⟨(.str r), [], 0⟩
noncomputable def entry (k : Nat) : Entry El := ⟨[], 0, specOf decA (F k) outOf⟩
theorem ok (k : Nat) : FnOK Tryz.prog 92 0 (specOf decA (F k) outOf) :=
  fnOK_plain decA (F k) outOf (fun (s, p) => [.string s, .string p]) (fun r => .string r) (by intro ds objs next a h; unfold decA at h; split at h <;> cases h; exact ⟨rfl, rfl⟩)
    (fun r => ⟨rfl, rfl, fun w S β => by constructor⟩)
    (by
      rintro ⟨s, p⟩ y w hL h
      obtain ⟨hc, h1⟩ := cond_some h
      cases h1
      obtain ⟨g1, g2⟩ := Bool.and_eq_true_iff.1 hc
      obtain ⟨g2, g3⟩ := Bool.and_eq_true_iff.1 g2
      exact Go.Proofs.Any.strings_Trim_laid Tryz.lays160 (by kernel_rfl) s p w (Nat.le_of_ble_eq_true g1) (Nat.lt_succ_of_le (Nat.le_of_ble_eq_true g2)) (fun j b h => of_decide_eq_true (List.all_eq_true.1 g3 b (List.mem_of_getElem? h))))
theorem enter : ∀ args w, (callFunc 92 args).run Tryz.prog w = .ok (.enter 92 args) w := fun _ _ => by kernel_rfl
end Fn.f92

namespace Fn.f127
noncomputable def F (k : Nat) : ByteArray → Option (Int) := fun s => cond (Nat.ble s.size 18) (Lib.atoi s.data.toList) none
def decA : List (D El) → List (Nat × MObj El) → Nat → Option (ByteArray)
  | [(.str s)], [], 0 => some s
  | _, _, _ => none
def outOf (r : Int) : Out El := ⟨(.tup [.int .i64 r, .niliface]), [], 0⟩
noncomputable def entry (k : Nat) : Entry El := ⟨[], 0, specOf decA (F k) outOf⟩
theorem ok (k : Nat) : FnOK Tryz.prog 127 0 (specOf decA (F k) outOf) :=
  fnOK_plain decA (F k) outOf (fun s => [.string s]) (fun r => .tuple #[.int .i64 r, .nilIface]) (by intro ds objs next a h; unfold decA at h; split at h <;> cases h; exact ⟨rfl, rfl⟩)
    (fun r => ⟨rfl, rfl, fun w S β => .tup _ _ rfl (fun i v d p q => by rcases i with _ | _ | i <;> simp at p q <;> subst p <;> subst q <;> constructor)⟩)
    (by
      rintro s y w hL h
      obtain ⟨hc, h1⟩ := cond_some h
      refine (Tryz.strconv_Atoi s y (Nat.le_of_ble_eq_true hc) h1 w).mono ?_
      rintro e w' ⟨rfl, t, rfl⟩
      exact ⟨rfl, Lib.bytesWorld_below w 5 t⟩)
theorem enter : ∀ args w, (callFunc 127 args).run Tryz.prog w = .ok (.enter 127 args) w := fun _ _ => by kernel_rfl
end Fn.f127

