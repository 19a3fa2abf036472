/-
  Functions given by hand: what they compute, out of the contracts of the shelf or of walks. Conditions: in each contract.
-/
import Derived.Test.YtdagocpgefjmdaaDoorWaU
import Derived.KernelRfl
import Derived.Test.YtdagocpgefjmdaaDoorShelfB
import Derived.Lib.AtoiErrMem
import Derived.Lib.AppendIntMem
import Derived.Deep.Draws
import Derived.Deep.AppendLies
import Derived.Maps.AppendAt
import Derived.OwnWalk
import Derived.Laws.BytesArg
import Derived.Laws.OwnMore
import Derived.Deep.OwnRows
set_option linter.unusedVariables false
set_option linter.unusedSectionVars false
set_option linter.unusedSimpArgs false
open Go Go.M Go.Proofs Go.RowKit T
set_option linter.unusedVariables false
set_option maxRecDepth 100000
set_option maxHeartbeats 4000000
namespace Fn.f129
noncomputable def F (k : Nat) : ByteArray × Int → Option (Int) := fun (s, c) => some (Lib.indexByte s.data.toList c.toNat.toUInt8)
def decA : List (D El) → List (Nat × MObj El) → Nat → Option (ByteArray × Int)
  | [(.str s), (.int .u8 c)], [], 0 => some (s, c)
  | _, _, _ => none
def outOf (r : Int) : Out El := ⟨(.int .i64 r), [], 0⟩
noncomputable def entry (k : Nat) : Entry El := ⟨[], 0, specOf decA (F k) outOf⟩
theorem ok (k : Nat) : FnOK Tryd.prog 129 0 (specOf decA (F k) outOf) :=
  fnOK_plain decA (F k) outOf (fun (s, c) => [.string s, .int .u8 c]) (fun r => .int .i64 r) (by intro ds objs next a h; unfold decA at h; split at h <;> cases h; exact ⟨rfl, rfl⟩)
    (fun r => ⟨rfl, rfl, fun w S β => by constructor⟩)
    (by
      rintro ⟨s, c⟩ y w hL h
      cases h
      refine (Tryd.strings_IndexByte s c w).mono ?_
      rintro e w' ⟨rfl, rfl⟩
      exact ⟨rfl, Below.refl _ _⟩)
theorem enter : ∀ args w, (callFunc 129 args).run Tryd.prog w = .ok (.enter 129 args) w := fun _ _ => by kernel_rfl
end Fn.f129

namespace Fn.f140
noncomputable def F (k : Nat) : ByteArray × ByteArray → Option (ByteArray) := fun (s, p) => cond (Nat.ble s.size 9223372036854775807 && (Nat.ble p.size 4294967280 && p.data.toList.all (fun b => decide (b.toNat < 128)))) (some ⟨(Lib.trimS s.data.toList p.data.toList).toArray⟩) none
def decA : List (D El) → List (Nat × MObj El) → Nat → Option (ByteArray × ByteArray)
  | [(.str s), (.str p)], [], 0 => some (s, p)
  | _, _, _ => none
def outOf (r : ByteArray) : Out El := ⟨(.str r), [], 0⟩
noncomputable def entry (k : Nat) : Entry El := ⟨[], 0, specOf decA (F k) outOf⟩
theorem ok (k : Nat) : FnOK Tryd.prog 140 0 (specOf decA (F k) outOf) :=
  fnOK_plain decA (F k) outOf (fun (s, p) => [.string s, .string p]) (fun r => .string r) (by intro ds objs next a h; unfold decA at h; split at h <;> cases h; exact ⟨rfl, rfl⟩)
    (fun r => ⟨rfl, rfl, fun w S β => by constructor⟩)
    (by
      rintro ⟨s, p⟩ y w hL h
      obtain ⟨hc, h1⟩ := cond_some h
      cases h1
      obtain ⟨g1, g2⟩ := Bool.and_eq_true_iff.1 hc
      obtain ⟨g2, g3⟩ := Bool.and_eq_true_iff.1 g2
      exact Go.Proofs.Any.strings_Trim_laid Tryd.lays160 (by kernel_rfl) s p w (Nat.le_of_ble_eq_true g1) (Nat.lt_succ_of_le (Nat.le_of_ble_eq_true g2)) (fun j b h => of_decide_eq_true (List.all_eq_true.1 g3 b (List.mem_of_getElem? h))))
theorem enter : ∀ args w, (callFunc 140 args).run Tryd.prog w = .ok (.enter 140 args) w := fun _ _ => by kernel_rfl
end Fn.f140

namespace Fn.f92
noncomputable def F (k : Nat) : ByteArray × ByteArray → Option (Int) := fun (a, b) => some (Lib.compareBytes a.data.toList b.data.toList)
def decA : List (D El) → List (Nat × MObj El) → Nat → Option (ByteArray × ByteArray)
  | [(.str a), (.str b)], [], 0 => some (a, b)
  | _, _, _ => none
def outOf (r : Int) : Out El := ⟨(.int .i64 r), [], 0⟩
noncomputable def entry (k : Nat) : Entry El := ⟨[], 0, specOf decA (F k) outOf⟩
theorem ok (k : Nat) : FnOK Tryd.prog 92 0 (specOf decA (F k) outOf) :=
  fnOK_plain decA (F k) outOf (fun (a, b) => [.string a, .string b]) (fun r => .int .i64 r) (by intro ds objs next a h; unfold decA at h; split at h <;> cases h; exact ⟨rfl, rfl⟩)
    (fun r => ⟨rfl, rfl, fun w S β => by constructor⟩)
    (by
      rintro ⟨a, b⟩ y w hL h
      cases h
      refine (Tryd.strings_Compare a b w).mono ?_
      rintro e w' ⟨rfl, rfl⟩
      exact ⟨rfl, Below.refl _ _⟩)
theorem enter : ∀ args w, (callFunc 92 args).run Tryd.prog w = .ok (.enter 92 args) w := fun _ _ => by kernel_rfl
end Fn.f92

namespace Fn.f99
noncomputable def F (k : Nat) : Int → Option (ByteArray) := fun n => cond (decide (-9223372036854775808 ≤ n) && decide (n ≤ 9223372036854775807)) (some ⟨(Lib.itoa n).toArray⟩) none
def decA : List (D El) → List (Nat × MObj El) → Nat → Option (Int)
  | [(.int .i64 n)], [], 0 => some n
  | _, _, _ => none
def outOf (r : ByteArray) : Out El := ⟨(.str r), [], 0⟩
noncomputable def entry (k : Nat) : Entry El := ⟨[], 0, specOf decA (F k) outOf⟩
theorem ok (k : Nat) : FnOK Tryd.prog 99 0 (specOf decA (F k) outOf) :=
  fnOK_plain decA (F k) outOf (fun n => [.int .i64 n]) (fun r => .string r) (by intro ds objs next a h; unfold decA at h; split at h <;> cases h; exact ⟨rfl, rfl⟩)
    (fun r => ⟨rfl, rfl, fun w S β => by constructor⟩)
    (by
      rintro n y w hL h
      obtain ⟨hc, h1⟩ := cond_some h
      cases h1
      obtain ⟨g1, g2⟩ := Bool.and_eq_true_iff.1 hc
      refine (Tryd.strconv_Itoa n (of_decide_eq_true g1) (of_decide_eq_true g2) w hL).mono ?_
      rintro e w' ⟨rfl, k, os, rfl⟩
      exact ⟨rfl, Lib.below_grow _ _ (Nat.le_refl _) _ _⟩)
theorem enter : ∀ args w, (callFunc 99 args).run Tryd.prog w = .ok (.enter 99 args) w := fun _ _ => by kernel_rfl
end Fn.f99

namespace Fn.f95

def smallL : List UInt8 := [97, 98, 99, 100, 101, 102, 103, 104, 105, 106, 107, 108, 109, 110, 111, 112, 113, 114, 115, 116, 117, 118, 119, 120, 121, 122]
def cutL : List UInt8 := smallL ++ [48, 49, 50, 51, 52, 53, 54, 55, 56, 57, 45, 95]
theorem cut_ascii : ∀ b ∈ cutL, b.toNat < 128 := by decide
theorem trim_any (s : ByteArray) (w : World) (hs : s.size ≤ 9223372036854775807) :
    Calls Tryd.prog 140 #[.string s, .string ⟨cutL.toArray⟩] w fun e w' => e = .returned (.string ⟨(Lib.trimS s.data.toList cutL).toArray⟩) ∧ Below w.heap.size w w' :=
  Go.Proofs.Any.strings_Trim_laid Tryd.lays160 (by kernel_rfl) s ⟨cutL.toArray⟩ w hs (by decide) (fun j b h => cut_ascii b (List.mem_of_getElem? h))
def headB (s : ByteArray) : UInt8 := s.data.toList.headD 0
def keyB (s : ByteArray) : Bool := if s.toList = [] then false else if (s.size : Int) ≤ 40 then (if 0 ≤ Lib.indexByte smallL (headB s) then (!s.toList.isEmpty && (Lib.trimS s.data.toList cutL).isEmpty) else false) else false
theorem headB_get (s : ByteArray) (h : 0 < s.size) : s[0] = headB s := by
  unfold headB
  have : s.data.toList ≠ [] := by
    intro e
    have : s.data.toList.length = 0 := by rw [e]; rfl
    simp at this
    simp [ByteArray.size, this] at h
  rcases s with ⟨⟨l⟩⟩
  cases l with
  | nil => exact absurd rfl this
  | cons a l => rfl
theorem nil_size (s : ByteArray) (h : ¬ 0 < s.size) : s.toList = [] := by
  obtain ⟨⟨l⟩⟩ := s
  cases l with
  | nil => simp
  | cons a l => exact absurd (by simp [ByteArray.size]) h
set_option maxRecDepth 100000 in
theorem key_walk (s : ByteArray) (w : World) (hs : s.size ≤ 9223372036854775807) : Calls Tryd.prog 95 #[.string s] w fun e w' => e = .returned (.bool (keyB s)) ∧ Below w.heap.size w w' := by
  go_enter Tryd.func95, Tryd.ntmps95
  go_wp2_with (first | (go_at_call 129; refine (Tryd.strings_IndexByte ⟨smallL.toArray⟩ _ _).mono ?_; rintro e w' ⟨rfl, rfl⟩) | (go_at_call 140; refine (trim_any s _ hs).mono ?_; rintro e w' ⟨rfl, hb⟩))
  all_goals (try go_ret)
  · exact ⟨by unfold keyB; rw [if_pos (by assumption)]; rfl, Below.refl _ _⟩
  · rename_i h1 h2 h3 _ h4
    rw [headB_get s h3] at h4
    exact ⟨by unfold keyB; rw [if_neg h1, if_pos h2, if_pos h4]; rfl, hb⟩
  · rename_i h1 h2 h3 h4
    rw [headB_get s h3] at h4
    exact ⟨by unfold keyB; rw [if_neg h1, if_pos h2, if_neg (by omega)]; rfl, Below.refl _ _⟩
  · rename_i h1 h2 _ _ h3
    exact absurd (nil_size s h3) h1
  · rename_i h1 h2
    exact ⟨by unfold keyB; rw [if_neg h1, if_neg (by omega)]; rfl, Below.refl _ _⟩
def kit_IsKey.f (a0 : ByteArray) : Option Bool := if a0.size ≤ 9223372036854775807 then some (keyB a0) else none
theorem kit_IsKey.calls (a0 : ByteArray) (r : Bool) (w : World) (h : kit_IsKey.f a0 = some r) : Calls Tryd.prog 95 #[.string a0] w fun e w' => e = .returned (.bool r) ∧ Below w.heap.size w w' := by
  unfold kit_IsKey.f at h
  split at h
  · obtain rfl := Option.some.inj h
    exact key_walk a0 w (by assumption)
  · cases h

noncomputable def F (k : Nat) : ByteArray → Option Bool := kit_IsKey.f
def decA : List (D El) → List (Nat × MObj El) → Nat → Option ByteArray
  | [.str s], [], 0 => some s
  | _, _, _ => none
def outOf (b : Bool) : Out El := ⟨.bool b, [], 0⟩
noncomputable def entry (k : Nat) : Entry El := ⟨[.any], 0, specOf decA (F k) outOf⟩
theorem ok (k : Nat) : FnOK Tryd.prog 95 0 (specOf decA (F k) outOf) :=
  fnOK_plain decA (F k) outOf (fun s => [.string s]) (fun b => .bool b) (by intro ds objs next a h; unfold decA at h; split at h <;> cases h; exact ⟨rfl, rfl⟩) (fun y => ⟨rfl, rfl, fun w S β => .bool y⟩) (fun a y w _ h => kit_IsKey.calls a y w h)
theorem enter : ∀ args w, (callFunc 95 args).run Tryd.prog w = .ok (.enter 95 args) w := fun _ _ => by kernel_rfl
end Fn.f95

