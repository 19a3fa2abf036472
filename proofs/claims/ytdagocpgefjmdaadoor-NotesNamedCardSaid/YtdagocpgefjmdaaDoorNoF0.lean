/-
  What each function of the program that the law reaches computes (F), and that it does (ok). No condition: F is none where nothing is said.
-/
import Derived.Test.YtdagocpgefjmdaaDoorNoG0
import Derived.KernelRfl
set_option linter.unusedVariables false
set_option linter.unusedSectionVars false
set_option linter.unusedSimpArgs false
open Go Go.M Go.Proofs T Uni
set_option linter.unusedVariables false
set_option maxRecDepth 100000
namespace Fn.f74
noncomputable def tab (k : Nat) : Tab El := []
noncomputable def env (R : Type) (k : Nat) : Env El R := envOf Go.Proofs.Tryd.prog (tab k) R (fun r => match r with | _ => false) (fun b => match b with | _ => fun _ => none) (fun b e => match b, e with | _, _ => fun _ => none)
theorem tabOK (k : Nat) : TabOK Go.Proofs.Tryd.prog (tab k) := TabOK.nil
theorem envOK (R : Type) (k : Nat) : EnvOK 0 (env R k) := envOf_ok (by kernel_rfl) (tabOK k) (by intro b; show WOK 0 (match b with | _ => fun _ => none); split <;> first | exact word_ok _ _ _ | exact vword_ok (word_ok _ _ _) | exact none_ok _) (by intro b e; show WOK 0 (match b, e with | _, _ => fun _ => none); split <;> first | exact word_ok _ _ _ | exact none_ok _)
noncomputable def F (k : Nat) : Int × Int × Int → Option (Bool) := fun (a0, a1, a2) => cond (Decidable.decide (a0 < a1)) (some Bool.true) (some (Decidable.decide (a0 > a2)))
noncomputable def decA : List (D El) → List (Nat × MObj El) → Nat → Option (Int × Int × Int)
  | [(.int .i64 a0), (.int .i64 a1), (.int .i64 a2)], [], 0 => some (a0, a1, a2)
  | _, _, _ => none
noncomputable def dec : Out El → Option (Bool)
  | ⟨(.bool r), [], 0⟩ => some r
  | _ => none
noncomputable def outOf : Bool → Out El := fun r => ⟨(.bool r), [], 0⟩
noncomputable def entry (k : Nat) : Entry El := ⟨[.any, .any, .any], 0, specOf decA (F k) outOf⟩
theorem ok (k : Nat) : FnOK Go.Proofs.Tryd.prog 74 0 (specOf decA (F k) outOf) := fnOK_of (fn := Go.Proofs.Tryd.f74) (c := (Go.Proofs.Tryd.f74.body).getD .skip) (by kernel_rfl) (by kernel_rfl) (envOK _ k) (by kernel_rfl) k [.any] (nt := 15) (by kernel_rfl) (rs := [.tmp 6]) (by kernel_rfl) decA (F k) dec outOf
  (by intro out y h; unfold dec at h; split at h <;> cases h; rfl)
  (by intro ds objs next a h; unfold decA at h; split at h <;> cases h; kernel_rfl)
theorem enter : ∀ args w, (callFunc 74 args).run Go.Proofs.Tryd.prog w = .ok (.enter 74 args) w := fun _ _ => by kernel_rfl
end Fn.f74

namespace Fn.f124
noncomputable def tab (k : Nat) : Tab El := []
noncomputable def env (R : Type) (k : Nat) : Env El R := envOf Go.Proofs.Tryd.prog (tab k) R (fun r => match r with | _ => false) (fun b => match b with | _ => fun _ => none) (fun b e => match b, e with | _, _ => fun _ => none)
theorem tabOK (k : Nat) : TabOK Go.Proofs.Tryd.prog (tab k) := TabOK.nil
theorem envOK (R : Type) (k : Nat) : EnvOK 0 (env R k) := envOf_ok (by kernel_rfl) (tabOK k) (by intro b; show WOK 0 (match b with | _ => fun _ => none); split <;> first | exact word_ok _ _ _ | exact vword_ok (word_ok _ _ _) | exact none_ok _) (by intro b e; show WOK 0 (match b, e with | _, _ => fun _ => none); split <;> first | exact word_ok _ _ _ | exact none_ok _)
noncomputable def F (k : Nat) : Unit → Option (List T.E9) := fun () => some ([ByteArray.mk #[99], ByteArray.mk #[99, 35], ByteArray.mk #[100], ByteArray.mk #[100, 35], ByteArray.mk #[101], ByteArray.mk #[102], ByteArray.mk #[102, 35], ByteArray.mk #[103], ByteArray.mk #[103, 35], ByteArray.mk #[97], ByteArray.mk #[97, 35], ByteArray.mk #[98]])
noncomputable def decA : List (D El) → List (Nat × MObj El) → Nat → Option (Unit)
  | [], [], 0 => some ()
  | _, _, _ => none
noncomputable def dec : Out El → Option (List T.E9)
  | ⟨(.frz 9 r), [], 0⟩ => some r
  | _ => none
noncomputable def outOf : List T.E9 → Out El := fun r => ⟨(.frz 9 r), [], 0⟩
noncomputable def entry (k : Nat) : Entry El := ⟨[], 0, specOf decA (F k) outOf⟩
theorem ok (k : Nat) : FnOK Go.Proofs.Tryd.prog 124 0 (specOf decA (F k) outOf) := fnOK_of (fn := Go.Proofs.Tryd.f124) (c := (Go.Proofs.Tryd.f124.body).getD .skip) (by kernel_rfl) (by kernel_rfl) (envOK _ k) (by kernel_rfl) k [.frz 9] (nt := 2) (by kernel_rfl) (rs := [.tmp 0]) (by kernel_rfl) decA (F k) dec outOf
  (by intro out y h; unfold dec at h; split at h <;> cases h; rfl)
  (by intro ds objs next a h; unfold decA at h; split at h <;> cases h; kernel_rfl)
theorem enter : ∀ args w, (callFunc 124 args).run Go.Proofs.Tryd.prog w = .ok (.enter 124 args) w := fun _ _ => by kernel_rfl
end Fn.f124

namespace Fn.f66
noncomputable def tab (k : Nat) : Tab El := [(74, Fn.f74.entry k), (99, Fn.f99.entry k), (124, Fn.f124.entry k)]
noncomputable def env (R : Type) (k : Nat) : Env El R := envOf Go.Proofs.Tryd.prog (tab k) R (fun r => match r with | _ => false) (fun b => match b with | _ => fun _ => none) (fun b e => match b, e with | _, _ => fun _ => none)
theorem tabOK (k : Nat) : TabOK Go.Proofs.Tryd.prog (tab k) := TabOK.cons (Fn.f74.ok k) Fn.f74.enter (TabOK.cons (Fn.f99.ok k) Fn.f99.enter (TabOK.cons (Fn.f124.ok k) Fn.f124.enter (TabOK.nil)))
theorem envOK (R : Type) (k : Nat) : EnvOK 0 (env R k) := envOf_ok (by kernel_rfl) (tabOK k) (by intro b; show WOK 0 (match b with | _ => fun _ => none); split <;> first | exact word_ok _ _ _ | exact vword_ok (word_ok _ _ _) | exact none_ok _) (by intro b e; show WOK 0 (match b, e with | _, _ => fun _ => none); split <;> first | exact word_ok _ _ _ | exact none_ok _)
noncomputable def F (k : Nat) : Int → Option (ByteArray × Int) := fun a0 => Option.bind (Fn.f74.F k (a0, 0, 127)) fun y0 => cond y0 (some ((ByteArray.mk #[]), 1)) (if (0 ≤ Int.tmod a0 12) then (if (Int.tmod a0 12 < (↑(List.length [ByteArray.mk #[99], ByteArray.mk #[99, 35], ByteArray.mk #[100], ByteArray.mk #[100, 35], ByteArray.mk #[101], ByteArray.mk #[102], ByteArray.mk #[102, 35], ByteArray.mk #[103], ByteArray.mk #[103, 35], ByteArray.mk #[97], ByteArray.mk #[97, 35], ByteArray.mk #[98]]) : Int)) then (Option.bind ([ByteArray.mk #[99], ByteArray.mk #[99, 35], ByteArray.mk #[100], ByteArray.mk #[100, 35], ByteArray.mk #[101], ByteArray.mk #[102], ByteArray.mk #[102, 35], ByteArray.mk #[103], ByteArray.mk #[103, 35], ByteArray.mk #[97], ByteArray.mk #[97, 35], ByteArray.mk #[98]][Int.toNat (Int.tmod a0 12)]?) fun y3 => Option.bind (Fn.f99.F k (Go.IntKind.wrap Go.IntKind.i64 (Go.IntKind.wrap Go.IntKind.i64 (Int.tdiv a0 12) - 1))) fun y4 => if (ByteArray.size y3 + ByteArray.size y4 ≤ 9223372036854775807) then (some ((y3 ++ y4), 0)) else (none)) else (none)) else (none))
noncomputable def decA : List (D El) → List (Nat × MObj El) → Nat → Option (Int)
  | [(.int .i64 a0)], [], 0 => some a0
  | _, _, _ => none
noncomputable def dec : Out El → Option (ByteArray × Int)
  | ⟨(.tup [(.str r_0), (.int .i64 r_1)]), [], 0⟩ => some (r_0, r_1)
  | _ => none
noncomputable def outOf : ByteArray × Int → Out El := fun (r_0, r_1) => ⟨(.tup [(.str r_0), (.int .i64 r_1)]), [], 0⟩
noncomputable def entry (k : Nat) : Entry El := ⟨[.any], 0, specOf decA (F k) outOf⟩
theorem ok (k : Nat) : FnOK Go.Proofs.Tryd.prog 66 0 (specOf decA (F k) outOf) := fnOK_of (fn := Go.Proofs.Tryd.f66) (c := (Go.Proofs.Tryd.f66.body).getD .skip) (by kernel_rfl) (by kernel_rfl) (envOK _ k) (by kernel_rfl) k [.any, .any] (nt := 16) (by kernel_rfl) (rs := [.tmp 2, .tmp 3]) (by kernel_rfl) decA (F k) dec outOf
  (by intro out y h; unfold dec at h; split at h <;> cases h; rfl)
  (by intro ds objs next a h; unfold decA at h; split at h <;> cases h; kernel_rfl)
theorem enter : ∀ args w, (callFunc 66 args).run Go.Proofs.Tryd.prog w = .ok (.enter 66 args) w := fun _ _ => by kernel_rfl
end Fn.f66

namespace Fn.f26
noncomputable def tab (k : Nat) : Tab El := [(66, Fn.f66.entry k)]
noncomputable def env (R : Type) (k : Nat) : Env El R := envOf Go.Proofs.Tryd.prog (tab k) R (fun r => match r with | _ => false) (fun b => match b with | _ => fun _ => none) (fun b e => match b, e with | _, _ => fun _ => none)
theorem tabOK (k : Nat) : TabOK Go.Proofs.Tryd.prog (tab k) := TabOK.cons (Fn.f66.ok k) Fn.f66.enter (TabOK.nil)
theorem envOK (R : Type) (k : Nat) : EnvOK 0 (env R k) := envOf_ok (by kernel_rfl) (tabOK k) (by intro b; show WOK 0 (match b with | _ => fun _ => none); split <;> first | exact word_ok _ _ _ | exact vword_ok (word_ok _ _ _) | exact none_ok _) (by intro b e; show WOK 0 (match b, e with | _, _ => fun _ => none); split <;> first | exact word_ok _ _ _ | exact none_ok _)
noncomputable def F (k : Nat) : Unit → Option (Bool) := fun () => some (ByteArray.toList (ByteArray.mk #[99, 35] ++ ByteArray.mk (List.toArray (Go.Lib.itoa (Go.IntKind.wrap Go.IntKind.i64 (Go.IntKind.wrap Go.IntKind.i64 (Int.tdiv 61 12) - 1))))) == ByteArray.toList (ByteArray.mk #[99, 35, 52]))
noncomputable def decA : List (D El) → List (Nat × MObj El) → Nat → Option (Unit)
  | [], [], 0 => some ()
  | _, _, _ => none
noncomputable def dec : Out El → Option (Bool)
  | ⟨(.bool r), [], 0⟩ => some r
  | _ => none
noncomputable def outOf : Bool → Out El := fun r => ⟨(.bool r), [], 0⟩
noncomputable def entry (k : Nat) : Entry El := ⟨[], 0, specOf decA (F k) outOf⟩
theorem ok (k : Nat) : FnOK Go.Proofs.Tryd.prog 26 0 (specOf decA (F k) outOf) := fnOK_of (fn := Go.Proofs.Tryd.f26) (c := (Go.Proofs.Tryd.f26.body).getD .skip) (by kernel_rfl) (by kernel_rfl) (envOK _ k) (by kernel_rfl) k [.any] (nt := 13) (by kernel_rfl) (rs := [.tmp 0]) (by kernel_rfl) decA (F k) dec outOf
  (by intro out y h; unfold dec at h; split at h <;> cases h; rfl)
  (by intro ds objs next a h; unfold decA at h; split at h <;> cases h; kernel_rfl)
theorem enter : ∀ args w, (callFunc 26 args).run Go.Proofs.Tryd.prog w = .ok (.enter 26 args) w := fun _ _ => by kernel_rfl
end Fn.f26

namespace Fn.f117
noncomputable def tab (k : Nat) : Tab El := []
noncomputable def env (R : Type) (k : Nat) : Env El R := envOf Go.Proofs.Tryd.prog (tab k) R (fun r => match r with | _ => false) (fun b => match b with | _ => fun _ => none) (fun b e => match b, e with | _, _ => fun _ => none)
theorem tabOK (k : Nat) : TabOK Go.Proofs.Tryd.prog (tab k) := TabOK.nil
theorem envOK (R : Type) (k : Nat) : EnvOK 0 (env R k) := envOf_ok (by kernel_rfl) (tabOK k) (by intro b; show WOK 0 (match b with | _ => fun _ => none); split <;> first | exact word_ok _ _ _ | exact vword_ok (word_ok _ _ _) | exact none_ok _) (by intro b e; show WOK 0 (match b, e with | _, _ => fun _ => none); split <;> first | exact word_ok _ _ _ | exact none_ok _)
noncomputable def F (k : Nat) : Int × Int → Option (Int) := fun (a0, a1) => cond (Decidable.decide (a1 < 1)) (some 0) (if (a1 = 0) then (none) else (cond (Decidable.decide (Int.tmod a0 a1 < 0)) (some (Go.IntKind.wrap Go.IntKind.i64 (Int.tmod a0 a1 + a1))) (some (Int.tmod a0 a1))))
noncomputable def decA : List (D El) → List (Nat × MObj El) → Nat → Option (Int × Int)
  | [(.int .i64 a0), (.int .i64 a1)], [], 0 => some (a0, a1)
  | _, _, _ => none
noncomputable def dec : Out El → Option (Int)
  | ⟨(.int .i64 r), [], 0⟩ => some r
  | _ => none
noncomputable def outOf : Int → Out El := fun r => ⟨(.int .i64 r), [], 0⟩
noncomputable def entry (k : Nat) : Entry El := ⟨[.any, .any], 0, specOf decA (F k) outOf⟩
theorem ok (k : Nat) : FnOK Go.Proofs.Tryd.prog 117 0 (specOf decA (F k) outOf) := fnOK_of (fn := Go.Proofs.Tryd.f117) (c := (Go.Proofs.Tryd.f117.body).getD .skip) (by kernel_rfl) (by kernel_rfl) (envOK _ k) (by kernel_rfl) k [.any] (nt := 16) (by kernel_rfl) (rs := [.tmp 4]) (by kernel_rfl) decA (F k) dec outOf
  (by intro out y h; unfold dec at h; split at h <;> cases h; rfl)
  (by intro ds objs next a h; unfold decA at h; split at h <;> cases h; kernel_rfl)
theorem enter : ∀ args w, (callFunc 117 args).run Go.Proofs.Tryd.prog w = .ok (.enter 117 args) w := fun _ _ => by kernel_rfl
end Fn.f117

namespace Fn.f58
noncomputable def tab (k : Nat) : Tab El := [(117, Fn.f117.entry k)]
noncomputable def env (R : Type) (k : Nat) : Env El R := envOf Go.Proofs.Tryd.prog (tab k) R (fun r => match r with | _ => false) (fun b => match b with | _ => fun _ => none) (fun b e => match b, e with | _, _ => fun _ => none)
theorem tabOK (k : Nat) : TabOK Go.Proofs.Tryd.prog (tab k) := TabOK.cons (Fn.f117.ok k) Fn.f117.enter (TabOK.nil)
theorem envOK (R : Type) (k : Nat) : EnvOK 1 (env R k) := envOf_ok (by kernel_rfl) (tabOK k) (by intro b; show WOK 1 (match b with | _ => fun _ => none); split <;> first | exact word_ok _ _ _ | exact vword_ok (word_ok _ _ _) | exact none_ok _) (by intro b e; show WOK 1 (match b, e with | _, _ => fun _ => none); split <;> first | exact word_ok _ _ _ | exact none_ok _)
noncomputable def F (k : Nat) : List T.E3 × Int × Int → Option (Int × List T.E3 × Int) := fun (b0_0, b0_1, a1) => cond ((↑(List.length b0_0) : Int) == 0) (Option.bind (Fn.f117.F k (Go.IntKind.wrap Go.IntKind.i64 (Go.IntKind.wrap Go.IntKind.i64 (b0_1 + 1) * 7919), a1)) fun y0 => some (y0, b0_0, (Go.IntKind.wrap Go.IntKind.i64 (b0_1 + 1)))) (if ((↑(List.length b0_0) : Int) = 0) then (none) else (if ((↑(List.length b0_0) : Int) = 0) then (none) else (if (0 ≤ Int.tmod (Go.IntKind.wrap Go.IntKind.i64 (Go.IntKind.wrap Go.IntKind.i64 (b0_1 + 1) - 1)) (↑(List.length b0_0) : Int)) then (if (Int.tmod (Go.IntKind.wrap Go.IntKind.i64 (Go.IntKind.wrap Go.IntKind.i64 (b0_1 + 1) - 1)) (↑(List.length b0_0) : Int) < (↑(List.length b0_0) : Int)) then (Option.bind (b0_0[Int.toNat (Int.tmod (Go.IntKind.wrap Go.IntKind.i64 (Go.IntKind.wrap Go.IntKind.i64 (b0_1 + 1) - 1)) (↑(List.length b0_0) : Int))]?) fun y5 => Option.bind (Fn.f117.F k (y5, 1073741824)) fun y6 => Option.bind (Fn.f117.F k (Go.IntKind.wrap Go.IntKind.i64 (y6 + Go.IntKind.wrap Go.IntKind.i64 (Go.IntKind.wrap Go.IntKind.i64 (Int.tdiv (Go.IntKind.wrap Go.IntKind.i64 (Go.IntKind.wrap Go.IntKind.i64 (b0_1 + 1) - 1)) (↑(List.length b0_0) : Int)) * Go.IntKind.wrap Go.IntKind.i64 (7919 + Int.tmod (Go.IntKind.wrap Go.IntKind.i64 (Go.IntKind.wrap Go.IntKind.i64 (b0_1 + 1) - 1)) (↑(List.length b0_0) : Int)))), a1)) fun y7 => some (y7, b0_0, (Go.IntKind.wrap Go.IntKind.i64 (b0_1 + 1)))) else (none)) else (none))))
noncomputable def decA : List (D El) → List (Nat × MObj El) → Nat → Option (List T.E3 × Int × Int)
  | [(.ptr 0 0 0 0), (.int .i64 a1)], [(0, .box 25 [(.frz 3 b0_0), (.int .i64 b0_1)])], 1 => some (b0_0, b0_1, a1)
  | _, _, _ => none
noncomputable def dec : Out El → Option (Int × List T.E3 × Int)
  | ⟨(.int .i64 r), [(0, .box 25 [(.frz 3 b0_0), (.int .i64 b0_1)])], 1⟩ => some (r, b0_0, b0_1)
  | _ => none
noncomputable def outOf : Int × List T.E3 × Int → Out El := fun (r, b0_0, b0_1) => ⟨(.int .i64 r), [(0, .box 25 [(.frz 3 b0_0), (.int .i64 b0_1)])], 1⟩
noncomputable def entry (k : Nat) : Entry El := ⟨[.ref, .any], 1, specOf decA (F k) outOf⟩
theorem ok (k : Nat) : FnOK Go.Proofs.Tryd.prog 58 1 (specOf decA (F k) outOf) := fnOK_of (fn := Go.Proofs.Tryd.f58) (c := (Go.Proofs.Tryd.f58.body).getD .skip) (by kernel_rfl) (by kernel_rfl) (envOK _ k) (by kernel_rfl) k [.any] (nt := 64) (by kernel_rfl) (rs := [.tmp 4]) (by kernel_rfl) decA (F k) dec outOf
  (by intro out y h; unfold dec at h; split at h <;> cases h; rfl)
  (by intro ds objs next a h; unfold decA at h; split at h <;> cases h; kernel_rfl)
theorem enter : ∀ args w, (callFunc 58 args).run Go.Proofs.Tryd.prog w = .ok (.enter 58 args) w := fun _ _ => by kernel_rfl
end Fn.f58

namespace Fn.f37
noncomputable def tab (k : Nat) : Tab El := [(58, Fn.f58.entry k)]
noncomputable def env (R : Type) (k : Nat) : Env El R := envOf Go.Proofs.Tryd.prog (tab k) R (fun r => match r with | _ => false) (fun b => match b with | _ => fun _ => none) (fun b e => match b, e with | _, _ => fun _ => none)
theorem tabOK (k : Nat) : TabOK Go.Proofs.Tryd.prog (tab k) := TabOK.cons (Fn.f58.ok k) Fn.f58.enter (TabOK.nil)
theorem envOK (R : Type) (k : Nat) : EnvOK 1 (env R k) := envOf_ok (by kernel_rfl) (tabOK k) (by intro b; show WOK 1 (match b with | _ => fun _ => none); split <;> first | exact word_ok _ _ _ | exact vword_ok (word_ok _ _ _) | exact none_ok _) (by intro b e; show WOK 1 (match b, e with | _, _ => fun _ => none); split <;> first | exact word_ok _ _ _ | exact none_ok _)
noncomputable def F (k : Nat) : List T.E3 × Int × Int × Int → Option (Int × List T.E3 × Int) := fun (b0_0, b0_1, a1, a2) => cond (Decidable.decide (a2 < a1)) (some (a1, b0_0, b0_1)) (Option.bind (Fn.f58.F k (b0_0, b0_1, Go.IntKind.wrap Go.IntKind.i64 (Go.IntKind.wrap Go.IntKind.i64 (a2 - a1) + 1))) fun y0 => some ((Go.IntKind.wrap Go.IntKind.i64 (a1 + y0.1)), y0.2.1, y0.2.2))
noncomputable def decA : List (D El) → List (Nat × MObj El) → Nat → Option (List T.E3 × Int × Int × Int)
  | [(.ptr 0 0 0 0), (.int .i64 a1), (.int .i64 a2)], [(0, .box 25 [(.frz 3 b0_0), (.int .i64 b0_1)])], 1 => some (b0_0, b0_1, a1, a2)
  | _, _, _ => none
noncomputable def dec : Out El → Option (Int × List T.E3 × Int)
  | ⟨(.int .i64 r), [(0, .box 25 [(.frz 3 b0_0), (.int .i64 b0_1)])], 1⟩ => some (r, b0_0, b0_1)
  | _ => none
noncomputable def outOf : Int × List T.E3 × Int → Out El := fun (r, b0_0, b0_1) => ⟨(.int .i64 r), [(0, .box 25 [(.frz 3 b0_0), (.int .i64 b0_1)])], 1⟩
noncomputable def entry (k : Nat) : Entry El := ⟨[.ref, .any, .any], 1, specOf decA (F k) outOf⟩
theorem ok (k : Nat) : FnOK Go.Proofs.Tryd.prog 37 1 (specOf decA (F k) outOf) := fnOK_of (fn := Go.Proofs.Tryd.f37) (c := (Go.Proofs.Tryd.f37.body).getD .skip) (by kernel_rfl) (by kernel_rfl) (envOK _ k) (by kernel_rfl) k [.any] (nt := 19) (by kernel_rfl) (rs := [.tmp 6]) (by kernel_rfl) decA (F k) dec outOf
  (by intro out y h; unfold dec at h; split at h <;> cases h; rfl)
  (by intro ds objs next a h; unfold decA at h; split at h <;> cases h; kernel_rfl)
theorem enter : ∀ args w, (callFunc 37 args).run Go.Proofs.Tryd.prog w = .ok (.enter 37 args) w := fun _ _ => by kernel_rfl
end Fn.f37

namespace Fn.f90
noncomputable def tab (k : Nat) : Tab El := []
noncomputable def env (R : Type) (k : Nat) : Env El R := envOf Go.Proofs.Tryd.prog (tab k) R (fun r => match r with | _ => false) (fun b => match b with | _ => fun _ => none) (fun b e => match b, e with | _, _ => fun _ => none)
theorem tabOK (k : Nat) : TabOK Go.Proofs.Tryd.prog (tab k) := TabOK.nil
theorem envOK (R : Type) (k : Nat) : EnvOK 0 (env R k) := envOf_ok (by kernel_rfl) (tabOK k) (by intro b; show WOK 0 (match b with | _ => fun _ => none); split <;> first | exact word_ok _ _ _ | exact vword_ok (word_ok _ _ _) | exact none_ok _) (by intro b e; show WOK 0 (match b, e with | _, _ => fun _ => none); split <;> first | exact word_ok _ _ _ | exact none_ok _)
noncomputable def F (k : Nat) : Int × Int × Int → Option (Bool) := fun (a0, a1, a2) => cond (Decidable.decide (a1 ≤ a0)) (some (Decidable.decide (a0 ≤ a2))) (some Bool.false)
noncomputable def decA : List (D El) → List (Nat × MObj El) → Nat → Option (Int × Int × Int)
  | [(.int .i64 a0), (.int .i64 a1), (.int .i64 a2)], [], 0 => some (a0, a1, a2)
  | _, _, _ => none
noncomputable def dec : Out El → Option (Bool)
  | ⟨(.bool r), [], 0⟩ => some r
  | _ => none
noncomputable def outOf : Bool → Out El := fun r => ⟨(.bool r), [], 0⟩
noncomputable def entry (k : Nat) : Entry El := ⟨[.any, .any, .any], 0, specOf decA (F k) outOf⟩
theorem ok (k : Nat) : FnOK Go.Proofs.Tryd.prog 90 0 (specOf decA (F k) outOf) := fnOK_of (fn := Go.Proofs.Tryd.f90) (c := (Go.Proofs.Tryd.f90.body).getD .skip) (by kernel_rfl) (by kernel_rfl) (envOK _ k) (by kernel_rfl) k [.any] (nt := 15) (by kernel_rfl) (rs := [.tmp 6]) (by kernel_rfl) decA (F k) dec outOf
  (by intro out y h; unfold dec at h; split at h <;> cases h; rfl)
  (by intro ds objs next a h; unfold decA at h; split at h <;> cases h; kernel_rfl)
theorem enter : ∀ args w, (callFunc 90 args).run Go.Proofs.Tryd.prog w = .ok (.enter 90 args) w := fun _ _ => by kernel_rfl
end Fn.f90

namespace Fn.f44
noncomputable def tab (k : Nat) : Tab El := [(90, Fn.f90.entry k)]
noncomputable def env (R : Type) (k : Nat) : Env El R := envOf Go.Proofs.Tryd.prog (tab k) R (fun r => match r with | _ => false) (fun b => match b with | _ => fun _ => none) (fun b e => match b, e with | _, _ => fun _ => none)
theorem tabOK (k : Nat) : TabOK Go.Proofs.Tryd.prog (tab k) := TabOK.cons (Fn.f90.ok k) Fn.f90.enter (TabOK.nil)
theorem envOK (R : Type) (k : Nat) : EnvOK 0 (env R k) := envOf_ok (by kernel_rfl) (tabOK k) (by intro b; show WOK 0 (match b with | _ => fun _ => none); split <;> first | exact word_ok _ _ _ | exact vword_ok (word_ok _ _ _) | exact none_ok _) (by intro b e; show WOK 0 (match b, e with | _, _ => fun _ => none); split <;> first | exact word_ok _ _ _ | exact none_ok _)
noncomputable def F (k : Nat) : Int × Int × Int → Option (Int) := fun (a0, a1, a2) => Option.bind (Fn.f90.F k (a0, a1, a2)) fun y0 => cond (!y0) (some 1) (some 0)
noncomputable def decA : List (D El) → List (Nat × MObj El) → Nat → Option (Int × Int × Int)
  | [(.int .i64 a0), (.int .i64 a1), (.int .i64 a2)], [], 0 => some (a0, a1, a2)
  | _, _, _ => none
noncomputable def dec : Out El → Option (Int)
  | ⟨(.int .i64 r), [], 0⟩ => some r
  | _ => none
noncomputable def outOf : Int → Out El := fun r => ⟨(.int .i64 r), [], 0⟩
noncomputable def entry (k : Nat) : Entry El := ⟨[.any, .any, .any], 0, specOf decA (F k) outOf⟩
theorem ok (k : Nat) : FnOK Go.Proofs.Tryd.prog 44 0 (specOf decA (F k) outOf) := fnOK_of (fn := Go.Proofs.Tryd.f44) (c := (Go.Proofs.Tryd.f44.body).getD .skip) (by kernel_rfl) (by kernel_rfl) (envOK _ k) (by kernel_rfl) k [.any] (nt := 12) (by kernel_rfl) (rs := [.tmp 6]) (by kernel_rfl) decA (F k) dec outOf
  (by intro out y h; unfold dec at h; split at h <;> cases h; rfl)
  (by intro ds objs next a h; unfold decA at h; split at h <;> cases h; kernel_rfl)
theorem enter : ∀ args w, (callFunc 44 args).run Go.Proofs.Tryd.prog w = .ok (.enter 44 args) w := fun _ _ => by kernel_rfl
end Fn.f44

namespace Fn.f56
noncomputable def tab (k : Nat) : Tab El := [(58, Fn.f58.entry k)]
noncomputable def env (R : Type) (k : Nat) : Env El R := envOf Go.Proofs.Tryd.prog (tab k) R (fun r => match r with | _ => false) (fun b => match b with | _ => fun _ => none) (fun b e => match b, e with | _, _ => fun _ => none)
theorem tabOK (k : Nat) : TabOK Go.Proofs.Tryd.prog (tab k) := TabOK.cons (Fn.f58.ok k) Fn.f58.enter (TabOK.nil)
theorem envOK (R : Type) (k : Nat) : EnvOK 1 (env R k) := envOf_ok (by kernel_rfl) (tabOK k) (by intro b; show WOK 1 (match b with | _ => fun _ => none); split <;> first | exact word_ok _ _ _ | exact vword_ok (word_ok _ _ _) | exact none_ok _) (by intro b e; show WOK 1 (match b, e with | _, _ => fun _ => none); split <;> first | exact word_ok _ _ _ | exact none_ok _)
noncomputable def F (k : Nat) : List T.E3 × Int × Int → Option (Bool × List T.E3 × Int) := fun (b0_0, b0_1, a1) => Option.bind (Fn.f58.F k (b0_0, b0_1, a1)) fun y0 => some ((y0.1 == 0), y0.2.1, y0.2.2)
noncomputable def decA : List (D El) → List (Nat × MObj El) → Nat → Option (List T.E3 × Int × Int)
  | [(.ptr 0 0 0 0), (.int .i64 a1)], [(0, .box 25 [(.frz 3 b0_0), (.int .i64 b0_1)])], 1 => some (b0_0, b0_1, a1)
  | _, _, _ => none
noncomputable def dec : Out El → Option (Bool × List T.E3 × Int)
  | ⟨(.bool r), [(0, .box 25 [(.frz 3 b0_0), (.int .i64 b0_1)])], 1⟩ => some (r, b0_0, b0_1)
  | _ => none
noncomputable def outOf : Bool × List T.E3 × Int → Out El := fun (r, b0_0, b0_1) => ⟨(.bool r), [(0, .box 25 [(.frz 3 b0_0), (.int .i64 b0_1)])], 1⟩
noncomputable def entry (k : Nat) : Entry El := ⟨[.ref, .any], 1, specOf decA (F k) outOf⟩
theorem ok (k : Nat) : FnOK Go.Proofs.Tryd.prog 56 1 (specOf decA (F k) outOf) := fnOK_of (fn := Go.Proofs.Tryd.f56) (c := (Go.Proofs.Tryd.f56.body).getD .skip) (by kernel_rfl) (by kernel_rfl) (envOK _ k) (by kernel_rfl) k [.any] (nt := 9) (by kernel_rfl) (rs := [.tmp 4]) (by kernel_rfl) decA (F k) dec outOf
  (by intro out y h; unfold dec at h; split at h <;> cases h; rfl)
  (by intro ds objs next a h; unfold decA at h; split at h <;> cases h; kernel_rfl)
theorem enter : ∀ args w, (callFunc 56 args).run Go.Proofs.Tryd.prog w = .ok (.enter 56 args) w := fun _ _ => by kernel_rfl
end Fn.f56

namespace Fn.f42
noncomputable def tab (k : Nat) : Tab El := [(58, Fn.f58.entry k)]
noncomputable def env (R : Type) (k : Nat) : Env El R := envOf Go.Proofs.Tryd.prog (tab k) R (fun r => match r with | _ => false) (fun b => match b with | _ => fun _ => none) (fun b e => match b, e with | _, _ => fun _ => none)
theorem tabOK (k : Nat) : TabOK Go.Proofs.Tryd.prog (tab k) := TabOK.cons (Fn.f58.ok k) Fn.f58.enter (TabOK.nil)
theorem envOK (R : Type) (k : Nat) : EnvOK 1 (env R k) := envOf_ok (by kernel_rfl) (tabOK k) (by intro b; show WOK 1 (match b with | _ => fun _ => none); split <;> first | exact word_ok _ _ _ | exact vword_ok (word_ok _ _ _) | exact none_ok _) (by intro b e; show WOK 1 (match b, e with | _, _ => fun _ => none); split <;> first | exact word_ok _ _ _ | exact none_ok _)
noncomputable def F (k : Nat) : List T.E3 × Int × List T.E3 → Option (Int × List T.E3 × Int) := fun (b0_0, b0_1, a1) => Option.bind (Fn.f58.F k (b0_0, b0_1, (↑(List.length a1) : Int))) fun y0 => if (0 ≤ y0.1) then (if (y0.1 < (↑(List.length a1) : Int)) then (Option.bind (a1[Int.toNat y0.1]?) fun y3 => some (y3, y0.2.1, y0.2.2)) else (none)) else (none)
noncomputable def decA : List (D El) → List (Nat × MObj El) → Nat → Option (List T.E3 × Int × List T.E3)
  | [(.ptr 0 0 0 0), (.frz 3 a1)], [(0, .box 25 [(.frz 3 b0_0), (.int .i64 b0_1)])], 1 => some (b0_0, b0_1, a1)
  | _, _, _ => none
noncomputable def dec : Out El → Option (Int × List T.E3 × Int)
  | ⟨(.int .i64 r), [(0, .box 25 [(.frz 3 b0_0), (.int .i64 b0_1)])], 1⟩ => some (r, b0_0, b0_1)
  | _ => none
noncomputable def outOf : Int × List T.E3 × Int → Out El := fun (r, b0_0, b0_1) => ⟨(.int .i64 r), [(0, .box 25 [(.frz 3 b0_0), (.int .i64 b0_1)])], 1⟩
noncomputable def entry (k : Nat) : Entry El := ⟨[.ref, .frz 3], 1, specOf decA (F k) outOf⟩
theorem ok (k : Nat) : FnOK Go.Proofs.Tryd.prog 42 1 (specOf decA (F k) outOf) := fnOK_of (fn := Go.Proofs.Tryd.f42) (c := (Go.Proofs.Tryd.f42.body).getD .skip) (by kernel_rfl) (by kernel_rfl) (envOK _ k) (by kernel_rfl) k [.any] (nt := 12) (by kernel_rfl) (rs := [.tmp 4]) (by kernel_rfl) decA (F k) dec outOf
  (by intro out y h; unfold dec at h; split at h <;> cases h; rfl)
  (by intro ds objs next a h; unfold decA at h; split at h <;> cases h; kernel_rfl)
theorem enter : ∀ args w, (callFunc 42 args).run Go.Proofs.Tryd.prog w = .ok (.enter 42 args) w := fun _ _ => by kernel_rfl
end Fn.f42

namespace Fn.f64
noncomputable def tab (k : Nat) : Tab El := [(37, Fn.f37.entry k), (42, Fn.f42.entry k), (56, Fn.f56.entry k)]
noncomputable def env (R : Type) (k : Nat) : Env El R := envOf Go.Proofs.Tryd.prog (tab k) R (fun r => match r with | _ => false) (fun b => match b with | _ => fun _ => none) (fun b e => match b, e with | _, _ => fun _ => none)
theorem tabOK (k : Nat) : TabOK Go.Proofs.Tryd.prog (tab k) := TabOK.cons (Fn.f37.ok k) Fn.f37.enter (TabOK.cons (Fn.f42.ok k) Fn.f42.enter (TabOK.cons (Fn.f56.ok k) Fn.f56.enter (TabOK.nil)))
theorem envOK (R : Type) (k : Nat) : EnvOK 1 (env R k) := envOf_ok (by kernel_rfl) (tabOK k) (by intro b; show WOK 1 (match b with | _ => fun _ => none); split <;> first | exact word_ok _ _ _ | exact vword_ok (word_ok _ _ _) | exact none_ok _) (by intro b e; show WOK 1 (match b, e with | _, _ => fun _ => none); split <;> first | exact word_ok _ _ _ | exact none_ok _)
noncomputable def F (k : Nat) : List T.E3 × Int × Int × Int → Option (Int × List T.E3 × Int) := fun (b0_0, b0_1, a1, a2) => Option.bind (Fn.f56.F k (b0_0, b0_1, 12)) fun y0 => cond y0.1 (Option.bind (Fn.f42.F k (y0.2.1, y0.2.2, [Go.IntKind.wrap Go.IntKind.i64 (a1 - 1), Go.IntKind.wrap Go.IntKind.i64 (a2 + 1), a1, a2, -1099511627776, 1099511627776])) fun y1 => some (y1.1, y1.2.1, y1.2.2)) (Option.bind (Fn.f37.F k (y0.2.1, y0.2.2, a1, a2)) fun y2 => some (y2.1, y2.2.1, y2.2.2))
noncomputable def decA : List (D El) → List (Nat × MObj El) → Nat → Option (List T.E3 × Int × Int × Int)
  | [(.ptr 0 0 0 0), (.int .i64 a1), (.int .i64 a2)], [(0, .box 25 [(.frz 3 b0_0), (.int .i64 b0_1)])], 1 => some (b0_0, b0_1, a1, a2)
  | _, _, _ => none
noncomputable def dec : Out El → Option (Int × List T.E3 × Int)
  | ⟨(.int .i64 r), [(0, .box 25 [(.frz 3 b0_0), (.int .i64 b0_1)])], 1⟩ => some (r, b0_0, b0_1)
  | _ => none
noncomputable def outOf : Int × List T.E3 × Int → Out El := fun (r, b0_0, b0_1) => ⟨(.int .i64 r), [(0, .box 25 [(.frz 3 b0_0), (.int .i64 b0_1)])], 1⟩
noncomputable def entry (k : Nat) : Entry El := ⟨[.ref, .any, .any], 1, specOf decA (F k) outOf⟩
theorem ok (k : Nat) : FnOK Go.Proofs.Tryd.prog 64 1 (specOf decA (F k) outOf) := fnOK_of (fn := Go.Proofs.Tryd.f64) (c := (Go.Proofs.Tryd.f64.body).getD .skip) (by kernel_rfl) (by kernel_rfl) (envOK _ k) (by kernel_rfl) k [.any] (nt := 22) (by kernel_rfl) (rs := [.tmp 6]) (by kernel_rfl) decA (F k) dec outOf
  (by intro out y h; unfold dec at h; split at h <;> cases h; rfl)
  (by intro ds objs next a h; unfold decA at h; split at h <;> cases h; kernel_rfl)
theorem enter : ∀ args w, (callFunc 64 args).run Go.Proofs.Tryd.prog w = .ok (.enter 64 args) w := fun _ _ => by kernel_rfl
end Fn.f64

namespace Fn.f30
noncomputable def tab (k : Nat) : Tab El := [(58, Fn.f58.entry k)]
noncomputable def env (R : Type) (k : Nat) : Env El R := envOf Go.Proofs.Tryd.prog (tab k) R (fun r => match r with | _ => false) (fun b => match b with | _ => fun _ => none) (fun b e => match b, e with | _, _ => fun _ => none)
theorem tabOK (k : Nat) : TabOK Go.Proofs.Tryd.prog (tab k) := TabOK.cons (Fn.f58.ok k) Fn.f58.enter (TabOK.nil)
theorem envOK (R : Type) (k : Nat) : EnvOK 1 (env R k) := envOf_ok (by kernel_rfl) (tabOK k) (by intro b; show WOK 1 (match b with | _ => fun _ => none); split <;> first | exact word_ok _ _ _ | exact vword_ok (word_ok _ _ _) | exact none_ok _) (by intro b e; show WOK 1 (match b, e with | _, _ => fun _ => none); split <;> first | exact word_ok _ _ _ | exact none_ok _)
noncomputable def F (k : Nat) : List T.E3 × Int × List T.E9 → Option (ByteArray × List T.E3 × Int) := fun (b0_0, b0_1, a1) => Option.bind (Fn.f58.F k (b0_0, b0_1, (↑(List.length a1) : Int))) fun y0 => if (0 ≤ y0.1) then (if (y0.1 < (↑(List.length a1) : Int)) then (Option.bind (a1[Int.toNat y0.1]?) fun y3 => some (y3, y0.2.1, y0.2.2)) else (none)) else (none)
noncomputable def decA : List (D El) → List (Nat × MObj El) → Nat → Option (List T.E3 × Int × List T.E9)
  | [(.ptr 0 0 0 0), (.frz 9 a1)], [(0, .box 25 [(.frz 3 b0_0), (.int .i64 b0_1)])], 1 => some (b0_0, b0_1, a1)
  | _, _, _ => none
noncomputable def dec : Out El → Option (ByteArray × List T.E3 × Int)
  | ⟨(.str r), [(0, .box 25 [(.frz 3 b0_0), (.int .i64 b0_1)])], 1⟩ => some (r, b0_0, b0_1)
  | _ => none
noncomputable def outOf : ByteArray × List T.E3 × Int → Out El := fun (r, b0_0, b0_1) => ⟨(.str r), [(0, .box 25 [(.frz 3 b0_0), (.int .i64 b0_1)])], 1⟩
noncomputable def entry (k : Nat) : Entry El := ⟨[.ref, .frz 9], 1, specOf decA (F k) outOf⟩
theorem ok (k : Nat) : FnOK Go.Proofs.Tryd.prog 30 1 (specOf decA (F k) outOf) := fnOK_of (fn := Go.Proofs.Tryd.f30) (c := (Go.Proofs.Tryd.f30.body).getD .skip) (by kernel_rfl) (by kernel_rfl) (envOK _ k) (by kernel_rfl) k [.any] (nt := 12) (by kernel_rfl) (rs := [.tmp 4]) (by kernel_rfl) decA (F k) dec outOf
  (by intro out y h; unfold dec at h; split at h <;> cases h; rfl)
  (by intro ds objs next a h; unfold decA at h; split at h <;> cases h; kernel_rfl)
theorem enter : ∀ args w, (callFunc 30 args).run Go.Proofs.Tryd.prog w = .ok (.enter 30 args) w := fun _ _ => by kernel_rfl
end Fn.f30

namespace Fn.f67
noncomputable def l100005V : St El → Option (Int × ByteArray)
  | ⟨(.int .i64 t0) :: .dead :: .dead :: .dead :: (.str t4) :: .dead :: .dead :: .dead :: .dead :: .dead :: .dead :: .dead :: .dead :: .dead :: .dead :: .dead :: .dead :: .dead :: .dead :: .dead :: .dead :: .dead :: .dead :: .dead :: .dead :: [], [], 0⟩ => some (t0, t4)
  | _ => none
noncomputable def l100005S : Int × ByteArray → St El := fun (t0, t4) => ⟨(.int .i64 t0) :: .dead :: .dead :: .dead :: (.str t4) :: .dead :: .dead :: .dead :: .dead :: .dead :: .dead :: .dead :: .dead :: .dead :: .dead :: .dead :: .dead :: .dead :: .dead :: .dead :: .dead :: .dead :: .dead :: .dead :: .dead :: [], [], 0⟩
noncomputable def l100005Xret : ByteArray → St El := fun t2 => ⟨.dead :: .dead :: (.str t2) :: .dead :: .dead :: .dead :: .dead :: .dead :: .dead :: .dead :: .dead :: .dead :: .dead :: .dead :: .dead :: .dead :: .dead :: .dead :: .dead :: .dead :: .dead :: .dead :: .dead :: .dead :: .dead :: [], [], 0⟩
noncomputable def tab (k : Nat) : Tab El := [(99, Fn.f99.entry k), (125, Fn.f125.entry k)]
noncomputable def env (R : Type) (k : Nat) : Env El R := envOf Go.Proofs.Tryd.prog (tab k) R (fun r => match r with | 5 => true | _ => false) (fun b => match b with | 100005 => vword l100005V (word 0 [] (kept [0, 4] 0 25)) | _ => fun _ => none) (fun b e => match b, e with | 100005, .ret => word 0 [] (kept [2] 0 25) | 100005, .norm => word 0 [] (kept [2] 0 25) | _, _ => fun _ => none)
theorem tabOK (k : Nat) : TabOK Go.Proofs.Tryd.prog (tab k) := TabOK.cons (Fn.f99.ok k) Fn.f99.enter (TabOK.cons (Fn.f125.ok k) Fn.f125.enter (TabOK.nil))
theorem envOK (R : Type) (k : Nat) : EnvOK 0 (env R k) := envOf_ok (by kernel_rfl) (tabOK k) (by intro b; show WOK 0 (match b with | 100005 => vword l100005V (word 0 [] (kept [0, 4] 0 25)) | _ => fun _ => none); split <;> first | exact word_ok _ _ _ | exact vword_ok (word_ok _ _ _) | exact none_ok _) (by intro b e; show WOK 0 (match b, e with | 100005, .ret => word 0 [] (kept [2] 0 25) | 100005, .norm => word 0 [] (kept [2] 0 25) | _, _ => fun _ => none); split <;> first | exact word_ok _ _ _ | exact none_ok _)
noncomputable def l100005 {R : Type} (k : Nat) (ret : ByteArray → Option R) : Int × ByteArray → Option R := fun (t0, t4) => Option.bind (Fn.f99.F k (Go.IntKind.wrap Go.IntKind.i64 (Go.IntKind.wrap Go.IntKind.i64 (Int.tdiv t0 12) - 1))) fun y8 => if (ByteArray.size t4 + ByteArray.size y8 ≤ 9223372036854775807) then (ret (t4 ++ y8)) else (none)
noncomputable def F (k : Nat) : Int → Option (ByteArray) := fun a0 => if (0 ≤ Int.tmod a0 12) then (if (Int.tmod a0 12 ≤ Go.IntKind.wrap Go.IntKind.i64 (Int.tmod a0 12 + 1)) then (if (Go.IntKind.wrap Go.IntKind.i64 (Int.tmod a0 12 + 1) ≤ (↑(ByteArray.size (ByteArray.mk #[99, 32, 100, 32, 101, 102, 32, 103, 32, 97, 32, 98])) : Int)) then (Option.bind (Fn.f125.F k (ByteArray.extract (ByteArray.mk #[99, 32, 100, 32, 101, 102, 32, 103, 32, 97, 32, 98]) (Int.toNat (Option.getD (Option.some (Int.tmod a0 12)) 0)) (Int.toNat (Go.IntKind.wrap Go.IntKind.i64 (Int.tmod a0 12 + 1))))) fun y3 => cond (ByteArray.toList y3 == ByteArray.toList (ByteArray.mk #[])) (if (0 ≤ Go.IntKind.wrap Go.IntKind.i64 (Int.tmod a0 12 - 1)) then (if (Go.IntKind.wrap Go.IntKind.i64 (Int.tmod a0 12 - 1) ≤ Int.tmod a0 12) then (if (Int.tmod a0 12 ≤ (↑(ByteArray.size (ByteArray.mk #[99, 32, 100, 32, 101, 102, 32, 103, 32, 97, 32, 98])) : Int)) then (if (ByteArray.size (ByteArray.extract (ByteArray.mk #[99, 32, 100, 32, 101, 102, 32, 103, 32, 97, 32, 98]) (Int.toNat (Option.getD (Option.some (Go.IntKind.wrap Go.IntKind.i64 (Int.tmod a0 12 - 1))) 0)) (Int.toNat (Int.tmod a0 12))) + ByteArray.size (ByteArray.mk #[35]) ≤ 9223372036854775807) then (l100005 k (fun t2 => some t2) (a0, (ByteArray.extract (ByteArray.mk #[99, 32, 100, 32, 101, 102, 32, 103, 32, 97, 32, 98]) (Int.toNat (Option.getD (Option.some (Go.IntKind.wrap Go.IntKind.i64 (Int.tmod a0 12 - 1))) 0)) (Int.toNat (Int.tmod a0 12)) ++ ByteArray.mk #[35]))) else (none)) else (none)) else (none)) else (none)) (l100005 k (fun t2 => some t2) (a0, y3))) else (none)) else (none)) else (none)
noncomputable def decA : List (D El) → List (Nat × MObj El) → Nat → Option (Int)
  | [(.int .i64 a0)], [], 0 => some a0
  | _, _, _ => none
noncomputable def dec : Out El → Option (ByteArray)
  | ⟨(.str r), [], 0⟩ => some r
  | _ => none
noncomputable def outOf : ByteArray → Out El := fun r => ⟨(.str r), [], 0⟩
noncomputable def L (R : Type) (k : Nat) : LE El R := fun b x K st => match b with
  | 100005 => jell (env R k) k 0 100005 l100005V (fun K p => l100005 k (fun q => K (.ret) (l100005Xret q)) p) x K st
  | b => mexec (env R k) k b (.loop x) K st
theorem told100005L (R : Type) (k : Nat) : Told (L R k) (env R k) k 0 (joinIn Go.Proofs.Tryd.f67 5) = [] := by kernel_rfl
theorem told100005 (R : Type) (k : Nat) : ∀ K st, mexec (env R k) k 0 (joinIn Go.Proofs.Tryd.f67 5) (Env.wrap (env R k) 100005 K) st = L R k 100005 (joinIn Go.Proofs.Tryd.f67 5) K st := jell_eq (lk := fun K p => l100005 k (fun q => K (.ret) (l100005Xret q)) p) l100005S (by intro st p h; unfold l100005V at h; split at h <;> cases h; rfl) (by
  rintro K ⟨t0, t4⟩
  refine (mexecG_eq (L := L R k) _ (by rw [told100005L]; exact trivial) _ _).trans ?_
  kernel_rfl)
theorem told (R : Type) (k : Nat) : Told (L R k) (env R k) k 0 ((Go.Proofs.Tryd.f67.body).getD .skip) = [∀ K st, mexec (env R k) k 0 (joinIn Go.Proofs.Tryd.f67 5) (Env.wrap (env R k) 100005 K) st = L R k 100005 (joinIn Go.Proofs.Tryd.f67 5) K st] := by kernel_rfl
theorem run (k : Nat) (R : Type) (dec : Out El → Option R) st : mexec (env R k) k 0 ((Go.Proofs.Tryd.f67.body).getD .skip) (mend Go.Proofs.Tryd.prog [.tmp 2] [.any] 0 dec) st = mexecG (L R k) (env R k) 0 ((Go.Proofs.Tryd.f67.body).getD .skip) (mend Go.Proofs.Tryd.prog [.tmp 2] [.any] 0 dec) st := mexecG_eq _ (by rw [told]; exact ⟨told100005 R k, trivial⟩) _ _
noncomputable def entry (k : Nat) : Entry El := ⟨[.any], 0, specOf decA (F k) outOf⟩
theorem ok (k : Nat) : FnOK Go.Proofs.Tryd.prog 67 0 (specOf decA (F k) outOf) := fnOK_of (fn := Go.Proofs.Tryd.f67) (c := (Go.Proofs.Tryd.f67.body).getD .skip) (by kernel_rfl) (by kernel_rfl) (envOK _ k) (by kernel_rfl) k [.any] (nt := 25) (by kernel_rfl) (rs := [.tmp 2]) (by kernel_rfl) decA (F k) dec outOf
  (by intro out y h; unfold dec at h; split at h <;> cases h; rfl)
  (by intro ds objs next a h; unfold decA at h; split at h <;> cases h; exact (run k _ dec _).trans (by kernel_rfl))
theorem enter : ∀ args w, (callFunc 67 args).run Go.Proofs.Tryd.prog w = .ok (.enter 67 args) w := fun _ _ => by kernel_rfl
end Fn.f67

namespace Fn.f65
noncomputable def tab (k : Nat) : Tab El := [(30, Fn.f30.entry k), (37, Fn.f37.entry k), (56, Fn.f56.entry k), (67, Fn.f67.entry k)]
noncomputable def env (R : Type) (k : Nat) : Env El R := envOf Go.Proofs.Tryd.prog (tab k) R (fun r => match r with | _ => false) (fun b => match b with | _ => fun _ => none) (fun b e => match b, e with | _, _ => fun _ => none)
theorem tabOK (k : Nat) : TabOK Go.Proofs.Tryd.prog (tab k) := TabOK.cons (Fn.f30.ok k) Fn.f30.enter (TabOK.cons (Fn.f37.ok k) Fn.f37.enter (TabOK.cons (Fn.f56.ok k) Fn.f56.enter (TabOK.cons (Fn.f67.ok k) Fn.f67.enter (TabOK.nil))))
theorem envOK (R : Type) (k : Nat) : EnvOK 1 (env R k) := envOf_ok (by kernel_rfl) (tabOK k) (by intro b; show WOK 1 (match b with | _ => fun _ => none); split <;> first | exact word_ok _ _ _ | exact vword_ok (word_ok _ _ _) | exact none_ok _) (by intro b e; show WOK 1 (match b, e with | _, _ => fun _ => none); split <;> first | exact word_ok _ _ _ | exact none_ok _)
noncomputable def F (k : Nat) : List T.E3 × Int → Option (ByteArray × List T.E3 × Int) := fun (b0_0, b0_1) => Option.bind (Fn.f37.F k (b0_0, b0_1, 0, 127)) fun y0 => Option.bind (Fn.f67.F k y0.1) fun y1 => Option.bind (Fn.f56.F k (y0.2.1, y0.2.2, 3)) fun y2 => cond y2.1 (Option.bind (Fn.f30.F k (y2.2.1, y2.2.2, [ByteArray.mk #[100, 98, 52], ByteArray.mk #[99, 98, 52], ByteArray.mk #[101, 35, 52], ByteArray.mk #[98, 52], ByteArray.mk #[98, 98, 52], ByteArray.mk #[99, 45, 49], ByteArray.mk #[99, 98, 45, 49], ByteArray.mk #[103, 57], ByteArray.mk #[103, 35, 57], ByteArray.mk #[], ByteArray.mk #[104, 52], ByteArray.mk #[99], ByteArray.mk #[99, 35, 35, 52], ByteArray.mk #[99, 49, 48], ByteArray.mk #[99, 45, 50], ByteArray.mk #[32, 52]])) fun y3 => some (y3.1, y3.2.1, y3.2.2)) (some (y1, y2.2.1, y2.2.2))
noncomputable def decA : List (D El) → List (Nat × MObj El) → Nat → Option (List T.E3 × Int)
  | [(.ptr 0 0 0 0)], [(0, .box 25 [(.frz 3 b0_0), (.int .i64 b0_1)])], 1 => some (b0_0, b0_1)
  | _, _, _ => none
noncomputable def dec : Out El → Option (ByteArray × List T.E3 × Int)
  | ⟨(.str r), [(0, .box 25 [(.frz 3 b0_0), (.int .i64 b0_1)])], 1⟩ => some (r, b0_0, b0_1)
  | _ => none
noncomputable def outOf : ByteArray × List T.E3 × Int → Out El := fun (r, b0_0, b0_1) => ⟨(.str r), [(0, .box 25 [(.frz 3 b0_0), (.int .i64 b0_1)])], 1⟩
noncomputable def entry (k : Nat) : Entry El := ⟨[.ref], 1, specOf decA (F k) outOf⟩
theorem ok (k : Nat) : FnOK Go.Proofs.Tryd.prog 65 1 (specOf decA (F k) outOf) := fnOK_of (fn := Go.Proofs.Tryd.f65) (c := (Go.Proofs.Tryd.f65.body).getD .skip) (by kernel_rfl) (by kernel_rfl) (envOK _ k) (by kernel_rfl) k [.any] (nt := 13) (by kernel_rfl) (rs := [.tmp 2]) (by kernel_rfl) decA (F k) dec outOf
  (by intro out y h; unfold dec at h; split at h <;> cases h; rfl)
  (by intro ds objs next a h; unfold decA at h; split at h <;> cases h; kernel_rfl)
theorem enter : ∀ args w, (callFunc 65 args).run Go.Proofs.Tryd.prog w = .ok (.enter 65 args) w := fun _ _ => by kernel_rfl
end Fn.f65

namespace Fn.f126
noncomputable def l0V : St El → Option (List T.E9 × ByteArray × Int × Int)
  | ⟨(.frz 9 t0) :: (.str t1) :: .dead :: .dead :: .dead :: .dead :: .dead :: (.int .i64 t7) :: (.int .i64 t8) :: .dead :: .dead :: .dead :: .dead :: .dead :: .dead :: .dead :: .dead :: .dead :: .dead :: [], [], 0⟩ => some (t0, t1, t7, t8)
  | _ => none
noncomputable def l0S : List T.E9 × ByteArray × Int × Int → St El := fun (t0, t1, t7, t8) => ⟨(.frz 9 t0) :: (.str t1) :: .dead :: .dead :: .dead :: .dead :: .dead :: (.int .i64 t7) :: (.int .i64 t8) :: .dead :: .dead :: .dead :: .dead :: .dead :: .dead :: .dead :: .dead :: .dead :: .dead :: [], [], 0⟩
noncomputable def l0Xret : Int → St El := fun t4 => ⟨.dead :: .dead :: .dead :: .dead :: (.int .i64 t4) :: .dead :: .dead :: .dead :: .dead :: .dead :: .dead :: .dead :: .dead :: .dead :: .dead :: .dead :: .dead :: .dead :: .dead :: [], [], 0⟩
noncomputable def l0Xexit0 : Unit → St El := fun () => ⟨.dead :: .dead :: .dead :: .dead :: .dead :: .dead :: .dead :: .dead :: .dead :: .dead :: .dead :: .dead :: .dead :: .dead :: .dead :: .dead :: .dead :: .dead :: .dead :: [], [], 0⟩
noncomputable def tab (k : Nat) : Tab El := []
noncomputable def env (R : Type) (k : Nat) : Env El R := envOf Go.Proofs.Tryd.prog (tab k) R (fun r => match r with | _ => false) (fun b => match b with | 0 => word 0 [] (kept [0, 1, 7, 8] 0 19) | _ => fun _ => none) (fun b e => match b, e with | 0, .exit 0 => word 0 [] (kept [] 0 19) | 0, .ret => word 0 [] (kept [4] 0 19) | _, _ => fun _ => none)
theorem tabOK (k : Nat) : TabOK Go.Proofs.Tryd.prog (tab k) := TabOK.nil
theorem envOK (R : Type) (k : Nat) : EnvOK 0 (env R k) := envOf_ok (by kernel_rfl) (tabOK k) (by intro b; show WOK 0 (match b with | 0 => word 0 [] (kept [0, 1, 7, 8] 0 19) | _ => fun _ => none); split <;> first | exact word_ok _ _ _ | exact vword_ok (word_ok _ _ _) | exact none_ok _) (by intro b e; show WOK 0 (match b, e with | 0, .exit 0 => word 0 [] (kept [] 0 19) | 0, .ret => word 0 [] (kept [4] 0 19) | _, _ => fun _ => none); split <;> first | exact word_ok _ _ _ | exact none_ok _)
noncomputable def l0T {R : Type} (k : Nat) (ret : Int → Option R) (exit0 : Unit → Option R) (G : List T.E9 × ByteArray × Int × Int → Option R) : List T.E9 × ByteArray × Int × Int → Option R := fun (t0, t1, t7, t8) => cond (Decidable.decide (t8 < t7)) (if (0 ≤ t8) then (if (t8 < (↑(List.length t0) : Int)) then (Option.bind (t0[Int.toNat t8]?) fun y2 => cond (ByteArray.toList t1 == ByteArray.toList y2) (ret t8) (G (t0, t1, t7, (Go.IntKind.wrap Go.IntKind.i64 (t8 + 1))))) else (none)) else (none)) (exit0 ())
noncomputable def l0 {R : Type} (k : Nat) (ret : Int → Option R) (exit0 : Unit → Option R) : Nat → List T.E9 × ByteArray × Int × Int → Option R
  | 0, _ => none
  | n + 1, p => l0T k ret exit0 (l0 k ret exit0 n) p
noncomputable def F (k : Nat) : List T.E9 × ByteArray → Option (Int) := fun (a0, a1) => l0 k (fun t4 => some t4) (fun () => some (-1)) k (a0, a1, ((↑(List.length a0) : Int)), 0)
noncomputable def decA : List (D El) → List (Nat × MObj El) → Nat → Option (List T.E9 × ByteArray)
  | [(.frz 9 a0), (.str a1)], [], 0 => some (a0, a1)
  | _, _, _ => none
noncomputable def dec : Out El → Option (Int)
  | ⟨(.int .i64 r), [], 0⟩ => some r
  | _ => none
noncomputable def outOf : Int → Out El := fun r => ⟨(.int .i64 r), [], 0⟩
noncomputable def L (R : Type) (k : Nat) : LE El R := fun b x K st => match b with
  | 0 => ell (env R k) k 0 l0V (fun K n p => l0 k (fun q => K (.ret) (l0Xret q)) (fun q => K (.exit 0) (l0Xexit0 q)) n p) x K st
  | b => mexec (env R k) k b (.loop x) K st
theorem told0L (R : Type) (k : Nat) : Told (L R k) (env R k) k 0 (loopIn Go.Proofs.Tryd.f126 0) = [] := by kernel_rfl
theorem told0 (R : Type) (k : Nat) : ∀ K st, mexec (env R k) k 0 (.loop (loopIn Go.Proofs.Tryd.f126 0)) K st = L R k 0 (loopIn Go.Proofs.Tryd.f126 0) K st := ell_eq l0S (by intro st p h; unfold l0V at h; split at h <;> cases h; rfl) (fun K G p => l0T k (fun q => K (.ret) (l0Xret q)) (fun q => K (.exit 0) (l0Xexit0 q)) G p) (fun _ _ => rfl) (fun _ _ _ => rfl) (by
  rintro K G ⟨t0, t1, t7, t8⟩
  refine (round_eq (L := L R k) (by rw [told0L]; exact trivial) _ _ _).trans ?_
  kernel_rfl)
theorem told (R : Type) (k : Nat) : Told (L R k) (env R k) k 0 ((Go.Proofs.Tryd.f126.body).getD .skip) = [∀ K st, mexec (env R k) k 0 (.loop (loopIn Go.Proofs.Tryd.f126 0)) K st = L R k 0 (loopIn Go.Proofs.Tryd.f126 0) K st] := by kernel_rfl
theorem run (k : Nat) (R : Type) (dec : Out El → Option R) st : mexec (env R k) k 0 ((Go.Proofs.Tryd.f126.body).getD .skip) (mend Go.Proofs.Tryd.prog [.tmp 4] [.any] 0 dec) st = mexecG (L R k) (env R k) 0 ((Go.Proofs.Tryd.f126.body).getD .skip) (mend Go.Proofs.Tryd.prog [.tmp 4] [.any] 0 dec) st := mexecG_eq _ (by rw [told]; exact ⟨told0 R k, trivial⟩) _ _
noncomputable def entry (k : Nat) : Entry El := ⟨[.frz 9, .any], 0, specOf decA (F k) outOf⟩
theorem ok (k : Nat) : FnOK Go.Proofs.Tryd.prog 126 0 (specOf decA (F k) outOf) := fnOK_of (fn := Go.Proofs.Tryd.f126) (c := (Go.Proofs.Tryd.f126.body).getD .skip) (by kernel_rfl) (by kernel_rfl) (envOK _ k) (by kernel_rfl) k [.any] (nt := 19) (by kernel_rfl) (rs := [.tmp 4]) (by kernel_rfl) decA (F k) dec outOf
  (by intro out y h; unfold dec at h; split at h <;> cases h; rfl)
  (by intro ds objs next a h; unfold decA at h; split at h <;> cases h; exact (run k _ dec _).trans (by kernel_rfl))
theorem enter : ∀ args w, (callFunc 126 args).run Go.Proofs.Tryd.prog w = .ok (.enter 126 args) w := fun _ _ => by kernel_rfl
end Fn.f126

namespace Fn.f128
noncomputable def l100003V : St El → Option (ByteArray × Bool × Bool)
  | ⟨.dead :: .dead :: .dead :: .dead :: .dead :: .dead :: (.str t6) :: (.bool t7) :: .dead :: .dead :: .dead :: .dead :: .dead :: .dead :: .dead :: .dead :: .dead :: .dead :: .dead :: .dead :: .dead :: .dead :: .dead :: .dead :: .dead :: .dead :: .dead :: .dead :: .dead :: .dead :: .dead :: .dead :: .dead :: .dead :: .dead :: .dead :: .dead :: .dead :: .dead :: .dead :: (.bool t40) :: .dead :: .dead :: .dead :: .dead :: .dead :: .dead :: .dead :: .dead :: .dead :: .dead :: .dead :: [], [], 0⟩ => some (t6, t7, t40)
  | _ => none
noncomputable def l100003S : ByteArray × Bool × Bool → St El := fun (t6, t7, t40) => ⟨.dead :: .dead :: .dead :: .dead :: .dead :: .dead :: (.str t6) :: (.bool t7) :: .dead :: .dead :: .dead :: .dead :: .dead :: .dead :: .dead :: .dead :: .dead :: .dead :: .dead :: .dead :: .dead :: .dead :: .dead :: .dead :: .dead :: .dead :: .dead :: .dead :: .dead :: .dead :: .dead :: .dead :: .dead :: .dead :: .dead :: .dead :: .dead :: .dead :: .dead :: .dead :: (.bool t40) :: .dead :: .dead :: .dead :: .dead :: .dead :: .dead :: .dead :: .dead :: .dead :: .dead :: .dead :: [], [], 0⟩
noncomputable def l100003Xret : Int × Bool → St El := fun (t4, t5) => ⟨.dead :: .dead :: .dead :: .dead :: (.int .i64 t4) :: (.bool t5) :: .dead :: .dead :: .dead :: .dead :: .dead :: .dead :: .dead :: .dead :: .dead :: .dead :: .dead :: .dead :: .dead :: .dead :: .dead :: .dead :: .dead :: .dead :: .dead :: .dead :: .dead :: .dead :: .dead :: .dead :: .dead :: .dead :: .dead :: .dead :: .dead :: .dead :: .dead :: .dead :: .dead :: .dead :: .dead :: .dead :: .dead :: .dead :: .dead :: .dead :: .dead :: .dead :: .dead :: .dead :: .dead :: .dead :: [], [], 0⟩
noncomputable def l100003Xnorm : ByteArray × Bool → St El := fun (t6, t7) => ⟨.dead :: .dead :: .dead :: .dead :: .dead :: .dead :: (.str t6) :: (.bool t7) :: .dead :: .dead :: .dead :: .dead :: .dead :: .dead :: .dead :: .dead :: .dead :: .dead :: .dead :: .dead :: .dead :: .dead :: .dead :: .dead :: .dead :: .dead :: .dead :: .dead :: .dead :: .dead :: .dead :: .dead :: .dead :: .dead :: .dead :: .dead :: .dead :: .dead :: .dead :: .dead :: .dead :: .dead :: .dead :: .dead :: .dead :: .dead :: .dead :: .dead :: .dead :: .dead :: .dead :: .dead :: [], [], 0⟩
noncomputable def l100004V : St El → Option (ByteArray × Bool)
  | ⟨.dead :: .dead :: .dead :: .dead :: .dead :: .dead :: (.str t6) :: (.bool t7) :: .dead :: .dead :: .dead :: .dead :: .dead :: .dead :: .dead :: .dead :: .dead :: .dead :: .dead :: .dead :: .dead :: .dead :: .dead :: .dead :: .dead :: .dead :: .dead :: .dead :: .dead :: .dead :: .dead :: .dead :: .dead :: .dead :: .dead :: .dead :: .dead :: .dead :: .dead :: .dead :: .dead :: .dead :: .dead :: .dead :: .dead :: .dead :: .dead :: .dead :: .dead :: .dead :: .dead :: .dead :: [], [], 0⟩ => some (t6, t7)
  | _ => none
noncomputable def l100004S : ByteArray × Bool → St El := fun (t6, t7) => ⟨.dead :: .dead :: .dead :: .dead :: .dead :: .dead :: (.str t6) :: (.bool t7) :: .dead :: .dead :: .dead :: .dead :: .dead :: .dead :: .dead :: .dead :: .dead :: .dead :: .dead :: .dead :: .dead :: .dead :: .dead :: .dead :: .dead :: .dead :: .dead :: .dead :: .dead :: .dead :: .dead :: .dead :: .dead :: .dead :: .dead :: .dead :: .dead :: .dead :: .dead :: .dead :: .dead :: .dead :: .dead :: .dead :: .dead :: .dead :: .dead :: .dead :: .dead :: .dead :: .dead :: .dead :: [], [], 0⟩
noncomputable def l100004Xret : Int × Bool → St El := fun (t4, t5) => ⟨.dead :: .dead :: .dead :: .dead :: (.int .i64 t4) :: (.bool t5) :: .dead :: .dead :: .dead :: .dead :: .dead :: .dead :: .dead :: .dead :: .dead :: .dead :: .dead :: .dead :: .dead :: .dead :: .dead :: .dead :: .dead :: .dead :: .dead :: .dead :: .dead :: .dead :: .dead :: .dead :: .dead :: .dead :: .dead :: .dead :: .dead :: .dead :: .dead :: .dead :: .dead :: .dead :: .dead :: .dead :: .dead :: .dead :: .dead :: .dead :: .dead :: .dead :: .dead :: .dead :: .dead :: .dead :: [], [], 0⟩
noncomputable def tab (k : Nat) : Tab El := [(127, Fn.f127.entry k), (140, Fn.f140.entry k), (162, Fn.f162.entry k)]
noncomputable def env (R : Type) (k : Nat) : Env El R := envOf Go.Proofs.Tryd.prog (tab k) R (fun r => match r with | 4 => true | 3 => true | _ => false) (fun b => match b with | 100004 => vword l100004V (word 0 [] (kept [6, 7] 0 52)) | 100003 => vword l100003V (word 0 [] (kept [6, 7, 40] 0 52)) | _ => fun _ => none) (fun b e => match b, e with | 100004, .ret => word 0 [] (kept [4, 5] 0 52) | 100004, .norm => word 0 [] (kept [4, 5] 0 52) | 100003, .ret => word 0 [] (kept [4, 5] 0 52) | 100003, .norm => word 0 [] (kept [6, 7] 0 52) | _, _ => fun _ => none)
theorem tabOK (k : Nat) : TabOK Go.Proofs.Tryd.prog (tab k) := TabOK.cons (Fn.f127.ok k) Fn.f127.enter (TabOK.cons (Fn.f140.ok k) Fn.f140.enter (TabOK.cons (Fn.f162.ok k) Fn.f162.enter (TabOK.nil)))
theorem envOK (R : Type) (k : Nat) : EnvOK 0 (env R k) := envOf_ok (by kernel_rfl) (tabOK k) (by intro b; show WOK 0 (match b with | 100004 => vword l100004V (word 0 [] (kept [6, 7] 0 52)) | 100003 => vword l100003V (word 0 [] (kept [6, 7, 40] 0 52)) | _ => fun _ => none); split <;> first | exact word_ok _ _ _ | exact vword_ok (word_ok _ _ _) | exact none_ok _) (by intro b e; show WOK 0 (match b, e with | 100004, .ret => word 0 [] (kept [4, 5] 0 52) | 100004, .norm => word 0 [] (kept [4, 5] 0 52) | 100003, .ret => word 0 [] (kept [4, 5] 0 52) | 100003, .norm => word 0 [] (kept [6, 7] 0 52) | _, _ => fun _ => none); split <;> first | exact word_ok _ _ _ | exact none_ok _)
noncomputable def l100003 {R : Type} (k : Nat) (ret : Int × Bool → Option R) (norm : ByteArray × Bool → Option R) : ByteArray × Bool × Bool → Option R := fun (t6, t7, t40) => cond t40 (ret (0, Bool.false)) (norm (t6, t7))
noncomputable def l100004 {R : Type} (k : Nat) (ret : Int × Bool → Option R) : ByteArray × Bool → Option R := fun (t6, t7) => Option.bind (Fn.f162.F k t6) fun y0 => cond t7 (ret ((Go.IntKind.wrap Go.IntKind.i64 (0 - y0)), Bool.true)) (ret (y0, Bool.true))
noncomputable def F (k : Nat) : ByteArray × Int → Option (Int × Bool) := fun (a0, a1) => cond (ByteArray.toList (Prod.fst (ByteArray.mk (List.toArray (Go.Lib.trimPrefix (Array.toList (ByteArray.data a0)) (Array.toList (ByteArray.data (ByteArray.mk #[45]))))), Go.Lib.hasPrefix (Array.toList (ByteArray.data a0)) (Array.toList (ByteArray.data (ByteArray.mk #[45]))))) == ByteArray.toList (ByteArray.mk #[])) (l100003 k (fun (t4, t5) => some (t4, t5)) (fun (t6, t7) => l100004 k (fun (t4, t5) => some (t4, t5)) (t6, t7)) ((Prod.fst (ByteArray.mk (List.toArray (Go.Lib.trimPrefix (Array.toList (ByteArray.data a0)) (Array.toList (ByteArray.data (ByteArray.mk #[45]))))), Go.Lib.hasPrefix (Array.toList (ByteArray.data a0)) (Array.toList (ByteArray.data (ByteArray.mk #[45]))))), (Prod.snd (ByteArray.mk (List.toArray (Go.Lib.trimPrefix (Array.toList (ByteArray.data a0)) (Array.toList (ByteArray.data (ByteArray.mk #[45]))))), Go.Lib.hasPrefix (Array.toList (ByteArray.data a0)) (Array.toList (ByteArray.data (ByteArray.mk #[45]))))), Bool.true)) (cond (Decidable.decide ((↑(ByteArray.size (Prod.fst (ByteArray.mk (List.toArray (Go.Lib.trimPrefix (Array.toList (ByteArray.data a0)) (Array.toList (ByteArray.data (ByteArray.mk #[45]))))), Go.Lib.hasPrefix (Array.toList (ByteArray.data a0)) (Array.toList (ByteArray.data (ByteArray.mk #[45])))))) : Int) > a1)) (l100003 k (fun (t4, t5) => some (t4, t5)) (fun (t6, t7) => l100004 k (fun (t4, t5) => some (t4, t5)) (t6, t7)) ((Prod.fst (ByteArray.mk (List.toArray (Go.Lib.trimPrefix (Array.toList (ByteArray.data a0)) (Array.toList (ByteArray.data (ByteArray.mk #[45]))))), Go.Lib.hasPrefix (Array.toList (ByteArray.data a0)) (Array.toList (ByteArray.data (ByteArray.mk #[45]))))), (Prod.snd (ByteArray.mk (List.toArray (Go.Lib.trimPrefix (Array.toList (ByteArray.data a0)) (Array.toList (ByteArray.data (ByteArray.mk #[45]))))), Go.Lib.hasPrefix (Array.toList (ByteArray.data a0)) (Array.toList (ByteArray.data (ByteArray.mk #[45]))))), Bool.true)) (Option.bind (Fn.f140.F k (Prod.fst (ByteArray.mk (List.toArray (Go.Lib.trimPrefix (Array.toList (ByteArray.data a0)) (Array.toList (ByteArray.data (ByteArray.mk #[45]))))), Go.Lib.hasPrefix (Array.toList (ByteArray.data a0)) (Array.toList (ByteArray.data (ByteArray.mk #[45])))), ByteArray.mk #[48, 49, 50, 51, 52, 53, 54, 55, 56, 57])) fun y1 => cond (!ByteArray.toList y1 == ByteArray.toList (ByteArray.mk #[])) (l100003 k (fun (t4, t5) => some (t4, t5)) (fun (t6, t7) => l100004 k (fun (t4, t5) => some (t4, t5)) (t6, t7)) ((Prod.fst (ByteArray.mk (List.toArray (Go.Lib.trimPrefix (Array.toList (ByteArray.data a0)) (Array.toList (ByteArray.data (ByteArray.mk #[45]))))), Go.Lib.hasPrefix (Array.toList (ByteArray.data a0)) (Array.toList (ByteArray.data (ByteArray.mk #[45]))))), (Prod.snd (ByteArray.mk (List.toArray (Go.Lib.trimPrefix (Array.toList (ByteArray.data a0)) (Array.toList (ByteArray.data (ByteArray.mk #[45]))))), Go.Lib.hasPrefix (Array.toList (ByteArray.data a0)) (Array.toList (ByteArray.data (ByteArray.mk #[45]))))), Bool.true)) (if (0 < (↑(ByteArray.size (Prod.fst (ByteArray.mk (List.toArray (Go.Lib.trimPrefix (Array.toList (ByteArray.data a0)) (Array.toList (ByteArray.data (ByteArray.mk #[45]))))), Go.Lib.hasPrefix (Array.toList (ByteArray.data a0)) (Array.toList (ByteArray.data (ByteArray.mk #[45])))))) : Int)) then (cond (Go.M.bt (Prod.fst (ByteArray.mk (List.toArray (Go.Lib.trimPrefix (Array.toList (ByteArray.data a0)) (Array.toList (ByteArray.data (ByteArray.mk #[45]))))), Go.Lib.hasPrefix (Array.toList (ByteArray.data a0)) (Array.toList (ByteArray.data (ByteArray.mk #[45]))))) 0 == 48) (cond (Decidable.decide ((↑(ByteArray.size (Prod.fst (ByteArray.mk (List.toArray (Go.Lib.trimPrefix (Array.toList (ByteArray.data a0)) (Array.toList (ByteArray.data (ByteArray.mk #[45]))))), Go.Lib.hasPrefix (Array.toList (ByteArray.data a0)) (Array.toList (ByteArray.data (ByteArray.mk #[45])))))) : Int) > 1)) (l100003 k (fun (t4, t5) => some (t4, t5)) (fun (t6, t7) => l100004 k (fun (t4, t5) => some (t4, t5)) (t6, t7)) ((Prod.fst (ByteArray.mk (List.toArray (Go.Lib.trimPrefix (Array.toList (ByteArray.data a0)) (Array.toList (ByteArray.data (ByteArray.mk #[45]))))), Go.Lib.hasPrefix (Array.toList (ByteArray.data a0)) (Array.toList (ByteArray.data (ByteArray.mk #[45]))))), (Prod.snd (ByteArray.mk (List.toArray (Go.Lib.trimPrefix (Array.toList (ByteArray.data a0)) (Array.toList (ByteArray.data (ByteArray.mk #[45]))))), Go.Lib.hasPrefix (Array.toList (ByteArray.data a0)) (Array.toList (ByteArray.data (ByteArray.mk #[45]))))), Bool.true)) (l100003 k (fun (t4, t5) => some (t4, t5)) (fun (t6, t7) => l100004 k (fun (t4, t5) => some (t4, t5)) (t6, t7)) ((Prod.fst (ByteArray.mk (List.toArray (Go.Lib.trimPrefix (Array.toList (ByteArray.data a0)) (Array.toList (ByteArray.data (ByteArray.mk #[45]))))), Go.Lib.hasPrefix (Array.toList (ByteArray.data a0)) (Array.toList (ByteArray.data (ByteArray.mk #[45]))))), (Prod.snd (ByteArray.mk (List.toArray (Go.Lib.trimPrefix (Array.toList (ByteArray.data a0)) (Array.toList (ByteArray.data (ByteArray.mk #[45]))))), Go.Lib.hasPrefix (Array.toList (ByteArray.data a0)) (Array.toList (ByteArray.data (ByteArray.mk #[45]))))), (Prod.snd (ByteArray.mk (List.toArray (Go.Lib.trimPrefix (Array.toList (ByteArray.data a0)) (Array.toList (ByteArray.data (ByteArray.mk #[45]))))), Go.Lib.hasPrefix (Array.toList (ByteArray.data a0)) (Array.toList (ByteArray.data (ByteArray.mk #[45])))))))) (l100003 k (fun (t4, t5) => some (t4, t5)) (fun (t6, t7) => l100004 k (fun (t4, t5) => some (t4, t5)) (t6, t7)) ((Prod.fst (ByteArray.mk (List.toArray (Go.Lib.trimPrefix (Array.toList (ByteArray.data a0)) (Array.toList (ByteArray.data (ByteArray.mk #[45]))))), Go.Lib.hasPrefix (Array.toList (ByteArray.data a0)) (Array.toList (ByteArray.data (ByteArray.mk #[45]))))), (Prod.snd (ByteArray.mk (List.toArray (Go.Lib.trimPrefix (Array.toList (ByteArray.data a0)) (Array.toList (ByteArray.data (ByteArray.mk #[45]))))), Go.Lib.hasPrefix (Array.toList (ByteArray.data a0)) (Array.toList (ByteArray.data (ByteArray.mk #[45]))))), Bool.false))) else (none))))
noncomputable def decA : List (D El) → List (Nat × MObj El) → Nat → Option (ByteArray × Int)
  | [(.str a0), (.int .i64 a1)], [], 0 => some (a0, a1)
  | _, _, _ => none
noncomputable def dec : Out El → Option (Int × Bool)
  | ⟨(.tup [(.int .i64 r_0), (.bool r_1)]), [], 0⟩ => some (r_0, r_1)
  | _ => none
noncomputable def outOf : Int × Bool → Out El := fun (r_0, r_1) => ⟨(.tup [(.int .i64 r_0), (.bool r_1)]), [], 0⟩
noncomputable def L (R : Type) (k : Nat) : LE El R := fun b x K st => match b with
  | 100004 => jell (env R k) k 0 100004 l100004V (fun K p => l100004 k (fun q => K (.ret) (l100004Xret q)) p) x K st
  | 100003 => jell (env R k) k 0 100003 l100003V (fun K p => l100003 k (fun q => K (.ret) (l100003Xret q)) (fun q => K (.norm) (l100003Xnorm q)) p) x K st
  | b => mexec (env R k) k b (.loop x) K st
theorem told100004L (R : Type) (k : Nat) : Told (L R k) (env R k) k 0 (joinIn Go.Proofs.Tryd.f128 4) = [] := by kernel_rfl
theorem told100004 (R : Type) (k : Nat) : ∀ K st, mexec (env R k) k 0 (joinIn Go.Proofs.Tryd.f128 4) (Env.wrap (env R k) 100004 K) st = L R k 100004 (joinIn Go.Proofs.Tryd.f128 4) K st := jell_eq (lk := fun K p => l100004 k (fun q => K (.ret) (l100004Xret q)) p) l100004S (by intro st p h; unfold l100004V at h; split at h <;> cases h; rfl) (by
  rintro K ⟨t6, t7⟩
  refine (mexecG_eq (L := L R k) _ (by rw [told100004L]; exact trivial) _ _).trans ?_
  kernel_rfl)
theorem told100003L (R : Type) (k : Nat) : Told (L R k) (env R k) k 0 (joinIn Go.Proofs.Tryd.f128 3) = [] := by kernel_rfl
theorem told100003 (R : Type) (k : Nat) : ∀ K st, mexec (env R k) k 0 (joinIn Go.Proofs.Tryd.f128 3) (Env.wrap (env R k) 100003 K) st = L R k 100003 (joinIn Go.Proofs.Tryd.f128 3) K st := jell_eq (lk := fun K p => l100003 k (fun q => K (.ret) (l100003Xret q)) (fun q => K (.norm) (l100003Xnorm q)) p) l100003S (by intro st p h; unfold l100003V at h; split at h <;> cases h; rfl) (by
  rintro K ⟨t6, t7, t40⟩
  refine (mexecG_eq (L := L R k) _ (by rw [told100003L]; exact trivial) _ _).trans ?_
  kernel_rfl)
theorem told (R : Type) (k : Nat) : Told (L R k) (env R k) k 0 ((Go.Proofs.Tryd.f128.body).getD .skip) = [∀ K st, mexec (env R k) k 0 (joinIn Go.Proofs.Tryd.f128 3) (Env.wrap (env R k) 100003 K) st = L R k 100003 (joinIn Go.Proofs.Tryd.f128 3) K st, ∀ K st, mexec (env R k) k 0 (joinIn Go.Proofs.Tryd.f128 4) (Env.wrap (env R k) 100004 K) st = L R k 100004 (joinIn Go.Proofs.Tryd.f128 4) K st] := by kernel_rfl
theorem run (k : Nat) (R : Type) (dec : Out El → Option R) st : mexec (env R k) k 0 ((Go.Proofs.Tryd.f128.body).getD .skip) (mend Go.Proofs.Tryd.prog [.tmp 4, .tmp 5] [.any, .any] 0 dec) st = mexecG (L R k) (env R k) 0 ((Go.Proofs.Tryd.f128.body).getD .skip) (mend Go.Proofs.Tryd.prog [.tmp 4, .tmp 5] [.any, .any] 0 dec) st := mexecG_eq _ (by rw [told]; exact ⟨told100003 R k, told100004 R k, trivial⟩) _ _
noncomputable def entry (k : Nat) : Entry El := ⟨[.any, .any], 0, specOf decA (F k) outOf⟩
theorem ok (k : Nat) : FnOK Go.Proofs.Tryd.prog 128 0 (specOf decA (F k) outOf) := fnOK_of (fn := Go.Proofs.Tryd.f128) (c := (Go.Proofs.Tryd.f128.body).getD .skip) (by kernel_rfl) (by kernel_rfl) (envOK _ k) (by kernel_rfl) k [.any, .any] (nt := 52) (by kernel_rfl) (rs := [.tmp 4, .tmp 5]) (by kernel_rfl) decA (F k) dec outOf
  (by intro out y h; unfold dec at h; split at h <;> cases h; rfl)
  (by intro ds objs next a h; unfold decA at h; split at h <;> cases h; exact (run k _ dec _).trans (by kernel_rfl))
theorem enter : ∀ args w, (callFunc 128 args).run Go.Proofs.Tryd.prog w = .ok (.enter 128 args) w := fun _ _ => by kernel_rfl
end Fn.f128

namespace Fn.f68
noncomputable def l100015V : St El → Option (Int × ByteArray)
  | ⟨.dead :: .dead :: .dead :: .dead :: (.int .i64 t4) :: (.str t5) :: .dead :: .dead :: .dead :: .dead :: .dead :: .dead :: .dead :: .dead :: .dead :: .dead :: .dead :: .dead :: .dead :: .dead :: .dead :: .dead :: .dead :: .dead :: .dead :: .dead :: .dead :: .dead :: .dead :: .dead :: .dead :: .dead :: .dead :: .dead :: .dead :: .dead :: .dead :: .dead :: .dead :: .dead :: .dead :: .dead :: .dead :: .dead :: .dead :: .dead :: .dead :: .dead :: .dead :: .dead :: .dead :: .dead :: .dead :: .dead :: .dead :: [], [], 0⟩ => some (t4, t5)
  | _ => none
noncomputable def l100015S : Int × ByteArray → St El := fun (t4, t5) => ⟨.dead :: .dead :: .dead :: .dead :: (.int .i64 t4) :: (.str t5) :: .dead :: .dead :: .dead :: .dead :: .dead :: .dead :: .dead :: .dead :: .dead :: .dead :: .dead :: .dead :: .dead :: .dead :: .dead :: .dead :: .dead :: .dead :: .dead :: .dead :: .dead :: .dead :: .dead :: .dead :: .dead :: .dead :: .dead :: .dead :: .dead :: .dead :: .dead :: .dead :: .dead :: .dead :: .dead :: .dead :: .dead :: .dead :: .dead :: .dead :: .dead :: .dead :: .dead :: .dead :: .dead :: .dead :: .dead :: .dead :: .dead :: [], [], 0⟩
noncomputable def l100015Xret : Int × Int → St El := fun (t2, t3) => ⟨.dead :: .dead :: (.int .i64 t2) :: (.int .i64 t3) :: .dead :: .dead :: .dead :: .dead :: .dead :: .dead :: .dead :: .dead :: .dead :: .dead :: .dead :: .dead :: .dead :: .dead :: .dead :: .dead :: .dead :: .dead :: .dead :: .dead :: .dead :: .dead :: .dead :: .dead :: .dead :: .dead :: .dead :: .dead :: .dead :: .dead :: .dead :: .dead :: .dead :: .dead :: .dead :: .dead :: .dead :: .dead :: .dead :: .dead :: .dead :: .dead :: .dead :: .dead :: .dead :: .dead :: .dead :: .dead :: .dead :: .dead :: .dead :: [], [], 0⟩
noncomputable def tab (k : Nat) : Tab El := [(74, Fn.f74.entry k), (124, Fn.f124.entry k), (126, Fn.f126.entry k), (127, Fn.f127.entry k), (128, Fn.f128.entry k)]
noncomputable def env (R : Type) (k : Nat) : Env El R := envOf Go.Proofs.Tryd.prog (tab k) R (fun r => match r with | 15 => true | _ => false) (fun b => match b with | 100015 => vword l100015V (word 0 [] (kept [4, 5] 0 55)) | _ => fun _ => none) (fun b e => match b, e with | 100015, .ret => word 0 [] (kept [2, 3] 0 55) | 100015, .norm => word 0 [] (kept [2, 3] 0 55) | _, _ => fun _ => none)
theorem tabOK (k : Nat) : TabOK Go.Proofs.Tryd.prog (tab k) := TabOK.cons (Fn.f74.ok k) Fn.f74.enter (TabOK.cons (Fn.f124.ok k) Fn.f124.enter (TabOK.cons (Fn.f126.ok k) Fn.f126.enter (TabOK.cons (Fn.f127.ok k) Fn.f127.enter (TabOK.cons (Fn.f128.ok k) Fn.f128.enter (TabOK.nil)))))
theorem envOK (R : Type) (k : Nat) : EnvOK 0 (env R k) := envOf_ok (by kernel_rfl) (tabOK k) (by intro b; show WOK 0 (match b with | 100015 => vword l100015V (word 0 [] (kept [4, 5] 0 55)) | _ => fun _ => none); split <;> first | exact word_ok _ _ _ | exact vword_ok (word_ok _ _ _) | exact none_ok _) (by intro b e; show WOK 0 (match b, e with | 100015, .ret => word 0 [] (kept [2, 3] 0 55) | 100015, .norm => word 0 [] (kept [2, 3] 0 55) | _, _ => fun _ => none); split <;> first | exact word_ok _ _ _ | exact none_ok _)
noncomputable def l100015 {R : Type} (k : Nat) (ret : Int × Int → Option R) : Int × ByteArray → Option R := fun (t4, t5) => Option.bind (Fn.f128.F k (t5, 1)) fun y3 => cond (!y3.2) (ret (0, 9)) (Option.bind (Fn.f74.F k (Go.IntKind.wrap Go.IntKind.i64 (t4 + Go.IntKind.wrap Go.IntKind.i64 (12 * Go.IntKind.wrap Go.IntKind.i64 (y3.1 + 1))), 0, 127)) fun y4 => cond y4 (ret (0, 1)) (ret ((Go.IntKind.wrap Go.IntKind.i64 (t4 + Go.IntKind.wrap Go.IntKind.i64 (12 * Go.IntKind.wrap Go.IntKind.i64 (y3.1 + 1)))), 0)))
noncomputable def F (k : Nat) : ByteArray → Option (Int × Int) := fun a0 => cond (ByteArray.toList a0 == ByteArray.toList (ByteArray.mk #[])) (some (0, 9)) (if (1 ≤ (↑(ByteArray.size a0) : Int)) then (Option.bind (Fn.f126.F k ([ByteArray.mk #[99], ByteArray.mk #[99, 35], ByteArray.mk #[100], ByteArray.mk #[100, 35], ByteArray.mk #[101], ByteArray.mk #[102], ByteArray.mk #[102, 35], ByteArray.mk #[103], ByteArray.mk #[103, 35], ByteArray.mk #[97], ByteArray.mk #[97, 35], ByteArray.mk #[98]], ByteArray.extract a0 (Int.toNat (Option.getD Option.none 0)) (Int.toNat 1))) fun y1 => cond (Decidable.decide (y1 < 0)) (some (0, 9)) (if (1 ≤ (↑(ByteArray.size a0) : Int)) then (cond (Prod.snd (ByteArray.mk (List.toArray (Go.Lib.trimPrefix (Array.toList (ByteArray.data (ByteArray.extract a0 (Int.toNat (Option.getD (Option.some 1) 0)) (ByteArray.size a0)))) (Array.toList (ByteArray.data (ByteArray.mk #[35]))))), Go.Lib.hasPrefix (Array.toList (ByteArray.data (ByteArray.extract a0 (Int.toNat (Option.getD (Option.some 1) 0)) (ByteArray.size a0)))) (Array.toList (ByteArray.data (ByteArray.mk #[35]))))) (l100015 k (fun (t2, t3) => some (t2, t3)) ((Go.IntKind.wrap Go.IntKind.i64 (y1 + 1)), (Prod.fst (ByteArray.mk (List.toArray (Go.Lib.trimPrefix (Array.toList (ByteArray.data (ByteArray.extract a0 (Int.toNat (Option.getD (Option.some 1) 0)) (ByteArray.size a0)))) (Array.toList (ByteArray.data (ByteArray.mk #[35]))))), Go.Lib.hasPrefix (Array.toList (ByteArray.data (ByteArray.extract a0 (Int.toNat (Option.getD (Option.some 1) 0)) (ByteArray.size a0)))) (Array.toList (ByteArray.data (ByteArray.mk #[35]))))))) (cond (Prod.snd (ByteArray.mk (List.toArray (Go.Lib.trimPrefix (Array.toList (ByteArray.data (ByteArray.extract a0 (Int.toNat (Option.getD (Option.some 1) 0)) (ByteArray.size a0)))) (Array.toList (ByteArray.data (ByteArray.mk #[98]))))), Go.Lib.hasPrefix (Array.toList (ByteArray.data (ByteArray.extract a0 (Int.toNat (Option.getD (Option.some 1) 0)) (ByteArray.size a0)))) (Array.toList (ByteArray.data (ByteArray.mk #[98]))))) (l100015 k (fun (t2, t3) => some (t2, t3)) ((Go.IntKind.wrap Go.IntKind.i64 (y1 - 1)), (Prod.fst (ByteArray.mk (List.toArray (Go.Lib.trimPrefix (Array.toList (ByteArray.data (ByteArray.extract a0 (Int.toNat (Option.getD (Option.some 1) 0)) (ByteArray.size a0)))) (Array.toList (ByteArray.data (ByteArray.mk #[98]))))), Go.Lib.hasPrefix (Array.toList (ByteArray.data (ByteArray.extract a0 (Int.toNat (Option.getD (Option.some 1) 0)) (ByteArray.size a0)))) (Array.toList (ByteArray.data (ByteArray.mk #[98]))))))) (l100015 k (fun (t2, t3) => some (t2, t3)) (y1, (ByteArray.extract a0 (Int.toNat (Option.getD (Option.some 1) 0)) (ByteArray.size a0)))))) else (none))) else (none))
noncomputable def decA : List (D El) → List (Nat × MObj El) → Nat → Option (ByteArray)
  | [(.str a0)], [], 0 => some a0
  | _, _, _ => none
noncomputable def dec : Out El → Option (Int × Int)
  | ⟨(.tup [(.int .i64 r_0), (.int .i64 r_1)]), [], 0⟩ => some (r_0, r_1)
  | _ => none
noncomputable def outOf : Int × Int → Out El := fun (r_0, r_1) => ⟨(.tup [(.int .i64 r_0), (.int .i64 r_1)]), [], 0⟩
noncomputable def L (R : Type) (k : Nat) : LE El R := fun b x K st => match b with
  | 100015 => jell (env R k) k 0 100015 l100015V (fun K p => l100015 k (fun q => K (.ret) (l100015Xret q)) p) x K st
  | b => mexec (env R k) k b (.loop x) K st
theorem told100015L (R : Type) (k : Nat) : Told (L R k) (env R k) k 0 (joinIn Go.Proofs.Tryd.f68 15) = [] := by kernel_rfl
theorem told100015 (R : Type) (k : Nat) : ∀ K st, mexec (env R k) k 0 (joinIn Go.Proofs.Tryd.f68 15) (Env.wrap (env R k) 100015 K) st = L R k 100015 (joinIn Go.Proofs.Tryd.f68 15) K st := jell_eq (lk := fun K p => l100015 k (fun q => K (.ret) (l100015Xret q)) p) l100015S (by intro st p h; unfold l100015V at h; split at h <;> cases h; rfl) (by
  rintro K ⟨t4, t5⟩
  refine (mexecG_eq (L := L R k) _ (by rw [told100015L]; exact trivial) _ _).trans ?_
  kernel_rfl)
theorem told (R : Type) (k : Nat) : Told (L R k) (env R k) k 0 ((Go.Proofs.Tryd.f68.body).getD .skip) = [∀ K st, mexec (env R k) k 0 (joinIn Go.Proofs.Tryd.f68 15) (Env.wrap (env R k) 100015 K) st = L R k 100015 (joinIn Go.Proofs.Tryd.f68 15) K st] := by kernel_rfl
theorem run (k : Nat) (R : Type) (dec : Out El → Option R) st : mexec (env R k) k 0 ((Go.Proofs.Tryd.f68.body).getD .skip) (mend Go.Proofs.Tryd.prog [.tmp 2, .tmp 3] [.any, .any] 0 dec) st = mexecG (L R k) (env R k) 0 ((Go.Proofs.Tryd.f68.body).getD .skip) (mend Go.Proofs.Tryd.prog [.tmp 2, .tmp 3] [.any, .any] 0 dec) st := mexecG_eq _ (by rw [told]; exact ⟨told100015 R k, trivial⟩) _ _
noncomputable def entry (k : Nat) : Entry El := ⟨[.any], 0, specOf decA (F k) outOf⟩
theorem ok (k : Nat) : FnOK Go.Proofs.Tryd.prog 68 0 (specOf decA (F k) outOf) := fnOK_of (fn := Go.Proofs.Tryd.f68) (c := (Go.Proofs.Tryd.f68.body).getD .skip) (by kernel_rfl) (by kernel_rfl) (envOK _ k) (by kernel_rfl) k [.any, .any] (nt := 55) (by kernel_rfl) (rs := [.tmp 2, .tmp 3]) (by kernel_rfl) decA (F k) dec outOf
  (by intro out y h; unfold dec at h; split at h <;> cases h; rfl)
  (by intro ds objs next a h; unfold decA at h; split at h <;> cases h; exact (run k _ dec _).trans (by kernel_rfl))
theorem enter : ∀ args w, (callFunc 68 args).run Go.Proofs.Tryd.prog w = .ok (.enter 68 args) w := fun _ _ => by kernel_rfl
end Fn.f68

namespace Fn.f164
noncomputable def tab (k : Nat) : Tab El := []
noncomputable def env (R : Type) (k : Nat) : Env El R := envOf Go.Proofs.Tryd.prog (tab k) R (fun r => match r with | _ => false) (fun b => match b with | _ => fun _ => none) (fun b e => match b, e with | _, _ => fun _ => none)
theorem tabOK (k : Nat) : TabOK Go.Proofs.Tryd.prog (tab k) := TabOK.nil
theorem envOK (R : Type) (k : Nat) : EnvOK 0 (env R k) := envOf_ok (by kernel_rfl) (tabOK k) (by intro b; show WOK 0 (match b with | _ => fun _ => none); split <;> first | exact word_ok _ _ _ | exact vword_ok (word_ok _ _ _) | exact none_ok _) (by intro b e; show WOK 0 (match b, e with | _, _ => fun _ => none); split <;> first | exact word_ok _ _ _ | exact none_ok _)
noncomputable def F (k : Nat) : ByteArray × ByteArray → Option (Bool) := fun (a0, a1) => cond (Decidable.decide ((↑(ByteArray.size a0) : Int) ≥ (↑(ByteArray.size a1) : Int))) (if ((↑(ByteArray.size a1) : Int) ≤ (↑(ByteArray.size a0) : Int)) then (some (ByteArray.toList (ByteArray.extract a0 (Int.toNat (Option.getD Option.none 0)) (Int.toNat (↑(ByteArray.size a1) : Int))) == ByteArray.toList a1)) else (none)) (some Bool.false)
noncomputable def decA : List (D El) → List (Nat × MObj El) → Nat → Option (ByteArray × ByteArray)
  | [(.str a0), (.str a1)], [], 0 => some (a0, a1)
  | _, _, _ => none
noncomputable def dec : Out El → Option (Bool)
  | ⟨(.bool r), [], 0⟩ => some r
  | _ => none
noncomputable def outOf : Bool → Out El := fun r => ⟨(.bool r), [], 0⟩
noncomputable def entry (k : Nat) : Entry El := ⟨[.any, .any], 0, specOf decA (F k) outOf⟩
theorem ok (k : Nat) : FnOK Go.Proofs.Tryd.prog 164 0 (specOf decA (F k) outOf) := fnOK_of (fn := Go.Proofs.Tryd.f164) (c := (Go.Proofs.Tryd.f164.body).getD .skip) (by kernel_rfl) (by kernel_rfl) (envOK _ k) (by kernel_rfl) k [.any] (nt := 18) (by kernel_rfl) (rs := [.tmp 4]) (by kernel_rfl) decA (F k) dec outOf
  (by intro out y h; unfold dec at h; split at h <;> cases h; rfl)
  (by intro ds objs next a h; unfold decA at h; split at h <;> cases h; kernel_rfl)
theorem enter : ∀ args w, (callFunc 164 args).run Go.Proofs.Tryd.prog w = .ok (.enter 164 args) w := fun _ _ => by kernel_rfl
end Fn.f164

namespace Fn.f130
noncomputable def tab (k : Nat) : Tab El := [(164, Fn.f164.entry k)]
noncomputable def env (R : Type) (k : Nat) : Env El R := envOf Go.Proofs.Tryd.prog (tab k) R (fun r => match r with | _ => false) (fun b => match b with | _ => fun _ => none) (fun b e => match b, e with | _, _ => fun _ => none)
theorem tabOK (k : Nat) : TabOK Go.Proofs.Tryd.prog (tab k) := TabOK.cons (Fn.f164.ok k) Fn.f164.enter (TabOK.nil)
theorem envOK (R : Type) (k : Nat) : EnvOK 0 (env R k) := envOf_ok (by kernel_rfl) (tabOK k) (by intro b; show WOK 0 (match b with | _ => fun _ => none); split <;> first | exact word_ok _ _ _ | exact vword_ok (word_ok _ _ _) | exact none_ok _) (by intro b e; show WOK 0 (match b, e with | _, _ => fun _ => none); split <;> first | exact word_ok _ _ _ | exact none_ok _)
noncomputable def F (k : Nat) : ByteArray × ByteArray → Option (Bool) := fun (a0, a1) => Option.bind (Fn.f164.F k (a0, a1)) fun y0 => some y0
noncomputable def decA : List (D El) → List (Nat × MObj El) → Nat → Option (ByteArray × ByteArray)
  | [(.str a0), (.str a1)], [], 0 => some (a0, a1)
  | _, _, _ => none
noncomputable def dec : Out El → Option (Bool)
  | ⟨(.bool r), [], 0⟩ => some r
  | _ => none
noncomputable def outOf : Bool → Out El := fun r => ⟨(.bool r), [], 0⟩
noncomputable def entry (k : Nat) : Entry El := ⟨[.any, .any], 0, specOf decA (F k) outOf⟩
theorem ok (k : Nat) : FnOK Go.Proofs.Tryd.prog 130 0 (specOf decA (F k) outOf) := fnOK_of (fn := Go.Proofs.Tryd.f130) (c := (Go.Proofs.Tryd.f130.body).getD .skip) (by kernel_rfl) (by kernel_rfl) (envOK _ k) (by kernel_rfl) k [.any] (nt := 8) (by kernel_rfl) (rs := [.tmp 4]) (by kernel_rfl) decA (F k) dec outOf
  (by intro out y h; unfold dec at h; split at h <;> cases h; rfl)
  (by intro ds objs next a h; unfold decA at h; split at h <;> cases h; kernel_rfl)
theorem enter : ∀ args w, (callFunc 130 args).run Go.Proofs.Tryd.prog w = .ok (.enter 130 args) w := fun _ _ => by kernel_rfl
end Fn.f130

namespace Fn.f203
noncomputable def tab (k : Nat) : Tab El := [(164, Fn.f164.entry k)]
noncomputable def env (R : Type) (k : Nat) : Env El R := envOf Go.Proofs.Tryd.prog (tab k) R (fun r => match r with | _ => false) (fun b => match b with | _ => fun _ => none) (fun b e => match b, e with | _, _ => fun _ => none)
theorem tabOK (k : Nat) : TabOK Go.Proofs.Tryd.prog (tab k) := TabOK.cons (Fn.f164.ok k) Fn.f164.enter (TabOK.nil)
theorem envOK (R : Type) (k : Nat) : EnvOK 0 (env R k) := envOf_ok (by kernel_rfl) (tabOK k) (by intro b; show WOK 0 (match b with | _ => fun _ => none); split <;> first | exact word_ok _ _ _ | exact vword_ok (word_ok _ _ _) | exact none_ok _) (by intro b e; show WOK 0 (match b, e with | _, _ => fun _ => none); split <;> first | exact word_ok _ _ _ | exact none_ok _)
noncomputable def F (k : Nat) : ByteArray × ByteArray → Option (ByteArray) := fun (a0, a1) => Option.bind (Fn.f164.F k (a0, a1)) fun y0 => cond y0 (if ((↑(ByteArray.size a1) : Int) ≤ (↑(ByteArray.size a0) : Int)) then (some (ByteArray.extract a0 (Int.toNat (Option.getD (Option.some (↑(ByteArray.size a1) : Int)) 0)) (ByteArray.size a0))) else (none)) (some a0)
noncomputable def decA : List (D El) → List (Nat × MObj El) → Nat → Option (ByteArray × ByteArray)
  | [(.str a0), (.str a1)], [], 0 => some (a0, a1)
  | _, _, _ => none
noncomputable def dec : Out El → Option (ByteArray)
  | ⟨(.str r), [], 0⟩ => some r
  | _ => none
noncomputable def outOf : ByteArray → Out El := fun r => ⟨(.str r), [], 0⟩
noncomputable def entry (k : Nat) : Entry El := ⟨[.any, .any], 0, specOf decA (F k) outOf⟩
theorem ok (k : Nat) : FnOK Go.Proofs.Tryd.prog 203 0 (specOf decA (F k) outOf) := fnOK_of (fn := Go.Proofs.Tryd.f203) (c := (Go.Proofs.Tryd.f203.body).getD .skip) (by kernel_rfl) (by kernel_rfl) (envOK _ k) (by kernel_rfl) k [.any] (nt := 13) (by kernel_rfl) (rs := [.tmp 4]) (by kernel_rfl) decA (F k) dec outOf
  (by intro out y h; unfold dec at h; split at h <;> cases h; rfl)
  (by intro ds objs next a h; unfold decA at h; split at h <;> cases h; kernel_rfl)
theorem enter : ∀ args w, (callFunc 203 args).run Go.Proofs.Tryd.prog w = .ok (.enter 203 args) w := fun _ _ => by kernel_rfl
end Fn.f203

namespace Fn.f165
noncomputable def tab (k : Nat) : Tab El := [(203, Fn.f203.entry k)]
noncomputable def env (R : Type) (k : Nat) : Env El R := envOf Go.Proofs.Tryd.prog (tab k) R (fun r => match r with | _ => false) (fun b => match b with | _ => fun _ => none) (fun b e => match b, e with | _, _ => fun _ => none)
theorem tabOK (k : Nat) : TabOK Go.Proofs.Tryd.prog (tab k) := TabOK.cons (Fn.f203.ok k) Fn.f203.enter (TabOK.nil)
theorem envOK (R : Type) (k : Nat) : EnvOK 0 (env R k) := envOf_ok (by kernel_rfl) (tabOK k) (by intro b; show WOK 0 (match b with | _ => fun _ => none); split <;> first | exact word_ok _ _ _ | exact vword_ok (word_ok _ _ _) | exact none_ok _) (by intro b e; show WOK 0 (match b, e with | _, _ => fun _ => none); split <;> first | exact word_ok _ _ _ | exact none_ok _)
noncomputable def F (k : Nat) : ByteArray × ByteArray → Option (ByteArray) := fun (a0, a1) => Option.bind (Fn.f203.F k (a0, a1)) fun y0 => some y0
noncomputable def decA : List (D El) → List (Nat × MObj El) → Nat → Option (ByteArray × ByteArray)
  | [(.str a0), (.str a1)], [], 0 => some (a0, a1)
  | _, _, _ => none
noncomputable def dec : Out El → Option (ByteArray)
  | ⟨(.str r), [], 0⟩ => some r
  | _ => none
noncomputable def outOf : ByteArray → Out El := fun r => ⟨(.str r), [], 0⟩
noncomputable def entry (k : Nat) : Entry El := ⟨[.any, .any], 0, specOf decA (F k) outOf⟩
theorem ok (k : Nat) : FnOK Go.Proofs.Tryd.prog 165 0 (specOf decA (F k) outOf) := fnOK_of (fn := Go.Proofs.Tryd.f165) (c := (Go.Proofs.Tryd.f165.body).getD .skip) (by kernel_rfl) (by kernel_rfl) (envOK _ k) (by kernel_rfl) k [.any] (nt := 8) (by kernel_rfl) (rs := [.tmp 4]) (by kernel_rfl) decA (F k) dec outOf
  (by intro out y h; unfold dec at h; split at h <;> cases h; rfl)
  (by intro ds objs next a h; unfold decA at h; split at h <;> cases h; kernel_rfl)
theorem enter : ∀ args w, (callFunc 165 args).run Go.Proofs.Tryd.prog w = .ok (.enter 165 args) w := fun _ _ => by kernel_rfl
end Fn.f165

namespace Fn.f131
noncomputable def l100003V : St El → Option (ByteArray × Bool)
  | ⟨(.str t0) :: .dead :: .dead :: .dead :: .dead :: .dead :: .dead :: .dead :: .dead :: .dead :: .dead :: .dead :: .dead :: .dead :: .dead :: .dead :: .dead :: .dead :: .dead :: .dead :: (.bool t20) :: .dead :: .dead :: .dead :: .dead :: .dead :: .dead :: .dead :: .dead :: .dead :: .dead :: .dead :: .dead :: .dead :: .dead :: [], [], 0⟩ => some (t0, t20)
  | _ => none
noncomputable def l100003S : ByteArray × Bool → St El := fun (t0, t20) => ⟨(.str t0) :: .dead :: .dead :: .dead :: .dead :: .dead :: .dead :: .dead :: .dead :: .dead :: .dead :: .dead :: .dead :: .dead :: .dead :: .dead :: .dead :: .dead :: .dead :: .dead :: (.bool t20) :: .dead :: .dead :: .dead :: .dead :: .dead :: .dead :: .dead :: .dead :: .dead :: .dead :: .dead :: .dead :: .dead :: .dead :: [], [], 0⟩
noncomputable def l100003Xret : Int × Bool → St El := fun (t4, t5) => ⟨.dead :: .dead :: .dead :: .dead :: (.int .i64 t4) :: (.bool t5) :: .dead :: .dead :: .dead :: .dead :: .dead :: .dead :: .dead :: .dead :: .dead :: .dead :: .dead :: .dead :: .dead :: .dead :: .dead :: .dead :: .dead :: .dead :: .dead :: .dead :: .dead :: .dead :: .dead :: .dead :: .dead :: .dead :: .dead :: .dead :: .dead :: [], [], 0⟩
noncomputable def l100003Xnorm : ByteArray → St El := fun t0 => ⟨(.str t0) :: .dead :: .dead :: .dead :: .dead :: .dead :: .dead :: .dead :: .dead :: .dead :: .dead :: .dead :: .dead :: .dead :: .dead :: .dead :: .dead :: .dead :: .dead :: .dead :: .dead :: .dead :: .dead :: .dead :: .dead :: .dead :: .dead :: .dead :: .dead :: .dead :: .dead :: .dead :: .dead :: .dead :: .dead :: [], [], 0⟩
noncomputable def l100004V : St El → Option (ByteArray)
  | ⟨(.str t0) :: .dead :: .dead :: .dead :: .dead :: .dead :: .dead :: .dead :: .dead :: .dead :: .dead :: .dead :: .dead :: .dead :: .dead :: .dead :: .dead :: .dead :: .dead :: .dead :: .dead :: .dead :: .dead :: .dead :: .dead :: .dead :: .dead :: .dead :: .dead :: .dead :: .dead :: .dead :: .dead :: .dead :: .dead :: [], [], 0⟩ => some t0
  | _ => none
noncomputable def l100004S : ByteArray → St El := fun t0 => ⟨(.str t0) :: .dead :: .dead :: .dead :: .dead :: .dead :: .dead :: .dead :: .dead :: .dead :: .dead :: .dead :: .dead :: .dead :: .dead :: .dead :: .dead :: .dead :: .dead :: .dead :: .dead :: .dead :: .dead :: .dead :: .dead :: .dead :: .dead :: .dead :: .dead :: .dead :: .dead :: .dead :: .dead :: .dead :: .dead :: [], [], 0⟩
noncomputable def l100004Xret : Int × Bool → St El := fun (t4, t5) => ⟨.dead :: .dead :: .dead :: .dead :: (.int .i64 t4) :: (.bool t5) :: .dead :: .dead :: .dead :: .dead :: .dead :: .dead :: .dead :: .dead :: .dead :: .dead :: .dead :: .dead :: .dead :: .dead :: .dead :: .dead :: .dead :: .dead :: .dead :: .dead :: .dead :: .dead :: .dead :: .dead :: .dead :: .dead :: .dead :: .dead :: .dead :: [], [], 0⟩
noncomputable def tab (k : Nat) : Tab El := [(90, Fn.f90.entry k), (99, Fn.f99.entry k), (140, Fn.f140.entry k), (162, Fn.f162.entry k), (165, Fn.f165.entry k)]
noncomputable def env (R : Type) (k : Nat) : Env El R := envOf Go.Proofs.Tryd.prog (tab k) R (fun r => match r with | 4 => true | 3 => true | _ => false) (fun b => match b with | 100004 => vword l100004V (word 0 [] (kept [0] 0 35)) | 100003 => vword l100003V (word 0 [] (kept [0, 20] 0 35)) | _ => fun _ => none) (fun b e => match b, e with | 100004, .ret => word 0 [] (kept [4, 5] 0 35) | 100004, .norm => word 0 [] (kept [4, 5] 0 35) | 100003, .ret => word 0 [] (kept [4, 5] 0 35) | 100003, .norm => word 0 [] (kept [0] 0 35) | _, _ => fun _ => none)
theorem tabOK (k : Nat) : TabOK Go.Proofs.Tryd.prog (tab k) := TabOK.cons (Fn.f90.ok k) Fn.f90.enter (TabOK.cons (Fn.f99.ok k) Fn.f99.enter (TabOK.cons (Fn.f140.ok k) Fn.f140.enter (TabOK.cons (Fn.f162.ok k) Fn.f162.enter (TabOK.cons (Fn.f165.ok k) Fn.f165.enter (TabOK.nil)))))
theorem envOK (R : Type) (k : Nat) : EnvOK 0 (env R k) := envOf_ok (by kernel_rfl) (tabOK k) (by intro b; show WOK 0 (match b with | 100004 => vword l100004V (word 0 [] (kept [0] 0 35)) | 100003 => vword l100003V (word 0 [] (kept [0, 20] 0 35)) | _ => fun _ => none); split <;> first | exact word_ok _ _ _ | exact vword_ok (word_ok _ _ _) | exact none_ok _) (by intro b e; show WOK 0 (match b, e with | 100004, .ret => word 0 [] (kept [4, 5] 0 35) | 100004, .norm => word 0 [] (kept [4, 5] 0 35) | 100003, .ret => word 0 [] (kept [4, 5] 0 35) | 100003, .norm => word 0 [] (kept [0] 0 35) | _, _ => fun _ => none); split <;> first | exact word_ok _ _ _ | exact none_ok _)
noncomputable def l100003 {R : Type} (k : Nat) (ret : Int × Bool → Option R) (norm : ByteArray → Option R) : ByteArray × Bool → Option R := fun (t0, t20) => cond t20 (ret (0, Bool.false)) (norm t0)
noncomputable def l100004 {R : Type} (k : Nat) (ret : Int × Bool → Option R) : ByteArray → Option R := fun t0 => Option.bind (Fn.f162.F k t0) fun y2 => Option.bind (Fn.f99.F k y2) fun y3 => ret (y2, (ByteArray.toList y3 == ByteArray.toList t0))
noncomputable def F (k : Nat) : ByteArray × Int → Option (Int × Bool) := fun (a0, a1) => Option.bind (Fn.f165.F k (a0, ByteArray.mk #[45])) fun y0 => Option.bind (Fn.f90.F k ((↑(ByteArray.size y0) : Int), 1, a1)) fun y1 => cond (!y1) (l100003 k (fun (t4, t5) => some (t4, t5)) (fun t0 => l100004 k (fun (t4, t5) => some (t4, t5)) t0) (a0, Bool.true)) (Option.bind (Fn.f140.F k (y0, ByteArray.mk #[48, 49, 50, 51, 52, 53, 54, 55, 56, 57])) fun y4 => l100003 k (fun (t4, t5) => some (t4, t5)) (fun t0 => l100004 k (fun (t4, t5) => some (t4, t5)) t0) (a0, (!ByteArray.toList y4 == ByteArray.toList (ByteArray.mk #[]))))
noncomputable def decA : List (D El) → List (Nat × MObj El) → Nat → Option (ByteArray × Int)
  | [(.str a0), (.int .i64 a1)], [], 0 => some (a0, a1)
  | _, _, _ => none
noncomputable def dec : Out El → Option (Int × Bool)
  | ⟨(.tup [(.int .i64 r_0), (.bool r_1)]), [], 0⟩ => some (r_0, r_1)
  | _ => none
noncomputable def outOf : Int × Bool → Out El := fun (r_0, r_1) => ⟨(.tup [(.int .i64 r_0), (.bool r_1)]), [], 0⟩
noncomputable def L (R : Type) (k : Nat) : LE El R := fun b x K st => match b with
  | 100004 => jell (env R k) k 0 100004 l100004V (fun K p => l100004 k (fun q => K (.ret) (l100004Xret q)) p) x K st
  | 100003 => jell (env R k) k 0 100003 l100003V (fun K p => l100003 k (fun q => K (.ret) (l100003Xret q)) (fun q => K (.norm) (l100003Xnorm q)) p) x K st
  | b => mexec (env R k) k b (.loop x) K st
theorem told100004L (R : Type) (k : Nat) : Told (L R k) (env R k) k 0 (joinIn Go.Proofs.Tryd.f131 4) = [] := by kernel_rfl
theorem told100004 (R : Type) (k : Nat) : ∀ K st, mexec (env R k) k 0 (joinIn Go.Proofs.Tryd.f131 4) (Env.wrap (env R k) 100004 K) st = L R k 100004 (joinIn Go.Proofs.Tryd.f131 4) K st := jell_eq (lk := fun K p => l100004 k (fun q => K (.ret) (l100004Xret q)) p) l100004S (by intro st p h; unfold l100004V at h; split at h <;> cases h; rfl) (by
  rintro K t0
  refine (mexecG_eq (L := L R k) _ (by rw [told100004L]; exact trivial) _ _).trans ?_
  kernel_rfl)
theorem told100003L (R : Type) (k : Nat) : Told (L R k) (env R k) k 0 (joinIn Go.Proofs.Tryd.f131 3) = [] := by kernel_rfl
theorem told100003 (R : Type) (k : Nat) : ∀ K st, mexec (env R k) k 0 (joinIn Go.Proofs.Tryd.f131 3) (Env.wrap (env R k) 100003 K) st = L R k 100003 (joinIn Go.Proofs.Tryd.f131 3) K st := jell_eq (lk := fun K p => l100003 k (fun q => K (.ret) (l100003Xret q)) (fun q => K (.norm) (l100003Xnorm q)) p) l100003S (by intro st p h; unfold l100003V at h; split at h <;> cases h; rfl) (by
  rintro K ⟨t0, t20⟩
  refine (mexecG_eq (L := L R k) _ (by rw [told100003L]; exact trivial) _ _).trans ?_
  kernel_rfl)
theorem told (R : Type) (k : Nat) : Told (L R k) (env R k) k 0 ((Go.Proofs.Tryd.f131.body).getD .skip) = [∀ K st, mexec (env R k) k 0 (joinIn Go.Proofs.Tryd.f131 3) (Env.wrap (env R k) 100003 K) st = L R k 100003 (joinIn Go.Proofs.Tryd.f131 3) K st, ∀ K st, mexec (env R k) k 0 (joinIn Go.Proofs.Tryd.f131 4) (Env.wrap (env R k) 100004 K) st = L R k 100004 (joinIn Go.Proofs.Tryd.f131 4) K st] := by kernel_rfl
theorem run (k : Nat) (R : Type) (dec : Out El → Option R) st : mexec (env R k) k 0 ((Go.Proofs.Tryd.f131.body).getD .skip) (mend Go.Proofs.Tryd.prog [.tmp 4, .tmp 5] [.any, .any] 0 dec) st = mexecG (L R k) (env R k) 0 ((Go.Proofs.Tryd.f131.body).getD .skip) (mend Go.Proofs.Tryd.prog [.tmp 4, .tmp 5] [.any, .any] 0 dec) st := mexecG_eq _ (by rw [told]; exact ⟨told100003 R k, told100004 R k, trivial⟩) _ _
noncomputable def entry (k : Nat) : Entry El := ⟨[.any, .any], 0, specOf decA (F k) outOf⟩
theorem ok (k : Nat) : FnOK Go.Proofs.Tryd.prog 131 0 (specOf decA (F k) outOf) := fnOK_of (fn := Go.Proofs.Tryd.f131) (c := (Go.Proofs.Tryd.f131.body).getD .skip) (by kernel_rfl) (by kernel_rfl) (envOK _ k) (by kernel_rfl) k [.any, .any] (nt := 35) (by kernel_rfl) (rs := [.tmp 4, .tmp 5]) (by kernel_rfl) decA (F k) dec outOf
  (by intro out y h; unfold dec at h; split at h <;> cases h; rfl)
  (by intro ds objs next a h; unfold decA at h; split at h <;> cases h; exact (run k _ dec _).trans (by kernel_rfl))
theorem enter : ∀ args w, (callFunc 131 args).run Go.Proofs.Tryd.prog w = .ok (.enter 131 args) w := fun _ _ => by kernel_rfl
end Fn.f131

namespace Fn.f69
noncomputable def l100002V : St El → Option (ByteArray × Bool)
  | ⟨(.str t0) :: .dead :: .dead :: .dead :: .dead :: .dead :: .dead :: .dead :: .dead :: .dead :: .dead :: .dead :: .dead :: .dead :: .dead :: .dead :: .dead :: .dead :: .dead :: .dead :: .dead :: (.bool t21) :: .dead :: .dead :: .dead :: .dead :: .dead :: .dead :: .dead :: .dead :: .dead :: .dead :: .dead :: .dead :: .dead :: .dead :: .dead :: .dead :: .dead :: .dead :: .dead :: .dead :: .dead :: .dead :: .dead :: .dead :: .dead :: .dead :: .dead :: .dead :: .dead :: .dead :: .dead :: .dead :: .dead :: .dead :: .dead :: .dead :: .dead :: [], [], 0⟩ => some (t0, t21)
  | _ => none
noncomputable def l100002S : ByteArray × Bool → St El := fun (t0, t21) => ⟨(.str t0) :: .dead :: .dead :: .dead :: .dead :: .dead :: .dead :: .dead :: .dead :: .dead :: .dead :: .dead :: .dead :: .dead :: .dead :: .dead :: .dead :: .dead :: .dead :: .dead :: .dead :: (.bool t21) :: .dead :: .dead :: .dead :: .dead :: .dead :: .dead :: .dead :: .dead :: .dead :: .dead :: .dead :: .dead :: .dead :: .dead :: .dead :: .dead :: .dead :: .dead :: .dead :: .dead :: .dead :: .dead :: .dead :: .dead :: .dead :: .dead :: .dead :: .dead :: .dead :: .dead :: .dead :: .dead :: .dead :: .dead :: .dead :: .dead :: .dead :: [], [], 0⟩
noncomputable def l100002Xret : Int × Int → St El := fun (t2, t3) => ⟨.dead :: .dead :: (.int .i64 t2) :: (.int .i64 t3) :: .dead :: .dead :: .dead :: .dead :: .dead :: .dead :: .dead :: .dead :: .dead :: .dead :: .dead :: .dead :: .dead :: .dead :: .dead :: .dead :: .dead :: .dead :: .dead :: .dead :: .dead :: .dead :: .dead :: .dead :: .dead :: .dead :: .dead :: .dead :: .dead :: .dead :: .dead :: .dead :: .dead :: .dead :: .dead :: .dead :: .dead :: .dead :: .dead :: .dead :: .dead :: .dead :: .dead :: .dead :: .dead :: .dead :: .dead :: .dead :: .dead :: .dead :: .dead :: .dead :: .dead :: .dead :: .dead :: [], [], 0⟩
noncomputable def l100002Xnorm : ByteArray → St El := fun t0 => ⟨(.str t0) :: .dead :: .dead :: .dead :: .dead :: .dead :: .dead :: .dead :: .dead :: .dead :: .dead :: .dead :: .dead :: .dead :: .dead :: .dead :: .dead :: .dead :: .dead :: .dead :: .dead :: .dead :: .dead :: .dead :: .dead :: .dead :: .dead :: .dead :: .dead :: .dead :: .dead :: .dead :: .dead :: .dead :: .dead :: .dead :: .dead :: .dead :: .dead :: .dead :: .dead :: .dead :: .dead :: .dead :: .dead :: .dead :: .dead :: .dead :: .dead :: .dead :: .dead :: .dead :: .dead :: .dead :: .dead :: .dead :: .dead :: .dead :: .dead :: [], [], 0⟩
noncomputable def l100003V : St El → Option (ByteArray)
  | ⟨(.str t0) :: .dead :: .dead :: .dead :: .dead :: .dead :: .dead :: .dead :: .dead :: .dead :: .dead :: .dead :: .dead :: .dead :: .dead :: .dead :: .dead :: .dead :: .dead :: .dead :: .dead :: .dead :: .dead :: .dead :: .dead :: .dead :: .dead :: .dead :: .dead :: .dead :: .dead :: .dead :: .dead :: .dead :: .dead :: .dead :: .dead :: .dead :: .dead :: .dead :: .dead :: .dead :: .dead :: .dead :: .dead :: .dead :: .dead :: .dead :: .dead :: .dead :: .dead :: .dead :: .dead :: .dead :: .dead :: .dead :: .dead :: .dead :: .dead :: [], [], 0⟩ => some t0
  | _ => none
noncomputable def l100003S : ByteArray → St El := fun t0 => ⟨(.str t0) :: .dead :: .dead :: .dead :: .dead :: .dead :: .dead :: .dead :: .dead :: .dead :: .dead :: .dead :: .dead :: .dead :: .dead :: .dead :: .dead :: .dead :: .dead :: .dead :: .dead :: .dead :: .dead :: .dead :: .dead :: .dead :: .dead :: .dead :: .dead :: .dead :: .dead :: .dead :: .dead :: .dead :: .dead :: .dead :: .dead :: .dead :: .dead :: .dead :: .dead :: .dead :: .dead :: .dead :: .dead :: .dead :: .dead :: .dead :: .dead :: .dead :: .dead :: .dead :: .dead :: .dead :: .dead :: .dead :: .dead :: .dead :: .dead :: [], [], 0⟩
noncomputable def l100003Xret : Int × Int → St El := fun (t2, t3) => ⟨.dead :: .dead :: (.int .i64 t2) :: (.int .i64 t3) :: .dead :: .dead :: .dead :: .dead :: .dead :: .dead :: .dead :: .dead :: .dead :: .dead :: .dead :: .dead :: .dead :: .dead :: .dead :: .dead :: .dead :: .dead :: .dead :: .dead :: .dead :: .dead :: .dead :: .dead :: .dead :: .dead :: .dead :: .dead :: .dead :: .dead :: .dead :: .dead :: .dead :: .dead :: .dead :: .dead :: .dead :: .dead :: .dead :: .dead :: .dead :: .dead :: .dead :: .dead :: .dead :: .dead :: .dead :: .dead :: .dead :: .dead :: .dead :: .dead :: .dead :: .dead :: .dead :: [], [], 0⟩
noncomputable def l100011V : St El → Option (Int × ByteArray)
  | ⟨.dead :: .dead :: .dead :: .dead :: (.int .i64 t4) :: (.str t5) :: .dead :: .dead :: .dead :: .dead :: .dead :: .dead :: .dead :: .dead :: .dead :: .dead :: .dead :: .dead :: .dead :: .dead :: .dead :: .dead :: .dead :: .dead :: .dead :: .dead :: .dead :: .dead :: .dead :: .dead :: .dead :: .dead :: .dead :: .dead :: .dead :: .dead :: .dead :: .dead :: .dead :: .dead :: .dead :: .dead :: .dead :: .dead :: .dead :: .dead :: .dead :: .dead :: .dead :: .dead :: .dead :: .dead :: .dead :: .dead :: .dead :: .dead :: .dead :: .dead :: .dead :: [], [], 0⟩ => some (t4, t5)
  | _ => none
noncomputable def l100011S : Int × ByteArray → St El := fun (t4, t5) => ⟨.dead :: .dead :: .dead :: .dead :: (.int .i64 t4) :: (.str t5) :: .dead :: .dead :: .dead :: .dead :: .dead :: .dead :: .dead :: .dead :: .dead :: .dead :: .dead :: .dead :: .dead :: .dead :: .dead :: .dead :: .dead :: .dead :: .dead :: .dead :: .dead :: .dead :: .dead :: .dead :: .dead :: .dead :: .dead :: .dead :: .dead :: .dead :: .dead :: .dead :: .dead :: .dead :: .dead :: .dead :: .dead :: .dead :: .dead :: .dead :: .dead :: .dead :: .dead :: .dead :: .dead :: .dead :: .dead :: .dead :: .dead :: .dead :: .dead :: .dead :: .dead :: [], [], 0⟩
noncomputable def l100011Xret : Int × Int → St El := fun (t2, t3) => ⟨.dead :: .dead :: (.int .i64 t2) :: (.int .i64 t3) :: .dead :: .dead :: .dead :: .dead :: .dead :: .dead :: .dead :: .dead :: .dead :: .dead :: .dead :: .dead :: .dead :: .dead :: .dead :: .dead :: .dead :: .dead :: .dead :: .dead :: .dead :: .dead :: .dead :: .dead :: .dead :: .dead :: .dead :: .dead :: .dead :: .dead :: .dead :: .dead :: .dead :: .dead :: .dead :: .dead :: .dead :: .dead :: .dead :: .dead :: .dead :: .dead :: .dead :: .dead :: .dead :: .dead :: .dead :: .dead :: .dead :: .dead :: .dead :: .dead :: .dead :: .dead :: .dead :: [], [], 0⟩
noncomputable def tab (k : Nat) : Tab El := [(44, Fn.f44.entry k), (129, Fn.f129.entry k), (130, Fn.f130.entry k), (131, Fn.f131.entry k)]
noncomputable def env (R : Type) (k : Nat) : Env El R := envOf Go.Proofs.Tryd.prog (tab k) R (fun r => match r with | 11 => true | 3 => true | 2 => true | _ => false) (fun b => match b with | 100011 => vword l100011V (word 0 [] (kept [4, 5] 0 59)) | 100003 => vword l100003V (word 0 [] (kept [0] 0 59)) | 100002 => vword l100002V (word 0 [] (kept [0, 21] 0 59)) | _ => fun _ => none) (fun b e => match b, e with | 100011, .ret => word 0 [] (kept [2, 3] 0 59) | 100011, .norm => word 0 [] (kept [2, 3] 0 59) | 100003, .ret => word 0 [] (kept [2, 3] 0 59) | 100003, .norm => word 0 [] (kept [2, 3] 0 59) | 100002, .ret => word 0 [] (kept [2, 3] 0 59) | 100002, .norm => word 0 [] (kept [0] 0 59) | _, _ => fun _ => none)
theorem tabOK (k : Nat) : TabOK Go.Proofs.Tryd.prog (tab k) := TabOK.cons (Fn.f44.ok k) Fn.f44.enter (TabOK.cons (Fn.f129.ok k) Fn.f129.enter (TabOK.cons (Fn.f130.ok k) Fn.f130.enter (TabOK.cons (Fn.f131.ok k) Fn.f131.enter (TabOK.nil))))
theorem envOK (R : Type) (k : Nat) : EnvOK 0 (env R k) := envOf_ok (by kernel_rfl) (tabOK k) (by intro b; show WOK 0 (match b with | 100011 => vword l100011V (word 0 [] (kept [4, 5] 0 59)) | 100003 => vword l100003V (word 0 [] (kept [0] 0 59)) | 100002 => vword l100002V (word 0 [] (kept [0, 21] 0 59)) | _ => fun _ => none); split <;> first | exact word_ok _ _ _ | exact vword_ok (word_ok _ _ _) | exact none_ok _) (by intro b e; show WOK 0 (match b, e with | 100011, .ret => word 0 [] (kept [2, 3] 0 59) | 100011, .norm => word 0 [] (kept [2, 3] 0 59) | 100003, .ret => word 0 [] (kept [2, 3] 0 59) | 100003, .norm => word 0 [] (kept [2, 3] 0 59) | 100002, .ret => word 0 [] (kept [2, 3] 0 59) | 100002, .norm => word 0 [] (kept [0] 0 59) | _, _ => fun _ => none); split <;> first | exact word_ok _ _ _ | exact none_ok _)
noncomputable def l100002 {R : Type} (k : Nat) (ret : Int × Int → Option R) (norm : ByteArray → Option R) : ByteArray × Bool → Option R := fun (t0, t21) => cond t21 (ret (0, 9)) (norm t0)
noncomputable def l100011 {R : Type} (k : Nat) (ret : Int × Int → Option R) : Int × ByteArray → Option R := fun (t4, t5) => Option.bind (Fn.f131.F k (t5, 1)) fun y4 => cond (!y4.2) (ret (0, 9)) (Option.bind (Fn.f44.F k (Go.IntKind.wrap Go.IntKind.i64 (t4 + Go.IntKind.wrap Go.IntKind.i64 (12 * Go.IntKind.wrap Go.IntKind.i64 (y4.1 + 1))), 0, 127)) fun y5 => cond (y5 != 0) (ret (0, y5)) (ret ((Go.IntKind.wrap Go.IntKind.i64 (t4 + Go.IntKind.wrap Go.IntKind.i64 (12 * Go.IntKind.wrap Go.IntKind.i64 (y4.1 + 1)))), 0)))
noncomputable def l100003 {R : Type} (k : Nat) (ret : Int × Int → Option R) : ByteArray → Option R := fun t0 => if (0 < (↑(ByteArray.size t0) : Int)) then (if (1 ≤ (↑(ByteArray.size t0) : Int)) then (Option.bind (Fn.f130.F k (ByteArray.extract t0 (Int.toNat (Option.getD (Option.some 1) 0)) (ByteArray.size t0), ByteArray.mk #[35])) fun y2 => cond y2 (if (1 ≤ (↑(ByteArray.size (ByteArray.extract t0 (Int.toNat (Option.getD (Option.some 1) 0)) (ByteArray.size t0))) : Int)) then (l100011 k (fun (t2, t3) => ret (t2, t3)) ((Go.IntKind.wrap Go.IntKind.i64 (Go.Lib.indexByte (Array.toList (ByteArray.data (ByteArray.mk #[99, 32, 100, 32, 101, 102, 32, 103, 32, 97, 32, 98]))) (Nat.toUInt8 (Int.toNat (Go.M.bt t0 0))) + 1)), (ByteArray.extract (ByteArray.extract t0 (Int.toNat (Option.getD (Option.some 1) 0)) (ByteArray.size t0)) (Int.toNat (Option.getD (Option.some 1) 0)) (ByteArray.size (ByteArray.extract t0 (Int.toNat (Option.getD (Option.some 1) 0)) (ByteArray.size t0)))))) else (none)) (Option.bind (Fn.f130.F k (ByteArray.extract t0 (Int.toNat (Option.getD (Option.some 1) 0)) (ByteArray.size t0), ByteArray.mk #[98])) fun y6 => cond y6 (if (1 ≤ (↑(ByteArray.size (ByteArray.extract t0 (Int.toNat (Option.getD (Option.some 1) 0)) (ByteArray.size t0))) : Int)) then (l100011 k (fun (t2, t3) => ret (t2, t3)) ((Go.IntKind.wrap Go.IntKind.i64 (Go.Lib.indexByte (Array.toList (ByteArray.data (ByteArray.mk #[99, 32, 100, 32, 101, 102, 32, 103, 32, 97, 32, 98]))) (Nat.toUInt8 (Int.toNat (Go.M.bt t0 0))) - 1)), (ByteArray.extract (ByteArray.extract t0 (Int.toNat (Option.getD (Option.some 1) 0)) (ByteArray.size t0)) (Int.toNat (Option.getD (Option.some 1) 0)) (ByteArray.size (ByteArray.extract t0 (Int.toNat (Option.getD (Option.some 1) 0)) (ByteArray.size t0)))))) else (none)) (l100011 k (fun (t2, t3) => ret (t2, t3)) ((Go.Lib.indexByte (Array.toList (ByteArray.data (ByteArray.mk #[99, 32, 100, 32, 101, 102, 32, 103, 32, 97, 32, 98]))) (Nat.toUInt8 (Int.toNat (Go.M.bt t0 0)))), (ByteArray.extract t0 (Int.toNat (Option.getD (Option.some 1) 0)) (ByteArray.size t0)))))) else (none)) else (none)
noncomputable def F (k : Nat) : ByteArray → Option (Int × Int) := fun a0 => cond (ByteArray.toList a0 == ByteArray.toList (ByteArray.mk #[])) (l100002 k (fun (t2, t3) => some (t2, t3)) (fun t0 => l100003 k (fun (t2, t3) => some (t2, t3)) t0) (a0, Bool.true)) (if (0 < (↑(ByteArray.size a0) : Int)) then (cond (Go.M.bt a0 0 == 32) (l100002 k (fun (t2, t3) => some (t2, t3)) (fun t0 => l100003 k (fun (t2, t3) => some (t2, t3)) t0) (a0, Bool.true)) (if (0 < (↑(ByteArray.size a0) : Int)) then (l100002 k (fun (t2, t3) => some (t2, t3)) (fun t0 => l100003 k (fun (t2, t3) => some (t2, t3)) t0) (a0, (Decidable.decide (Go.Lib.indexByte (Array.toList (ByteArray.data (ByteArray.mk #[99, 32, 100, 32, 101, 102, 32, 103, 32, 97, 32, 98]))) (Nat.toUInt8 (Int.toNat (Go.M.bt a0 0))) < 0)))) else (none))) else (none))
noncomputable def decA : List (D El) → List (Nat × MObj El) → Nat → Option (ByteArray)
  | [(.str a0)], [], 0 => some a0
  | _, _, _ => none
noncomputable def dec : Out El → Option (Int × Int)
  | ⟨(.tup [(.int .i64 r_0), (.int .i64 r_1)]), [], 0⟩ => some (r_0, r_1)
  | _ => none
noncomputable def outOf : Int × Int → Out El := fun (r_0, r_1) => ⟨(.tup [(.int .i64 r_0), (.int .i64 r_1)]), [], 0⟩
noncomputable def L (R : Type) (k : Nat) : LE El R := fun b x K st => match b with
  | 100011 => jell (env R k) k 0 100011 l100011V (fun K p => l100011 k (fun q => K (.ret) (l100011Xret q)) p) x K st
  | 100003 => jell (env R k) k 0 100003 l100003V (fun K p => l100003 k (fun q => K (.ret) (l100003Xret q)) p) x K st
  | 100002 => jell (env R k) k 0 100002 l100002V (fun K p => l100002 k (fun q => K (.ret) (l100002Xret q)) (fun q => K (.norm) (l100002Xnorm q)) p) x K st
  | b => mexec (env R k) k b (.loop x) K st
theorem told100011L (R : Type) (k : Nat) : Told (L R k) (env R k) k 0 (joinIn Go.Proofs.Tryd.f69 11) = [] := by kernel_rfl
theorem told100011 (R : Type) (k : Nat) : ∀ K st, mexec (env R k) k 0 (joinIn Go.Proofs.Tryd.f69 11) (Env.wrap (env R k) 100011 K) st = L R k 100011 (joinIn Go.Proofs.Tryd.f69 11) K st := jell_eq (lk := fun K p => l100011 k (fun q => K (.ret) (l100011Xret q)) p) l100011S (by intro st p h; unfold l100011V at h; split at h <;> cases h; rfl) (by
  rintro K ⟨t4, t5⟩
  refine (mexecG_eq (L := L R k) _ (by rw [told100011L]; exact trivial) _ _).trans ?_
  kernel_rfl)
theorem told100003L (R : Type) (k : Nat) : Told (L R k) (env R k) k 0 (joinIn Go.Proofs.Tryd.f69 3) = [∀ K st, mexec (env R k) k 0 (joinIn Go.Proofs.Tryd.f69 11) (Env.wrap (env R k) 100011 K) st = L R k 100011 (joinIn Go.Proofs.Tryd.f69 11) K st] := by kernel_rfl
theorem told100003 (R : Type) (k : Nat) : ∀ K st, mexec (env R k) k 0 (joinIn Go.Proofs.Tryd.f69 3) (Env.wrap (env R k) 100003 K) st = L R k 100003 (joinIn Go.Proofs.Tryd.f69 3) K st := jell_eq (lk := fun K p => l100003 k (fun q => K (.ret) (l100003Xret q)) p) l100003S (by intro st p h; unfold l100003V at h; split at h <;> cases h; rfl) (by
  rintro K t0
  refine (mexecG_eq (L := L R k) _ (by rw [told100003L]; exact ⟨told100011 R k, trivial⟩) _ _).trans ?_
  kernel_rfl)
theorem told100002L (R : Type) (k : Nat) : Told (L R k) (env R k) k 0 (joinIn Go.Proofs.Tryd.f69 2) = [] := by kernel_rfl
theorem told100002 (R : Type) (k : Nat) : ∀ K st, mexec (env R k) k 0 (joinIn Go.Proofs.Tryd.f69 2) (Env.wrap (env R k) 100002 K) st = L R k 100002 (joinIn Go.Proofs.Tryd.f69 2) K st := jell_eq (lk := fun K p => l100002 k (fun q => K (.ret) (l100002Xret q)) (fun q => K (.norm) (l100002Xnorm q)) p) l100002S (by intro st p h; unfold l100002V at h; split at h <;> cases h; rfl) (by
  rintro K ⟨t0, t21⟩
  refine (mexecG_eq (L := L R k) _ (by rw [told100002L]; exact trivial) _ _).trans ?_
  kernel_rfl)
theorem told (R : Type) (k : Nat) : Told (L R k) (env R k) k 0 ((Go.Proofs.Tryd.f69.body).getD .skip) = [∀ K st, mexec (env R k) k 0 (joinIn Go.Proofs.Tryd.f69 2) (Env.wrap (env R k) 100002 K) st = L R k 100002 (joinIn Go.Proofs.Tryd.f69 2) K st, ∀ K st, mexec (env R k) k 0 (joinIn Go.Proofs.Tryd.f69 3) (Env.wrap (env R k) 100003 K) st = L R k 100003 (joinIn Go.Proofs.Tryd.f69 3) K st, ∀ K st, mexec (env R k) k 0 (joinIn Go.Proofs.Tryd.f69 11) (Env.wrap (env R k) 100011 K) st = L R k 100011 (joinIn Go.Proofs.Tryd.f69 11) K st] := by kernel_rfl
theorem run (k : Nat) (R : Type) (dec : Out El → Option R) st : mexec (env R k) k 0 ((Go.Proofs.Tryd.f69.body).getD .skip) (mend Go.Proofs.Tryd.prog [.tmp 2, .tmp 3] [.any, .any] 0 dec) st = mexecG (L R k) (env R k) 0 ((Go.Proofs.Tryd.f69.body).getD .skip) (mend Go.Proofs.Tryd.prog [.tmp 2, .tmp 3] [.any, .any] 0 dec) st := mexecG_eq _ (by rw [told]; exact ⟨told100002 R k, told100003 R k, told100011 R k, trivial⟩) _ _
noncomputable def entry (k : Nat) : Entry El := ⟨[.any], 0, specOf decA (F k) outOf⟩
theorem ok (k : Nat) : FnOK Go.Proofs.Tryd.prog 69 0 (specOf decA (F k) outOf) := fnOK_of (fn := Go.Proofs.Tryd.f69) (c := (Go.Proofs.Tryd.f69.body).getD .skip) (by kernel_rfl) (by kernel_rfl) (envOK _ k) (by kernel_rfl) k [.any, .any] (nt := 59) (by kernel_rfl) (rs := [.tmp 2, .tmp 3]) (by kernel_rfl) decA (F k) dec outOf
  (by intro out y h; unfold dec at h; split at h <;> cases h; rfl)
  (by intro ds objs next a h; unfold decA at h; split at h <;> cases h; exact (run k _ dec _).trans (by kernel_rfl))
theorem enter : ∀ args w, (callFunc 69 args).run Go.Proofs.Tryd.prog w = .ok (.enter 69 args) w := fun _ _ => by kernel_rfl
end Fn.f69

namespace Fn.f10
noncomputable def l100005V : St El → Option (Int × ByteArray)
  | ⟨.dead :: .dead :: .dead :: .dead :: (.int .i64 t4) :: (.str t5) :: .dead :: .dead :: .dead :: .dead :: .dead :: .dead :: .dead :: .dead :: .dead :: .dead :: .dead :: .dead :: .dead :: .dead :: .dead :: .dead :: .dead :: .dead :: .dead :: .dead :: .dead :: .dead :: .dead :: .dead :: .dead :: .dead :: .dead :: .dead :: .dead :: .dead :: .dead :: .dead :: .dead :: .dead :: .dead :: .dead :: .dead :: .dead :: .dead :: .dead :: .dead :: .dead :: .dead :: .dead :: .dead :: .dead :: .dead :: .dead :: .dead :: .dead :: .dead :: .dead :: .dead :: .dead :: .dead :: .dead :: .dead :: .dead :: .dead :: .dead :: .dead :: .dead :: .dead :: .dead :: .dead :: .dead :: [], [], 0⟩ => some (t4, t5)
  | _ => none
noncomputable def l100005S : Int × ByteArray → St El := fun (t4, t5) => ⟨.dead :: .dead :: .dead :: .dead :: (.int .i64 t4) :: (.str t5) :: .dead :: .dead :: .dead :: .dead :: .dead :: .dead :: .dead :: .dead :: .dead :: .dead :: .dead :: .dead :: .dead :: .dead :: .dead :: .dead :: .dead :: .dead :: .dead :: .dead :: .dead :: .dead :: .dead :: .dead :: .dead :: .dead :: .dead :: .dead :: .dead :: .dead :: .dead :: .dead :: .dead :: .dead :: .dead :: .dead :: .dead :: .dead :: .dead :: .dead :: .dead :: .dead :: .dead :: .dead :: .dead :: .dead :: .dead :: .dead :: .dead :: .dead :: .dead :: .dead :: .dead :: .dead :: .dead :: .dead :: .dead :: .dead :: .dead :: .dead :: .dead :: .dead :: .dead :: .dead :: .dead :: .dead :: [], [], 0⟩
noncomputable def l100005Xret : Bool → St El := fun t2 => ⟨.dead :: .dead :: (.bool t2) :: .dead :: .dead :: .dead :: .dead :: .dead :: .dead :: .dead :: .dead :: .dead :: .dead :: .dead :: .dead :: .dead :: .dead :: .dead :: .dead :: .dead :: .dead :: .dead :: .dead :: .dead :: .dead :: .dead :: .dead :: .dead :: .dead :: .dead :: .dead :: .dead :: .dead :: .dead :: .dead :: .dead :: .dead :: .dead :: .dead :: .dead :: .dead :: .dead :: .dead :: .dead :: .dead :: .dead :: .dead :: .dead :: .dead :: .dead :: .dead :: .dead :: .dead :: .dead :: .dead :: .dead :: .dead :: .dead :: .dead :: .dead :: .dead :: .dead :: .dead :: .dead :: .dead :: .dead :: .dead :: .dead :: .dead :: .dead :: .dead :: .dead :: [], [], 0⟩
noncomputable def l100008V : St El → Option (ByteArray × Bool)
  | ⟨.dead :: .dead :: .dead :: .dead :: .dead :: (.str t5) :: .dead :: .dead :: .dead :: .dead :: .dead :: .dead :: .dead :: .dead :: .dead :: .dead :: .dead :: .dead :: .dead :: .dead :: .dead :: .dead :: .dead :: .dead :: .dead :: .dead :: .dead :: .dead :: .dead :: .dead :: .dead :: .dead :: .dead :: .dead :: .dead :: .dead :: .dead :: .dead :: .dead :: .dead :: .dead :: .dead :: .dead :: .dead :: .dead :: .dead :: .dead :: .dead :: .dead :: .dead :: (.bool t50) :: .dead :: .dead :: .dead :: .dead :: .dead :: .dead :: .dead :: .dead :: .dead :: .dead :: .dead :: .dead :: .dead :: .dead :: .dead :: .dead :: .dead :: .dead :: .dead :: .dead :: .dead :: [], [], 0⟩ => some (t5, t50)
  | _ => none
noncomputable def l100008S : ByteArray × Bool → St El := fun (t5, t50) => ⟨.dead :: .dead :: .dead :: .dead :: .dead :: (.str t5) :: .dead :: .dead :: .dead :: .dead :: .dead :: .dead :: .dead :: .dead :: .dead :: .dead :: .dead :: .dead :: .dead :: .dead :: .dead :: .dead :: .dead :: .dead :: .dead :: .dead :: .dead :: .dead :: .dead :: .dead :: .dead :: .dead :: .dead :: .dead :: .dead :: .dead :: .dead :: .dead :: .dead :: .dead :: .dead :: .dead :: .dead :: .dead :: .dead :: .dead :: .dead :: .dead :: .dead :: .dead :: (.bool t50) :: .dead :: .dead :: .dead :: .dead :: .dead :: .dead :: .dead :: .dead :: .dead :: .dead :: .dead :: .dead :: .dead :: .dead :: .dead :: .dead :: .dead :: .dead :: .dead :: .dead :: .dead :: [], [], 0⟩
noncomputable def l100008Xret : Bool → St El := fun t2 => ⟨.dead :: .dead :: (.bool t2) :: .dead :: .dead :: .dead :: .dead :: .dead :: .dead :: .dead :: .dead :: .dead :: .dead :: .dead :: .dead :: .dead :: .dead :: .dead :: .dead :: .dead :: .dead :: .dead :: .dead :: .dead :: .dead :: .dead :: .dead :: .dead :: .dead :: .dead :: .dead :: .dead :: .dead :: .dead :: .dead :: .dead :: .dead :: .dead :: .dead :: .dead :: .dead :: .dead :: .dead :: .dead :: .dead :: .dead :: .dead :: .dead :: .dead :: .dead :: .dead :: .dead :: .dead :: .dead :: .dead :: .dead :: .dead :: .dead :: .dead :: .dead :: .dead :: .dead :: .dead :: .dead :: .dead :: .dead :: .dead :: .dead :: .dead :: .dead :: .dead :: .dead :: [], [], 0⟩
noncomputable def l100008Xnorm : ByteArray → St El := fun t5 => ⟨.dead :: .dead :: .dead :: .dead :: .dead :: (.str t5) :: .dead :: .dead :: .dead :: .dead :: .dead :: .dead :: .dead :: .dead :: .dead :: .dead :: .dead :: .dead :: .dead :: .dead :: .dead :: .dead :: .dead :: .dead :: .dead :: .dead :: .dead :: .dead :: .dead :: .dead :: .dead :: .dead :: .dead :: .dead :: .dead :: .dead :: .dead :: .dead :: .dead :: .dead :: .dead :: .dead :: .dead :: .dead :: .dead :: .dead :: .dead :: .dead :: .dead :: .dead :: .dead :: .dead :: .dead :: .dead :: .dead :: .dead :: .dead :: .dead :: .dead :: .dead :: .dead :: .dead :: .dead :: .dead :: .dead :: .dead :: .dead :: .dead :: .dead :: .dead :: .dead :: .dead :: [], [], 0⟩
noncomputable def l100009V : St El → Option (ByteArray)
  | ⟨.dead :: .dead :: .dead :: .dead :: .dead :: (.str t5) :: .dead :: .dead :: .dead :: .dead :: .dead :: .dead :: .dead :: .dead :: .dead :: .dead :: .dead :: .dead :: .dead :: .dead :: .dead :: .dead :: .dead :: .dead :: .dead :: .dead :: .dead :: .dead :: .dead :: .dead :: .dead :: .dead :: .dead :: .dead :: .dead :: .dead :: .dead :: .dead :: .dead :: .dead :: .dead :: .dead :: .dead :: .dead :: .dead :: .dead :: .dead :: .dead :: .dead :: .dead :: .dead :: .dead :: .dead :: .dead :: .dead :: .dead :: .dead :: .dead :: .dead :: .dead :: .dead :: .dead :: .dead :: .dead :: .dead :: .dead :: .dead :: .dead :: .dead :: .dead :: .dead :: .dead :: [], [], 0⟩ => some t5
  | _ => none
noncomputable def l100009S : ByteArray → St El := fun t5 => ⟨.dead :: .dead :: .dead :: .dead :: .dead :: (.str t5) :: .dead :: .dead :: .dead :: .dead :: .dead :: .dead :: .dead :: .dead :: .dead :: .dead :: .dead :: .dead :: .dead :: .dead :: .dead :: .dead :: .dead :: .dead :: .dead :: .dead :: .dead :: .dead :: .dead :: .dead :: .dead :: .dead :: .dead :: .dead :: .dead :: .dead :: .dead :: .dead :: .dead :: .dead :: .dead :: .dead :: .dead :: .dead :: .dead :: .dead :: .dead :: .dead :: .dead :: .dead :: .dead :: .dead :: .dead :: .dead :: .dead :: .dead :: .dead :: .dead :: .dead :: .dead :: .dead :: .dead :: .dead :: .dead :: .dead :: .dead :: .dead :: .dead :: .dead :: .dead :: .dead :: .dead :: [], [], 0⟩
noncomputable def l100009Xret : Bool → St El := fun t2 => ⟨.dead :: .dead :: (.bool t2) :: .dead :: .dead :: .dead :: .dead :: .dead :: .dead :: .dead :: .dead :: .dead :: .dead :: .dead :: .dead :: .dead :: .dead :: .dead :: .dead :: .dead :: .dead :: .dead :: .dead :: .dead :: .dead :: .dead :: .dead :: .dead :: .dead :: .dead :: .dead :: .dead :: .dead :: .dead :: .dead :: .dead :: .dead :: .dead :: .dead :: .dead :: .dead :: .dead :: .dead :: .dead :: .dead :: .dead :: .dead :: .dead :: .dead :: .dead :: .dead :: .dead :: .dead :: .dead :: .dead :: .dead :: .dead :: .dead :: .dead :: .dead :: .dead :: .dead :: .dead :: .dead :: .dead :: .dead :: .dead :: .dead :: .dead :: .dead :: .dead :: .dead :: [], [], 0⟩
noncomputable def tab (k : Nat) : Tab El := [(26, Fn.f26.entry k), (37, Fn.f37.entry k), (44, Fn.f44.entry k), (56, Fn.f56.entry k), (64, Fn.f64.entry k), (65, Fn.f65.entry k), (66, Fn.f66.entry k), (67, Fn.f67.entry k), (68, Fn.f68.entry k), (69, Fn.f69.entry k)]
noncomputable def env (R : Type) (k : Nat) : Env El R := envOf Go.Proofs.Tryd.prog (tab k) R (fun r => match r with | 9 => true | 8 => true | 5 => true | _ => false) (fun b => match b with | 100009 => vword l100009V (word 0 [] (kept [5] 0 72)) | 100008 => vword l100008V (word 0 [] (kept [5, 50] 0 72)) | 100005 => vword l100005V (word 0 [] (kept [4, 5] 0 72)) | _ => fun _ => none) (fun b e => match b, e with | 100009, .ret => word 0 [] (kept [2] 0 72) | 100009, .norm => word 0 [] (kept [2] 0 72) | 100008, .ret => word 0 [] (kept [2] 0 72) | 100008, .norm => word 0 [] (kept [5] 0 72) | 100005, .ret => word 0 [] (kept [2] 0 72) | 100005, .norm => word 0 [] (kept [2] 0 72) | _, _ => fun _ => none)
theorem tabOK (k : Nat) : TabOK Go.Proofs.Tryd.prog (tab k) := TabOK.cons (Fn.f26.ok k) Fn.f26.enter (TabOK.cons (Fn.f37.ok k) Fn.f37.enter (TabOK.cons (Fn.f44.ok k) Fn.f44.enter (TabOK.cons (Fn.f56.ok k) Fn.f56.enter (TabOK.cons (Fn.f64.ok k) Fn.f64.enter (TabOK.cons (Fn.f65.ok k) Fn.f65.enter (TabOK.cons (Fn.f66.ok k) Fn.f66.enter (TabOK.cons (Fn.f67.ok k) Fn.f67.enter (TabOK.cons (Fn.f68.ok k) Fn.f68.enter (TabOK.cons (Fn.f69.ok k) Fn.f69.enter (TabOK.nil))))))))))
theorem envOK (R : Type) (k : Nat) : EnvOK 0 (env R k) := envOf_ok (by kernel_rfl) (tabOK k) (by intro b; show WOK 0 (match b with | 100009 => vword l100009V (word 0 [] (kept [5] 0 72)) | 100008 => vword l100008V (word 0 [] (kept [5, 50] 0 72)) | 100005 => vword l100005V (word 0 [] (kept [4, 5] 0 72)) | _ => fun _ => none); split <;> first | exact word_ok _ _ _ | exact vword_ok (word_ok _ _ _) | exact none_ok _) (by intro b e; show WOK 0 (match b, e with | 100009, .ret => word 0 [] (kept [2] 0 72) | 100009, .norm => word 0 [] (kept [2] 0 72) | 100008, .ret => word 0 [] (kept [2] 0 72) | 100008, .norm => word 0 [] (kept [5] 0 72) | 100005, .ret => word 0 [] (kept [2] 0 72) | 100005, .norm => word 0 [] (kept [2] 0 72) | _, _ => fun _ => none); split <;> first | exact word_ok _ _ _ | exact none_ok _)
noncomputable def l100008 {R : Type} (k : Nat) (ret : Bool → Option R) (norm : ByteArray → Option R) : ByteArray × Bool → Option R := fun (t5, t50) => cond t50 (ret Bool.false) (norm t5)
noncomputable def l100009 {R : Type} (k : Nat) (ret : Bool → Option R) : ByteArray → Option R := fun t5 => Option.bind (Fn.f68.F k t5) fun y6 => Option.bind (Fn.f69.F k t5) fun y7 => cond (y6.2 == y7.2) (cond (y6.1 == y7.1) (ret (ByteArray.toList (ByteArray.mk #[99, 35] ++ ByteArray.mk (List.toArray (Go.Lib.itoa (Go.IntKind.wrap Go.IntKind.i64 (Go.IntKind.wrap Go.IntKind.i64 (Int.tdiv 61 12) - 1))))) == ByteArray.toList (ByteArray.mk #[99, 35, 52]))) (ret Bool.false)) (ret Bool.false)
noncomputable def l100005 {R : Type} (k : Nat) (ret : Bool → Option R) : Int × ByteArray → Option R := fun (t4, t5) => Option.bind (Fn.f66.F k t4) fun y4 => Option.bind (Fn.f44.F k (t4, 0, 127)) fun y5 => cond (y4.2 != y5) (l100008 k (fun t2 => ret t2) (fun t5 => l100009 k (fun t2 => ret t2) t5) (t5, Bool.true)) (cond (y5 == 0) (Option.bind (Fn.f67.F k t4) fun y8 => cond (!ByteArray.toList y4.1 == ByteArray.toList y8) (l100008 k (fun t2 => ret t2) (fun t5 => l100009 k (fun t2 => ret t2) t5) (t5, Bool.true)) (cond (y5 != 0) (l100008 k (fun t2 => ret t2) (fun t5 => l100009 k (fun t2 => ret t2) t5) (t5, (!ByteArray.toList y4.1 == ByteArray.toList (ByteArray.mk #[])))) (l100008 k (fun t2 => ret t2) (fun t5 => l100009 k (fun t2 => ret t2) t5) (t5, Bool.false)))) (cond (y5 != 0) (l100008 k (fun t2 => ret t2) (fun t5 => l100009 k (fun t2 => ret t2) t5) (t5, (!ByteArray.toList y4.1 == ByteArray.toList (ByteArray.mk #[])))) (l100008 k (fun t2 => ret t2) (fun t5 => l100009 k (fun t2 => ret t2) t5) (t5, Bool.false))))
noncomputable def F (k : Nat) : List T.E3 → Option (Bool) := fun a0 => Option.bind (Fn.f64.F k (a0, 0, 0, 127)) fun y0 => Option.bind (Fn.f65.F k (y0.2.1, y0.2.2)) fun y1 => Option.bind (Fn.f56.F k (y1.2.1, y1.2.2, 2)) fun y2 => cond y2.1 (Option.bind (Fn.f37.F k (y2.2.1, y2.2.2, 0, 127)) fun y3 => l100005 k (fun t2 => some t2) (y3.1, y1.1)) (l100005 k (fun t2 => some t2) (y0.1, y1.1))
noncomputable def decA : List (D El) → List (Nat × MObj El) → Nat → Option (List T.E3)
  | [(.frz 3 a0)], [], 0 => some a0
  | _, _, _ => none
noncomputable def dec : Out El → Option (Bool)
  | ⟨(.bool r), [], 0⟩ => some r
  | _ => none
noncomputable def outOf : Bool → Out El := fun r => ⟨(.bool r), [], 0⟩
noncomputable def L (R : Type) (k : Nat) : LE El R := fun b x K st => match b with
  | 100009 => jell (env R k) k 0 100009 l100009V (fun K p => l100009 k (fun q => K (.ret) (l100009Xret q)) p) x K st
  | 100008 => jell (env R k) k 0 100008 l100008V (fun K p => l100008 k (fun q => K (.ret) (l100008Xret q)) (fun q => K (.norm) (l100008Xnorm q)) p) x K st
  | 100005 => jell (env R k) k 0 100005 l100005V (fun K p => l100005 k (fun q => K (.ret) (l100005Xret q)) p) x K st
  | b => mexec (env R k) k b (.loop x) K st
theorem told100009L (R : Type) (k : Nat) : Told (L R k) (env R k) k 0 (joinIn Go.Proofs.Tryd.f10 9) = [] := by kernel_rfl
theorem told100009 (R : Type) (k : Nat) : ∀ K st, mexec (env R k) k 0 (joinIn Go.Proofs.Tryd.f10 9) (Env.wrap (env R k) 100009 K) st = L R k 100009 (joinIn Go.Proofs.Tryd.f10 9) K st := jell_eq (lk := fun K p => l100009 k (fun q => K (.ret) (l100009Xret q)) p) l100009S (by intro st p h; unfold l100009V at h; split at h <;> cases h; rfl) (by
  rintro K t5
  refine (mexecG_eq (L := L R k) _ (by rw [told100009L]; exact trivial) _ _).trans ?_
  kernel_rfl)
theorem told100008L (R : Type) (k : Nat) : Told (L R k) (env R k) k 0 (joinIn Go.Proofs.Tryd.f10 8) = [] := by kernel_rfl
theorem told100008 (R : Type) (k : Nat) : ∀ K st, mexec (env R k) k 0 (joinIn Go.Proofs.Tryd.f10 8) (Env.wrap (env R k) 100008 K) st = L R k 100008 (joinIn Go.Proofs.Tryd.f10 8) K st := jell_eq (lk := fun K p => l100008 k (fun q => K (.ret) (l100008Xret q)) (fun q => K (.norm) (l100008Xnorm q)) p) l100008S (by intro st p h; unfold l100008V at h; split at h <;> cases h; rfl) (by
  rintro K ⟨t5, t50⟩
  refine (mexecG_eq (L := L R k) _ (by rw [told100008L]; exact trivial) _ _).trans ?_
  kernel_rfl)
theorem told100005L (R : Type) (k : Nat) : Told (L R k) (env R k) k 0 (joinIn Go.Proofs.Tryd.f10 5) = [∀ K st, mexec (env R k) k 0 (joinIn Go.Proofs.Tryd.f10 8) (Env.wrap (env R k) 100008 K) st = L R k 100008 (joinIn Go.Proofs.Tryd.f10 8) K st, ∀ K st, mexec (env R k) k 0 (joinIn Go.Proofs.Tryd.f10 9) (Env.wrap (env R k) 100009 K) st = L R k 100009 (joinIn Go.Proofs.Tryd.f10 9) K st] := by kernel_rfl
theorem told100005 (R : Type) (k : Nat) : ∀ K st, mexec (env R k) k 0 (joinIn Go.Proofs.Tryd.f10 5) (Env.wrap (env R k) 100005 K) st = L R k 100005 (joinIn Go.Proofs.Tryd.f10 5) K st := jell_eq (lk := fun K p => l100005 k (fun q => K (.ret) (l100005Xret q)) p) l100005S (by intro st p h; unfold l100005V at h; split at h <;> cases h; rfl) (by
  rintro K ⟨t4, t5⟩
  refine (mexecG_eq (L := L R k) _ (by rw [told100005L]; exact ⟨told100008 R k, told100009 R k, trivial⟩) _ _).trans ?_
  kernel_rfl)
theorem told (R : Type) (k : Nat) : Told (L R k) (env R k) k 0 ((Go.Proofs.Tryd.f10.body).getD .skip) = [∀ K st, mexec (env R k) k 0 (joinIn Go.Proofs.Tryd.f10 5) (Env.wrap (env R k) 100005 K) st = L R k 100005 (joinIn Go.Proofs.Tryd.f10 5) K st, ∀ K st, mexec (env R k) k 0 (joinIn Go.Proofs.Tryd.f10 8) (Env.wrap (env R k) 100008 K) st = L R k 100008 (joinIn Go.Proofs.Tryd.f10 8) K st, ∀ K st, mexec (env R k) k 0 (joinIn Go.Proofs.Tryd.f10 9) (Env.wrap (env R k) 100009 K) st = L R k 100009 (joinIn Go.Proofs.Tryd.f10 9) K st] := by kernel_rfl
theorem run (k : Nat) (R : Type) (dec : Out El → Option R) st : mexec (env R k) k 0 ((Go.Proofs.Tryd.f10.body).getD .skip) (mend Go.Proofs.Tryd.prog [.tmp 2] [.any] 0 dec) st = mexecG (L R k) (env R k) 0 ((Go.Proofs.Tryd.f10.body).getD .skip) (mend Go.Proofs.Tryd.prog [.tmp 2] [.any] 0 dec) st := mexecG_eq _ (by rw [told]; exact ⟨told100005 R k, told100008 R k, told100009 R k, trivial⟩) _ _
noncomputable def entry (k : Nat) : Entry El := ⟨[.frz 3], 0, specOf decA (F k) outOf⟩
theorem ok (k : Nat) : FnOK Go.Proofs.Tryd.prog 10 0 (specOf decA (F k) outOf) := fnOK_of (fn := Go.Proofs.Tryd.f10) (c := (Go.Proofs.Tryd.f10.body).getD .skip) (by kernel_rfl) (by kernel_rfl) (envOK _ k) (by kernel_rfl) k [.any] (nt := 72) (by kernel_rfl) (rs := [.tmp 2]) (by kernel_rfl) decA (F k) dec outOf
  (by intro out y h; unfold dec at h; split at h <;> cases h; rfl)
  (by intro ds objs next a h; unfold decA at h; split at h <;> cases h; exact (run k _ dec _).trans (by kernel_rfl))
theorem enter : ∀ args w, (callFunc 10 args).run Go.Proofs.Tryd.prog w = .ok (.enter 10 args) w := fun _ _ => by kernel_rfl
end Fn.f10

