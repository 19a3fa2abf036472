/-
  What each function of the program that the law reaches computes (F), and that it does (ok). No condition: F is none where nothing is said.
-/
import Derived.Test.YtdagocpgefjmdaaGreatDoorInG00
import Derived.KernelRfl
set_option linter.unusedVariables false
set_option linter.unusedSectionVars false
set_option linter.unusedSimpArgs false
open Go Go.M Go.Proofs T Uni
set_option linter.unusedVariables false
set_option maxRecDepth 100000
set_option maxHeartbeats 4000000
namespace Fn.f91
noncomputable def tab (k : Nat) : Tab El := []
noncomputable def env (R : Type) (k : Nat) : Env El R := envOf Go.Proofs.Tryz.prog (tab k) R (fun r => match r with | _ => false) (fun b => match b with | _ => fun _ => none) (fun b e => match b, e with | _, _ => fun _ => none)
theorem tabOK (k : Nat) : TabOK Go.Proofs.Tryz.prog (tab k) := TabOK.nil
theorem envOK (R : Type) (k : Nat) : EnvOK 0 (env R k) := envOf_ok (by kernel_rfl) (tabOK k) (by intro b; show WOK 0 (match b with | _ => fun _ => none); split <;> first | exact word_ok _ _ _ | exact vword_ok (word_ok _ _ _) | exact none_ok _) (by intro b e; show WOK 0 (match b, e with | _, _ => fun _ => none); split <;> first | exact word_ok _ _ _ | exact none_ok _)
noncomputable def F (k : Nat) : Int × Int → Option (Int) := fun (a0, a1) => cond (Decidable.decide (a1 < 1)) (some 0) (if (a1 = 0) then (none) else (cond (Decidable.decide (Int.tmod a0 a1 < 0)) (some (Go.IntKind.wrap Go.IntKind.i64 (Int.tmod a0 a1 + a1))) (some (Int.tmod a0 a1))))
noncomputable def decA : List (D El) → List (Nat × MObj El) → Nat → Option (Int × Int)
  | [(.int .i64 a0), (.int .i64 a1)], [], 0 => some (a0, a1)
  | _, _, _ => none
noncomputable def dec : Out El → Option (Int)
  | ⟨(.int .i64 r), [], 0⟩ => some r
  | _ => none
noncomputable def outOf : Int → Out El := fun r => ⟨(.int .i64 r), [], 0⟩
noncomputable def entry (k : Nat) : Entry El := ⟨[.any, .any], 0, specOf decA (F k) outOf⟩
theorem ok (k : Nat) : FnOK Go.Proofs.Tryz.prog 91 0 (specOf decA (F k) outOf) := fnOK_of (fn := Go.Proofs.Tryz.f91) (c := (Go.Proofs.Tryz.f91.body).getD .skip) (by kernel_rfl) (by kernel_rfl) (envOK _ k) (by kernel_rfl) k [.any] (nt := 16) (by kernel_rfl) (rs := [.tmp 4]) (by kernel_rfl) decA (F k) dec outOf
  (by intro out y h; unfold dec at h; split at h <;> cases h; rfl)
  (by intro ds objs next a h; unfold decA at h; split at h <;> cases h; kernel_rfl)
theorem enter : ∀ args w, (callFunc 91 args).run Go.Proofs.Tryz.prog w = .ok (.enter 91 args) w := fun _ _ => by kernel_rfl
end Fn.f91

namespace Fn.f41
noncomputable def tab (k : Nat) : Tab El := [(91, Fn.f91.entry k)]
noncomputable def env (R : Type) (k : Nat) : Env El R := envOf Go.Proofs.Tryz.prog (tab k) R (fun r => match r with | _ => false) (fun b => match b with | _ => fun _ => none) (fun b e => match b, e with | _, _ => fun _ => none)
theorem tabOK (k : Nat) : TabOK Go.Proofs.Tryz.prog (tab k) := TabOK.cons (Fn.f91.ok k) Fn.f91.enter (TabOK.nil)
theorem envOK (R : Type) (k : Nat) : EnvOK 1 (env R k) := envOf_ok (by kernel_rfl) (tabOK k) (by intro b; show WOK 1 (match b with | _ => fun _ => none); split <;> first | exact word_ok _ _ _ | exact vword_ok (word_ok _ _ _) | exact none_ok _) (by intro b e; show WOK 1 (match b, e with | _, _ => fun _ => none); split <;> first | exact word_ok _ _ _ | exact none_ok _)
noncomputable def F (k : Nat) : List T.E3 × Int × Int → Option (Int × List T.E3 × Int) := fun (b0_0, b0_1, a1) => cond ((↑(List.length b0_0) : Int) == 0) (Option.bind (Fn.f91.F k (Go.IntKind.wrap Go.IntKind.i64 (Go.IntKind.wrap Go.IntKind.i64 (b0_1 + 1) * 7919), a1)) fun y0 => some (y0, b0_0, (Go.IntKind.wrap Go.IntKind.i64 (b0_1 + 1)))) (if ((↑(List.length b0_0) : Int) = 0) then (none) else (if ((↑(List.length b0_0) : Int) = 0) then (none) else (if (0 ≤ Int.tmod (Go.IntKind.wrap Go.IntKind.i64 (Go.IntKind.wrap Go.IntKind.i64 (b0_1 + 1) - 1)) (↑(List.length b0_0) : Int)) then (if (Int.tmod (Go.IntKind.wrap Go.IntKind.i64 (Go.IntKind.wrap Go.IntKind.i64 (b0_1 + 1) - 1)) (↑(List.length b0_0) : Int) < (↑(List.length b0_0) : Int)) then (Option.bind (b0_0[Int.toNat (Int.tmod (Go.IntKind.wrap Go.IntKind.i64 (Go.IntKind.wrap Go.IntKind.i64 (b0_1 + 1) - 1)) (↑(List.length b0_0) : Int))]?) fun y5 => Option.bind (Fn.f91.F k (y5, 1073741824)) fun y6 => Option.bind (Fn.f91.F k (Go.IntKind.wrap Go.IntKind.i64 (y6 + Go.IntKind.wrap Go.IntKind.i64 (Go.IntKind.wrap Go.IntKind.i64 (Int.tdiv (Go.IntKind.wrap Go.IntKind.i64 (Go.IntKind.wrap Go.IntKind.i64 (b0_1 + 1) - 1)) (↑(List.length b0_0) : Int)) * Go.IntKind.wrap Go.IntKind.i64 (7919 + Int.tmod (Go.IntKind.wrap Go.IntKind.i64 (Go.IntKind.wrap Go.IntKind.i64 (b0_1 + 1) - 1)) (↑(List.length b0_0) : Int)))), a1)) fun y7 => some (y7, b0_0, (Go.IntKind.wrap Go.IntKind.i64 (b0_1 + 1)))) else (none)) else (none))))
noncomputable def decA : List (D El) → List (Nat × MObj El) → Nat → Option (List T.E3 × Int × Int)
  | [(.ptr 0 0 0 0), (.int .i64 a1)], [(0, .box 25 [(.frz 3 b0_0), (.int .i64 b0_1)])], 1 => some (b0_0, b0_1, a1)
  | _, _, _ => none
noncomputable def dec : Out El → Option (Int × List T.E3 × Int)
  | ⟨(.int .i64 r), [(0, .box 25 [(.frz 3 b0_0), (.int .i64 b0_1)])], 1⟩ => some (r, b0_0, b0_1)
  | _ => none
noncomputable def outOf : Int × List T.E3 × Int → Out El := fun (r, b0_0, b0_1) => ⟨(.int .i64 r), [(0, .box 25 [(.frz 3 b0_0), (.int .i64 b0_1)])], 1⟩
noncomputable def entry (k : Nat) : Entry El := ⟨[.ref, .any], 1, specOf decA (F k) outOf⟩
theorem ok (k : Nat) : FnOK Go.Proofs.Tryz.prog 41 1 (specOf decA (F k) outOf) := fnOK_of (fn := Go.Proofs.Tryz.f41) (c := (Go.Proofs.Tryz.f41.body).getD .skip) (by kernel_rfl) (by kernel_rfl) (envOK _ k) (by kernel_rfl) k [.any] (nt := 64) (by kernel_rfl) (rs := [.tmp 4]) (by kernel_rfl) decA (F k) dec outOf
  (by intro out y h; unfold dec at h; split at h <;> cases h; rfl)
  (by intro ds objs next a h; unfold decA at h; split at h <;> cases h; kernel_rfl)
theorem enter : ∀ args w, (callFunc 41 args).run Go.Proofs.Tryz.prog w = .ok (.enter 41 args) w := fun _ _ => by kernel_rfl
end Fn.f41

namespace Fn.f29
noncomputable def tab (k : Nat) : Tab El := [(41, Fn.f41.entry k)]
noncomputable def env (R : Type) (k : Nat) : Env El R := envOf Go.Proofs.Tryz.prog (tab k) R (fun r => match r with | _ => false) (fun b => match b with | _ => fun _ => none) (fun b e => match b, e with | _, _ => fun _ => none)
theorem tabOK (k : Nat) : TabOK Go.Proofs.Tryz.prog (tab k) := TabOK.cons (Fn.f41.ok k) Fn.f41.enter (TabOK.nil)
theorem envOK (R : Type) (k : Nat) : EnvOK 1 (env R k) := envOf_ok (by kernel_rfl) (tabOK k) (by intro b; show WOK 1 (match b with | _ => fun _ => none); split <;> first | exact word_ok _ _ _ | exact vword_ok (word_ok _ _ _) | exact none_ok _) (by intro b e; show WOK 1 (match b, e with | _, _ => fun _ => none); split <;> first | exact word_ok _ _ _ | exact none_ok _)
noncomputable def F (k : Nat) : List T.E3 × Int × Int × Int → Option (Int × List T.E3 × Int) := fun (b0_0, b0_1, a1, a2) => cond (Decidable.decide (a2 < a1)) (some (a1, b0_0, b0_1)) (Option.bind (Fn.f41.F k (b0_0, b0_1, Go.IntKind.wrap Go.IntKind.i64 (Go.IntKind.wrap Go.IntKind.i64 (a2 - a1) + 1))) fun y0 => some ((Go.IntKind.wrap Go.IntKind.i64 (a1 + y0.1)), y0.2.1, y0.2.2))
noncomputable def decA : List (D El) → List (Nat × MObj El) → Nat → Option (List T.E3 × Int × Int × Int)
  | [(.ptr 0 0 0 0), (.int .i64 a1), (.int .i64 a2)], [(0, .box 25 [(.frz 3 b0_0), (.int .i64 b0_1)])], 1 => some (b0_0, b0_1, a1, a2)
  | _, _, _ => none
noncomputable def dec : Out El → Option (Int × List T.E3 × Int)
  | ⟨(.int .i64 r), [(0, .box 25 [(.frz 3 b0_0), (.int .i64 b0_1)])], 1⟩ => some (r, b0_0, b0_1)
  | _ => none
noncomputable def outOf : Int × List T.E3 × Int → Out El := fun (r, b0_0, b0_1) => ⟨(.int .i64 r), [(0, .box 25 [(.frz 3 b0_0), (.int .i64 b0_1)])], 1⟩
noncomputable def entry (k : Nat) : Entry El := ⟨[.ref, .any, .any], 1, specOf decA (F k) outOf⟩
theorem ok (k : Nat) : FnOK Go.Proofs.Tryz.prog 29 1 (specOf decA (F k) outOf) := fnOK_of (fn := Go.Proofs.Tryz.f29) (c := (Go.Proofs.Tryz.f29.body).getD .skip) (by kernel_rfl) (by kernel_rfl) (envOK _ k) (by kernel_rfl) k [.any] (nt := 19) (by kernel_rfl) (rs := [.tmp 6]) (by kernel_rfl) decA (F k) dec outOf
  (by intro out y h; unfold dec at h; split at h <;> cases h; rfl)
  (by intro ds objs next a h; unfold decA at h; split at h <;> cases h; kernel_rfl)
theorem enter : ∀ args w, (callFunc 29 args).run Go.Proofs.Tryz.prog w = .ok (.enter 29 args) w := fun _ _ => by kernel_rfl
end Fn.f29

namespace Fn.f40
noncomputable def tab (k : Nat) : Tab El := [(41, Fn.f41.entry k)]
noncomputable def env (R : Type) (k : Nat) : Env El R := envOf Go.Proofs.Tryz.prog (tab k) R (fun r => match r with | _ => false) (fun b => match b with | _ => fun _ => none) (fun b e => match b, e with | _, _ => fun _ => none)
theorem tabOK (k : Nat) : TabOK Go.Proofs.Tryz.prog (tab k) := TabOK.cons (Fn.f41.ok k) Fn.f41.enter (TabOK.nil)
theorem envOK (R : Type) (k : Nat) : EnvOK 1 (env R k) := envOf_ok (by kernel_rfl) (tabOK k) (by intro b; show WOK 1 (match b with | _ => fun _ => none); split <;> first | exact word_ok _ _ _ | exact vword_ok (word_ok _ _ _) | exact none_ok _) (by intro b e; show WOK 1 (match b, e with | _, _ => fun _ => none); split <;> first | exact word_ok _ _ _ | exact none_ok _)
noncomputable def F (k : Nat) : List T.E3 × Int × Int → Option (Bool × List T.E3 × Int) := fun (b0_0, b0_1, a1) => Option.bind (Fn.f41.F k (b0_0, b0_1, a1)) fun y0 => some ((y0.1 == 0), y0.2.1, y0.2.2)
noncomputable def decA : List (D El) → List (Nat × MObj El) → Nat → Option (List T.E3 × Int × Int)
  | [(.ptr 0 0 0 0), (.int .i64 a1)], [(0, .box 25 [(.frz 3 b0_0), (.int .i64 b0_1)])], 1 => some (b0_0, b0_1, a1)
  | _, _, _ => none
noncomputable def dec : Out El → Option (Bool × List T.E3 × Int)
  | ⟨(.bool r), [(0, .box 25 [(.frz 3 b0_0), (.int .i64 b0_1)])], 1⟩ => some (r, b0_0, b0_1)
  | _ => none
noncomputable def outOf : Bool × List T.E3 × Int → Out El := fun (r, b0_0, b0_1) => ⟨(.bool r), [(0, .box 25 [(.frz 3 b0_0), (.int .i64 b0_1)])], 1⟩
noncomputable def entry (k : Nat) : Entry El := ⟨[.ref, .any], 1, specOf decA (F k) outOf⟩
theorem ok (k : Nat) : FnOK Go.Proofs.Tryz.prog 40 1 (specOf decA (F k) outOf) := fnOK_of (fn := Go.Proofs.Tryz.f40) (c := (Go.Proofs.Tryz.f40.body).getD .skip) (by kernel_rfl) (by kernel_rfl) (envOK _ k) (by kernel_rfl) k [.any] (nt := 9) (by kernel_rfl) (rs := [.tmp 4]) (by kernel_rfl) decA (F k) dec outOf
  (by intro out y h; unfold dec at h; split at h <;> cases h; rfl)
  (by intro ds objs next a h; unfold decA at h; split at h <;> cases h; kernel_rfl)
theorem enter : ∀ args w, (callFunc 40 args).run Go.Proofs.Tryz.prog w = .ok (.enter 40 args) w := fun _ _ => by kernel_rfl
end Fn.f40

namespace Fn.f39
noncomputable def tab (k : Nat) : Tab El := [(41, Fn.f41.entry k)]
noncomputable def env (R : Type) (k : Nat) : Env El R := envOf Go.Proofs.Tryz.prog (tab k) R (fun r => match r with | _ => false) (fun b => match b with | _ => fun _ => none) (fun b e => match b, e with | _, _ => fun _ => none)
theorem tabOK (k : Nat) : TabOK Go.Proofs.Tryz.prog (tab k) := TabOK.cons (Fn.f41.ok k) Fn.f41.enter (TabOK.nil)
theorem envOK (R : Type) (k : Nat) : EnvOK 1 (env R k) := envOf_ok (by kernel_rfl) (tabOK k) (by intro b; show WOK 1 (match b with | _ => fun _ => none); split <;> first | exact word_ok _ _ _ | exact vword_ok (word_ok _ _ _) | exact none_ok _) (by intro b e; show WOK 1 (match b, e with | _, _ => fun _ => none); split <;> first | exact word_ok _ _ _ | exact none_ok _)
noncomputable def F (k : Nat) : List T.E3 × Int × List T.E3 → Option (Int × List T.E3 × Int) := fun (b0_0, b0_1, a1) => Option.bind (Fn.f41.F k (b0_0, b0_1, (↑(List.length a1) : Int))) fun y0 => if (0 ≤ y0.1) then (if (y0.1 < (↑(List.length a1) : Int)) then (Option.bind (a1[Int.toNat y0.1]?) fun y3 => some (y3, y0.2.1, y0.2.2)) else (none)) else (none)
noncomputable def decA : List (D El) → List (Nat × MObj El) → Nat → Option (List T.E3 × Int × List T.E3)
  | [(.ptr 0 0 0 0), (.frz 3 a1)], [(0, .box 25 [(.frz 3 b0_0), (.int .i64 b0_1)])], 1 => some (b0_0, b0_1, a1)
  | _, _, _ => none
noncomputable def dec : Out El → Option (Int × List T.E3 × Int)
  | ⟨(.int .i64 r), [(0, .box 25 [(.frz 3 b0_0), (.int .i64 b0_1)])], 1⟩ => some (r, b0_0, b0_1)
  | _ => none
noncomputable def outOf : Int × List T.E3 × Int → Out El := fun (r, b0_0, b0_1) => ⟨(.int .i64 r), [(0, .box 25 [(.frz 3 b0_0), (.int .i64 b0_1)])], 1⟩
noncomputable def entry (k : Nat) : Entry El := ⟨[.ref, .frz 3], 1, specOf decA (F k) outOf⟩
theorem ok (k : Nat) : FnOK Go.Proofs.Tryz.prog 39 1 (specOf decA (F k) outOf) := fnOK_of (fn := Go.Proofs.Tryz.f39) (c := (Go.Proofs.Tryz.f39.body).getD .skip) (by kernel_rfl) (by kernel_rfl) (envOK _ k) (by kernel_rfl) k [.any] (nt := 12) (by kernel_rfl) (rs := [.tmp 4]) (by kernel_rfl) decA (F k) dec outOf
  (by intro out y h; unfold dec at h; split at h <;> cases h; rfl)
  (by intro ds objs next a h; unfold decA at h; split at h <;> cases h; kernel_rfl)
theorem enter : ∀ args w, (callFunc 39 args).run Go.Proofs.Tryz.prog w = .ok (.enter 39 args) w := fun _ _ => by kernel_rfl
end Fn.f39

namespace Fn.f73
noncomputable def tab (k : Nat) : Tab El := [(29, Fn.f29.entry k), (39, Fn.f39.entry k), (40, Fn.f40.entry k)]
noncomputable def env (R : Type) (k : Nat) : Env El R := envOf Go.Proofs.Tryz.prog (tab k) R (fun r => match r with | _ => false) (fun b => match b with | _ => fun _ => none) (fun b e => match b, e with | _, _ => fun _ => none)
theorem tabOK (k : Nat) : TabOK Go.Proofs.Tryz.prog (tab k) := TabOK.cons (Fn.f29.ok k) Fn.f29.enter (TabOK.cons (Fn.f39.ok k) Fn.f39.enter (TabOK.cons (Fn.f40.ok k) Fn.f40.enter (TabOK.nil)))
theorem envOK (R : Type) (k : Nat) : EnvOK 1 (env R k) := envOf_ok (by kernel_rfl) (tabOK k) (by intro b; show WOK 1 (match b with | _ => fun _ => none); split <;> first | exact word_ok _ _ _ | exact vword_ok (word_ok _ _ _) | exact none_ok _) (by intro b e; show WOK 1 (match b, e with | _, _ => fun _ => none); split <;> first | exact word_ok _ _ _ | exact none_ok _)
noncomputable def F (k : Nat) : List T.E3 × Int × Int × Int → Option (Int × List T.E3 × Int) := fun (b0_0, b0_1, a1, a2) => Option.bind (Fn.f40.F k (b0_0, b0_1, 12)) fun y0 => cond y0.1 (Option.bind (Fn.f39.F k (y0.2.1, y0.2.2, [Go.IntKind.wrap Go.IntKind.i64 (a1 - 1), Go.IntKind.wrap Go.IntKind.i64 (a2 + 1), a1, a2, -1099511627776, 1099511627776])) fun y1 => some (y1.1, y1.2.1, y1.2.2)) (Option.bind (Fn.f29.F k (y0.2.1, y0.2.2, a1, a2)) fun y2 => some (y2.1, y2.2.1, y2.2.2))
noncomputable def decA : List (D El) → List (Nat × MObj El) → Nat → Option (List T.E3 × Int × Int × Int)
  | [(.ptr 0 0 0 0), (.int .i64 a1), (.int .i64 a2)], [(0, .box 25 [(.frz 3 b0_0), (.int .i64 b0_1)])], 1 => some (b0_0, b0_1, a1, a2)
  | _, _, _ => none
noncomputable def dec : Out El → Option (Int × List T.E3 × Int)
  | ⟨(.int .i64 r), [(0, .box 25 [(.frz 3 b0_0), (.int .i64 b0_1)])], 1⟩ => some (r, b0_0, b0_1)
  | _ => none
noncomputable def outOf : Int × List T.E3 × Int → Out El := fun (r, b0_0, b0_1) => ⟨(.int .i64 r), [(0, .box 25 [(.frz 3 b0_0), (.int .i64 b0_1)])], 1⟩
noncomputable def entry (k : Nat) : Entry El := ⟨[.ref, .any, .any], 1, specOf decA (F k) outOf⟩
theorem ok (k : Nat) : FnOK Go.Proofs.Tryz.prog 73 1 (specOf decA (F k) outOf) := fnOK_of (fn := Go.Proofs.Tryz.f73) (c := (Go.Proofs.Tryz.f73.body).getD .skip) (by kernel_rfl) (by kernel_rfl) (envOK _ k) (by kernel_rfl) k [.any] (nt := 22) (by kernel_rfl) (rs := [.tmp 6]) (by kernel_rfl) decA (F k) dec outOf
  (by intro out y h; unfold dec at h; split at h <;> cases h; rfl)
  (by intro ds objs next a h; unfold decA at h; split at h <;> cases h; kernel_rfl)
theorem enter : ∀ args w, (callFunc 73 args).run Go.Proofs.Tryz.prog w = .ok (.enter 73 args) w := fun _ _ => by kernel_rfl
end Fn.f73

namespace Fn.f28
noncomputable def l100004H : SS := ⟨[(.o (.c (.ptr0 0 0))), (.o (.c .dead)), (.o (.c (.ptr0 1 0))), (.o (.c (.ptr0 2 0))), (.o (.c .dead)), (.o (.c .dead)), (.o (.c .dead)), (.o (.c .dead)), (.o (.c .dead)), (.o (.c .dead)), (.o (.c .dead)), (.o (.c .dead)), (.o (.c .dead)), (.o (.c .dead)), (.o (.c .dead)), (.o (.c .dead)), (.o (.c .dead)), (.o (.c .dead)), (.o (.c .dead)), (.o (.c .dead)), (.o (.c .dead)), (.o (.c .dead)), (.o (.c .dead)), (.o (.c .dead)), (.o (.c .dead)), (.o (.c .dead)), (.o (.c .dead)), (.o (.c .dead)), (.o (.c .dead)), (.o (.c .dead)), (.o (.c .dead)), (.o (.c .dead)), (.o (.c .dead)), (.o (.c .dead)), (.o (.c .dead)), (.o (.c .dead)), (.o (.c .dead)), (.o (.c .dead)), (.o (.c .dead)), (.o (.c .dead)), (.o (.c .dead)), (.o (.c .dead)), (.o (.c .dead)), (.o (.c .dead))], [(0, .box 25 [(.frz 3), (.int .i64)]), (1, .box 64 [(.int .i64), (.int .i64), (.int .i64), (.int .i64)]), (2, .box 64 [(.int .i64), (.int .i64), (.int .i64), (.int .i64)])], 3⟩
noncomputable def l100004V : St El → Option (List T.E3 × Int × Int × Int × Int × Int × Int × Int × Int × Int) := viewS l100004H (fun x => (x.2.1.1, x.2.1.2.1, x.2.2.1.1, x.2.2.1.2.1, x.2.2.1.2.2.1, x.2.2.1.2.2.2.1, x.2.2.2.1.1, x.2.2.2.1.2.1, x.2.2.2.1.2.2.1, x.2.2.2.1.2.2.2.1))
noncomputable def l100004S : List T.E3 × Int × Int × Int × Int × Int × Int × Int × Int × Int → St El := fun (b0_0, b0_1, b1_0, b1_1, b1_2, b1_3, b2_0, b2_1, b2_2, b2_3) => ⟨(.ptr 0 0 0 0) :: .dead :: (.ptr 1 0 0 0) :: (.ptr 2 0 0 0) :: .dead :: .dead :: .dead :: .dead :: .dead :: .dead :: .dead :: .dead :: .dead :: .dead :: .dead :: .dead :: .dead :: .dead :: .dead :: .dead :: .dead :: .dead :: .dead :: .dead :: .dead :: .dead :: .dead :: .dead :: .dead :: .dead :: .dead :: .dead :: .dead :: .dead :: .dead :: .dead :: .dead :: .dead :: .dead :: .dead :: .dead :: .dead :: .dead :: .dead :: [], [(0, .box 25 [(.frz 3 b0_0), (.int .i64 b0_1)]), (1, .box 64 [(.int .i64 b1_0), (.int .i64 b1_1), (.int .i64 b1_2), (.int .i64 b1_3)]), (2, .box 64 [(.int .i64 b2_0), (.int .i64 b2_1), (.int .i64 b2_2), (.int .i64 b2_3)])], 3⟩
noncomputable def l100004Xret : List T.E3 × Int × Int × Int × Int × Int → St El := fun (b0_0, b0_1, b1_0, b1_1, b1_2, b1_3) => ⟨.dead :: .dead :: (.ptr 1 0 0 0) :: .dead :: .dead :: .dead :: .dead :: .dead :: .dead :: .dead :: .dead :: .dead :: .dead :: .dead :: .dead :: .dead :: .dead :: .dead :: .dead :: .dead :: .dead :: .dead :: .dead :: .dead :: .dead :: .dead :: .dead :: .dead :: .dead :: .dead :: .dead :: .dead :: .dead :: .dead :: .dead :: .dead :: .dead :: .dead :: .dead :: .dead :: .dead :: .dead :: .dead :: .dead :: [], [(0, .box 25 [(.frz 3 b0_0), (.int .i64 b0_1)]), (1, .box 64 [(.int .i64 b1_0), (.int .i64 b1_1), (.int .i64 b1_2), (.int .i64 b1_3)])], 2⟩
noncomputable def tab (k : Nat) : Tab El := [(29, Fn.f29.entry k), (40, Fn.f40.entry k), (41, Fn.f41.entry k), (73, Fn.f73.entry k)]
noncomputable def env (R : Type) (k : Nat) : Env El R := envOf Go.Proofs.Tryz.prog (tab k) R (fun r => match r with | 4 => true | _ => false) (fun b => match b with | 100004 => vword l100004V (word 1 [] (kept [0, 2, 3] 0 44)) | _ => fun _ => none) (fun b e => match b, e with | 100004, .ret => word 1 [] (kept [2] 0 44) | 100004, .norm => word 1 [] (kept [2] 0 44) | _, _ => fun _ => none)
theorem tabOK (k : Nat) : TabOK Go.Proofs.Tryz.prog (tab k) := TabOK.cons (Fn.f29.ok k) Fn.f29.enter (TabOK.cons (Fn.f40.ok k) Fn.f40.enter (TabOK.cons (Fn.f41.ok k) Fn.f41.enter (TabOK.cons (Fn.f73.ok k) Fn.f73.enter (TabOK.nil))))
theorem envOK (R : Type) (k : Nat) : EnvOK 1 (env R k) := envOf_ok (by kernel_rfl) (tabOK k) (by intro b; show WOK 1 (match b with | 100004 => vword l100004V (word 1 [] (kept [0, 2, 3] 0 44)) | _ => fun _ => none); split <;> first | exact word_ok _ _ _ | exact vword_ok (word_ok _ _ _) | exact none_ok _) (by intro b e; show WOK 1 (match b, e with | 100004, .ret => word 1 [] (kept [2] 0 44) | 100004, .norm => word 1 [] (kept [2] 0 44) | _, _ => fun _ => none); split <;> first | exact word_ok _ _ _ | exact none_ok _)
noncomputable def l100004 {R : Type} (k : Nat) (ret : List T.E3 × Int × Int × Int × Int × Int → Option R) : List T.E3 × Int × Int × Int × Int × Int × Int × Int × Int × Int → Option R := fun (b0_0, b0_1, b1_0, b1_1, b1_2, b1_3, b2_0, b2_1, b2_2, b2_3) => Option.bind (Fn.f40.F k (b0_0, b0_1, 15)) fun y9 => cond y9.1 (Option.bind (Fn.f73.F k (y9.2.1, y9.2.2, -24, 24)) fun y10 => Option.bind (Fn.f73.F k (y10.2.1, y10.2.2, -10, 10)) fun y11 => Option.bind (Fn.f73.F k (y11.2.1, y11.2.2, -5, 5)) fun y12 => Option.bind (Fn.f73.F k (y12.2.1, y12.2.2, -3, 3)) fun y13 => ret (y13.2.1, y13.2.2, y10.1, y11.1, y12.1, y13.1)) (ret (y9.2.1, y9.2.2, b2_0, b2_1, b2_2, b2_3))
noncomputable def F (k : Nat) : List T.E3 × Int → Option (Int × Int × Int × Int × List T.E3 × Int) := fun (b0_0, b0_1) => Option.bind (Fn.f41.F k (b0_0, b0_1, 9)) fun y0 => if (0 ≤ y0.1) then (if (y0.1 < (↑(List.length [T.E64.mk 0 0 0 0, T.E64.mk 1 0 0 0, T.E64.mk (-1) 1 0 0, T.E64.mk 2 (-1) 0 0, T.E64.mk (-2) 0 1 0, T.E64.mk (-3) 2 0 0, T.E64.mk 1 (-2) 1 0, T.E64.mk (-4) 4 (-1) 0, T.E64.mk (-2) 0 0 1]) : Int)) then (Option.bind ([T.E64.mk 0 0 0 0, T.E64.mk 1 0 0 0, T.E64.mk (-1) 1 0 0, T.E64.mk 2 (-1) 0 0, T.E64.mk (-2) 0 1 0, T.E64.mk (-3) 2 0 0, T.E64.mk 1 (-2) 1 0, T.E64.mk (-4) 4 (-1) 0, T.E64.mk (-2) 0 0 1][Int.toNat y0.1]?) fun y3 => Option.bind (Fn.f40.F k (y0.2.1, y0.2.2, 4)) fun y4 => cond y4.1 (Option.bind (Fn.f29.F k (y4.2.1, y4.2.2, -24, 24)) fun y5 => Option.bind (Fn.f29.F k (y5.2.1, y5.2.2, -10, 10)) fun y6 => Option.bind (Fn.f29.F k (y6.2.1, y6.2.2, -5, 5)) fun y7 => Option.bind (Fn.f29.F k (y7.2.1, y7.2.2, -3, 3)) fun y8 => l100004 k (fun (b0_0, b0_1, b1_0, b1_1, b1_2, b1_3) => some (b1_0, b1_1, b1_2, b1_3, b0_0, b0_1)) (y8.2.1, y8.2.2, 0, 0, 0, 0, y5.1, y6.1, y7.1, y8.1)) (l100004 k (fun (b0_0, b0_1, b1_0, b1_1, b1_2, b1_3) => some (b1_0, b1_1, b1_2, b1_3, b0_0, b0_1)) (y4.2.1, y4.2.2, 0, 0, 0, 0, (T.E64.f0 y3), (T.E64.f1 y3), (T.E64.f2 y3), (T.E64.f3 y3)))) else (none)) else (none)
noncomputable def decA : List (D El) → List (Nat × MObj El) → Nat → Option (List T.E3 × Int)
  | [(.ptr 0 0 0 0)], [(0, .box 25 [(.frz 3 b0_0), (.int .i64 b0_1)])], 1 => some (b0_0, b0_1)
  | _, _, _ => none
noncomputable def dec : Out El → Option (Int × Int × Int × Int × List T.E3 × Int)
  | ⟨(.agg [(.int .i64 r_0), (.int .i64 r_1), (.int .i64 r_2), (.int .i64 r_3)]), [(0, .box 25 [(.frz 3 b0_0), (.int .i64 b0_1)])], 1⟩ => some (r_0, r_1, r_2, r_3, b0_0, b0_1)
  | _ => none
noncomputable def outOf : Int × Int × Int × Int × List T.E3 × Int → Out El := fun (r_0, r_1, r_2, r_3, b0_0, b0_1) => ⟨(.agg [(.int .i64 r_0), (.int .i64 r_1), (.int .i64 r_2), (.int .i64 r_3)]), [(0, .box 25 [(.frz 3 b0_0), (.int .i64 b0_1)])], 1⟩
noncomputable def L (R : Type) (k : Nat) : LE El R := fun b x K st => match b with
  | 100004 => jell (env R k) k 0 100004 l100004V (fun K p => l100004 k (fun q => K (.ret) (l100004Xret q)) p) x K st
  | b => mexec (env R k) k b (.loop x) K st
theorem told100004L (R : Type) (k : Nat) : Told (L R k) (env R k) k 0 (joinIn Go.Proofs.Tryz.f28 4) = [] := by kernel_rfl
theorem told100004 (R : Type) (k : Nat) : ∀ K st, mexec (env R k) k 0 (joinIn Go.Proofs.Tryz.f28 4) (Env.wrap (env R k) 100004 K) st = L R k 100004 (joinIn Go.Proofs.Tryz.f28 4) K st := jell_eq (lk := fun K p => l100004 k (fun q => K (.ret) (l100004Xret q)) p) l100004S (viewS_eq (fun x => by kernel_rfl)) (by
  rintro K ⟨b0_0, b0_1, b1_0, b1_1, b1_2, b1_3, b2_0, b2_1, b2_2, b2_3⟩
  refine (mexecG_eq (L := L R k) _ (by rw [told100004L]; exact trivial) _ _).trans ?_
  kernel_rfl)
theorem told (R : Type) (k : Nat) : Told (L R k) (env R k) k 0 ((Go.Proofs.Tryz.f28.body).getD .skip) = [∀ K st, mexec (env R k) k 0 (joinIn Go.Proofs.Tryz.f28 4) (Env.wrap (env R k) 100004 K) st = L R k 100004 (joinIn Go.Proofs.Tryz.f28 4) K st] := by kernel_rfl
theorem run (k : Nat) (R : Type) (dec : Out El → Option R) st : mexec (env R k) k 0 ((Go.Proofs.Tryz.f28.body).getD .skip) (mend Go.Proofs.Tryz.prog [.cell 2 64] [.agg] 1 dec) st = mexecG (L R k) (env R k) 0 ((Go.Proofs.Tryz.f28.body).getD .skip) (mend Go.Proofs.Tryz.prog [.cell 2 64] [.agg] 1 dec) st := mexecG_eq _ (by rw [told]; exact ⟨told100004 R k, trivial⟩) _ _
noncomputable def entry (k : Nat) : Entry El := ⟨[.ref], 1, specOf decA (F k) outOf⟩
theorem ok (k : Nat) : FnOK Go.Proofs.Tryz.prog 28 1 (specOf decA (F k) outOf) := fnOK_of (fn := Go.Proofs.Tryz.f28) (c := (Go.Proofs.Tryz.f28.body).getD .skip) (by kernel_rfl) (by kernel_rfl) (envOK _ k) (by kernel_rfl) k [.agg] (nt := 44) (by kernel_rfl) (rs := [.cell 2 64]) (by kernel_rfl) decA (F k) dec outOf
  (by intro out y h; unfold dec at h; split at h <;> cases h; rfl)
  (by intro ds objs next a h; unfold decA at h; split at h <;> cases h; exact (run k _ dec _).trans (by kernel_rfl))
theorem enter : ∀ args w, (callFunc 28 args).run Go.Proofs.Tryz.prog w = .ok (.enter 28 args) w := fun _ _ => by kernel_rfl
end Fn.f28

namespace Fn.f9
noncomputable def l0H : SS := ⟨[(.o (.c .dead)), (.o (.c .dead)), (.o (.c .dead)), (.o (.c (.int .i64))), (.o (.c .dead)), (.o (.c .dead)), (.o (.c (.frz 31))), (.o (.c (.int .i64))), (.o (.c (.int .i64))), (.o (.c .dead)), (.o (.c .dead)), (.o (.c .dead)), (.o (.c .dead)), (.o (.c .dead)), (.o (.c .dead)), (.o (.c .dead)), (.o (.c .dead)), (.o (.c .dead))], [], 0⟩
noncomputable def l0V : St El → Option (Int × List T.E31 × Int × Int) := viewS l0H (fun x => (x.1.2.2.2.1, x.1.2.2.2.2.2.2.1, x.1.2.2.2.2.2.2.2.1, x.1.2.2.2.2.2.2.2.2.1))
noncomputable def l0S : Int × List T.E31 × Int × Int → St El := fun (t3, t6, t7, t8) => ⟨.dead :: .dead :: .dead :: (.int .i64 t3) :: .dead :: .dead :: (.frz 31 t6) :: (.int .i64 t7) :: (.int .i64 t8) :: .dead :: .dead :: .dead :: .dead :: .dead :: .dead :: .dead :: .dead :: .dead :: [], [], 0⟩
noncomputable def l0Xret : Int → St El := fun t2 => ⟨.dead :: .dead :: (.int .i64 t2) :: .dead :: .dead :: .dead :: .dead :: .dead :: .dead :: .dead :: .dead :: .dead :: .dead :: .dead :: .dead :: .dead :: .dead :: .dead :: [], [], 0⟩
noncomputable def l0Xexit0 : Int → St El := fun t3 => ⟨.dead :: .dead :: .dead :: (.int .i64 t3) :: .dead :: .dead :: .dead :: .dead :: .dead :: .dead :: .dead :: .dead :: .dead :: .dead :: .dead :: .dead :: .dead :: .dead :: [], [], 0⟩
noncomputable def tab (k : Nat) : Tab El := []
noncomputable def env (R : Type) (k : Nat) : Env El R := envOf Go.Proofs.Tryz.prog (tab k) R (fun r => match r with | _ => false) (fun b => match b with | 0 => word 0 [] (kept [3, 6, 7, 8] 0 18) | _ => fun _ => none) (fun b e => match b, e with | 0, .exit 0 => word 0 [] (kept [3] 0 18) | 0, .ret => word 0 [] (kept [2] 0 18) | _, _ => fun _ => none)
theorem tabOK (k : Nat) : TabOK Go.Proofs.Tryz.prog (tab k) := TabOK.nil
theorem envOK (R : Type) (k : Nat) : EnvOK 0 (env R k) := envOf_ok (by kernel_rfl) (tabOK k) (by intro b; show WOK 0 (match b with | 0 => word 0 [] (kept [3, 6, 7, 8] 0 18) | _ => fun _ => none); split <;> first | exact word_ok _ _ _ | exact vword_ok (word_ok _ _ _) | exact none_ok _) (by intro b e; show WOK 0 (match b, e with | 0, .exit 0 => word 0 [] (kept [3] 0 18) | 0, .ret => word 0 [] (kept [2] 0 18) | _, _ => fun _ => none); split <;> first | exact word_ok _ _ _ | exact none_ok _)
noncomputable def l0T {R : Type} (k : Nat) (ret : Int → Option R) (exit0 : Int → Option R) (G : Int × List T.E31 × Int × Int → Option R) : Int × List T.E31 × Int × Int → Option R := fun (t3, t6, t7, t8) => cond (Decidable.decide (t8 < t7)) (if (0 ≤ t8) then (if (t8 < (↑(List.length t6) : Int)) then (Option.bind (t6[Int.toNat t8]?) fun y2 => cond (y2 != t3) (ret y2) (G (t3, t6, t7, (Go.IntKind.wrap Go.IntKind.i64 (t8 + 1))))) else (none)) else (none)) (exit0 t3)
noncomputable def l0 {R : Type} (k : Nat) (ret : Int → Option R) (exit0 : Int → Option R) : Nat → Int × List T.E31 × Int × Int → Option R
  | 0, _ => none
  | n + 1, p => l0T k ret exit0 (l0 k ret exit0 n) p
noncomputable def F (k : Nat) : List T.E31 → Option (Int) := fun a0 => l0 k (fun t2 => some t2) (fun t3 => some t3) k (0, a0, ((↑(List.length a0) : Int)), 0)
noncomputable def decA : List (D El) → List (Nat × MObj El) → Nat → Option (List T.E31)
  | [(.frz 31 a0)], [], 0 => some a0
  | _, _, _ => none
noncomputable def dec : Out El → Option (Int)
  | ⟨(.int .i64 r), [], 0⟩ => some r
  | _ => none
noncomputable def outOf : Int → Out El := fun r => ⟨(.int .i64 r), [], 0⟩
noncomputable def L (R : Type) (k : Nat) : LE El R := fun b x K st => match b with
  | 0 => ell (env R k) k 0 l0V (fun K n p => l0 k (fun q => K (.ret) (l0Xret q)) (fun q => K (.exit 0) (l0Xexit0 q)) n p) x K st
  | b => mexec (env R k) k b (.loop x) K st
theorem told0L (R : Type) (k : Nat) : Told (L R k) (env R k) k 0 (loopIn Go.Proofs.Tryz.f9 0) = [] := by kernel_rfl
theorem told0 (R : Type) (k : Nat) : ∀ K st, mexec (env R k) k 0 (.loop (loopIn Go.Proofs.Tryz.f9 0)) K st = L R k 0 (loopIn Go.Proofs.Tryz.f9 0) K st := ell_eq l0S (viewS_eq (fun x => by kernel_rfl)) (fun K G p => l0T k (fun q => K (.ret) (l0Xret q)) (fun q => K (.exit 0) (l0Xexit0 q)) G p) (fun _ _ => rfl) (fun _ _ _ => rfl) (by
  rintro K G ⟨t3, t6, t7, t8⟩
  refine (round_eq (L := L R k) (by rw [told0L]; exact trivial) _ _ _).trans ?_
  kernel_rfl)
theorem told (R : Type) (k : Nat) : Told (L R k) (env R k) k 0 ((Go.Proofs.Tryz.f9.body).getD .skip) = [∀ K st, mexec (env R k) k 0 (.loop (loopIn Go.Proofs.Tryz.f9 0)) K st = L R k 0 (loopIn Go.Proofs.Tryz.f9 0) K st] := by kernel_rfl
theorem run (k : Nat) (R : Type) (dec : Out El → Option R) st : mexec (env R k) k 0 ((Go.Proofs.Tryz.f9.body).getD .skip) (mend Go.Proofs.Tryz.prog [.tmp 2] [.any] 0 dec) st = mexecG (L R k) (env R k) 0 ((Go.Proofs.Tryz.f9.body).getD .skip) (mend Go.Proofs.Tryz.prog [.tmp 2] [.any] 0 dec) st := mexecG_eq _ (by rw [told]; exact ⟨told0 R k, trivial⟩) _ _
noncomputable def entry (k : Nat) : Entry El := ⟨[.frz 31], 0, specOf decA (F k) outOf⟩
theorem ok (k : Nat) : FnOK Go.Proofs.Tryz.prog 9 0 (specOf decA (F k) outOf) := fnOK_of (fn := Go.Proofs.Tryz.f9) (c := (Go.Proofs.Tryz.f9.body).getD .skip) (by kernel_rfl) (by kernel_rfl) (envOK _ k) (by kernel_rfl) k [.any] (nt := 18) (by kernel_rfl) (rs := [.tmp 2]) (by kernel_rfl) decA (F k) dec outOf
  (by intro out y h; unfold dec at h; split at h <;> cases h; rfl)
  (by intro ds objs next a h; unfold decA at h; split at h <;> cases h; exact (run k _ dec _).trans (by kernel_rfl))
theorem enter : ∀ args w, (callFunc 9 args).run Go.Proofs.Tryz.prog w = .ok (.enter 9 args) w := fun _ _ => by kernel_rfl
end Fn.f9

namespace Fn.f51
noncomputable def tab (k : Nat) : Tab El := []
noncomputable def env (R : Type) (k : Nat) : Env El R := envOf Go.Proofs.Tryz.prog (tab k) R (fun r => match r with | _ => false) (fun b => match b with | _ => fun _ => none) (fun b e => match b, e with | _, _ => fun _ => none)
theorem tabOK (k : Nat) : TabOK Go.Proofs.Tryz.prog (tab k) := TabOK.nil
theorem envOK (R : Type) (k : Nat) : EnvOK 0 (env R k) := envOf_ok (by kernel_rfl) (tabOK k) (by intro b; show WOK 0 (match b with | _ => fun _ => none); split <;> first | exact word_ok _ _ _ | exact vword_ok (word_ok _ _ _) | exact none_ok _) (by intro b e; show WOK 0 (match b, e with | _, _ => fun _ => none); split <;> first | exact word_ok _ _ _ | exact none_ok _)
noncomputable def F (k : Nat) : Int × Int × Int → Option (Bool) := fun (a0, a1, a2) => cond (Decidable.decide (a1 ≤ a0)) (some (Decidable.decide (a0 ≤ a2))) (some Bool.false)
noncomputable def decA : List (D El) → List (Nat × MObj El) → Nat → Option (Int × Int × Int)
  | [(.int .i64 a0), (.int .i64 a1), (.int .i64 a2)], [], 0 => some (a0, a1, a2)
  | _, _, _ => none
noncomputable def dec : Out El → Option (Bool)
  | ⟨(.bool r), [], 0⟩ => some r
  | _ => none
noncomputable def outOf : Bool → Out El := fun r => ⟨(.bool r), [], 0⟩
noncomputable def entry (k : Nat) : Entry El := ⟨[.any, .any, .any], 0, specOf decA (F k) outOf⟩
theorem ok (k : Nat) : FnOK Go.Proofs.Tryz.prog 51 0 (specOf decA (F k) outOf) := fnOK_of (fn := Go.Proofs.Tryz.f51) (c := (Go.Proofs.Tryz.f51.body).getD .skip) (by kernel_rfl) (by kernel_rfl) (envOK _ k) (by kernel_rfl) k [.any] (nt := 15) (by kernel_rfl) (rs := [.tmp 6]) (by kernel_rfl) decA (F k) dec outOf
  (by intro out y h; unfold dec at h; split at h <;> cases h; rfl)
  (by intro ds objs next a h; unfold decA at h; split at h <;> cases h; kernel_rfl)
theorem enter : ∀ args w, (callFunc 51 args).run Go.Proofs.Tryz.prog w = .ok (.enter 51 args) w := fun _ _ => by kernel_rfl
end Fn.f51

namespace Fn.f60
noncomputable def tab (k : Nat) : Tab El := [(51, Fn.f51.entry k)]
noncomputable def env (R : Type) (k : Nat) : Env El R := envOf Go.Proofs.Tryz.prog (tab k) R (fun r => match r with | _ => false) (fun b => match b with | _ => fun _ => none) (fun b e => match b, e with | _, _ => fun _ => none)
theorem tabOK (k : Nat) : TabOK Go.Proofs.Tryz.prog (tab k) := TabOK.cons (Fn.f51.ok k) Fn.f51.enter (TabOK.nil)
theorem envOK (R : Type) (k : Nat) : EnvOK 0 (env R k) := envOf_ok (by kernel_rfl) (tabOK k) (by intro b; show WOK 0 (match b with | _ => fun _ => none); split <;> first | exact word_ok _ _ _ | exact vword_ok (word_ok _ _ _) | exact none_ok _) (by intro b e; show WOK 0 (match b, e with | _, _ => fun _ => none); split <;> first | exact word_ok _ _ _ | exact none_ok _)
noncomputable def F (k : Nat) : Int × Int × Int → Option (Int) := fun (a0, a1, a2) => Option.bind (Fn.f51.F k (a0, a1, a2)) fun y0 => cond (!y0) (some 1) (some 0)
noncomputable def decA : List (D El) → List (Nat × MObj El) → Nat → Option (Int × Int × Int)
  | [(.int .i64 a0), (.int .i64 a1), (.int .i64 a2)], [], 0 => some (a0, a1, a2)
  | _, _, _ => none
noncomputable def dec : Out El → Option (Int)
  | ⟨(.int .i64 r), [], 0⟩ => some r
  | _ => none
noncomputable def outOf : Int → Out El := fun r => ⟨(.int .i64 r), [], 0⟩
noncomputable def entry (k : Nat) : Entry El := ⟨[.any, .any, .any], 0, specOf decA (F k) outOf⟩
theorem ok (k : Nat) : FnOK Go.Proofs.Tryz.prog 60 0 (specOf decA (F k) outOf) := fnOK_of (fn := Go.Proofs.Tryz.f60) (c := (Go.Proofs.Tryz.f60.body).getD .skip) (by kernel_rfl) (by kernel_rfl) (envOK _ k) (by kernel_rfl) k [.any] (nt := 12) (by kernel_rfl) (rs := [.tmp 6]) (by kernel_rfl) decA (F k) dec outOf
  (by intro out y h; unfold dec at h; split at h <;> cases h; rfl)
  (by intro ds objs next a h; unfold decA at h; split at h <;> cases h; kernel_rfl)
theorem enter : ∀ args w, (callFunc 60 args).run Go.Proofs.Tryz.prog w = .ok (.enter 60 args) w := fun _ _ => by kernel_rfl
end Fn.f60

namespace Fn.f30
noncomputable def tab (k : Nat) : Tab El := [(9, Fn.f9.entry k), (60, Fn.f60.entry k)]
noncomputable def env (R : Type) (k : Nat) : Env El R := envOf Go.Proofs.Tryz.prog (tab k) R (fun r => match r with | _ => false) (fun b => match b with | _ => fun _ => none) (fun b e => match b, e with | _, _ => fun _ => none)
theorem tabOK (k : Nat) : TabOK Go.Proofs.Tryz.prog (tab k) := TabOK.cons (Fn.f9.ok k) Fn.f9.enter (TabOK.cons (Fn.f60.ok k) Fn.f60.enter (TabOK.nil))
theorem envOK (R : Type) (k : Nat) : EnvOK 0 (env R k) := envOf_ok (by kernel_rfl) (tabOK k) (by intro b; show WOK 0 (match b with | _ => fun _ => none); split <;> first | exact word_ok _ _ _ | exact vword_ok (word_ok _ _ _) | exact none_ok _) (by intro b e; show WOK 0 (match b, e with | _, _ => fun _ => none); split <;> first | exact word_ok _ _ _ | exact none_ok _)
noncomputable def F (k : Nat) : Int × Int × Int × Int → Option (Int) := fun (a0_0, a0_1, a0_2, a0_3) => Option.bind (Fn.f60.F k (a0_0, -24, 24)) fun y0 => Option.bind (Fn.f60.F k (a0_1, -10, 10)) fun y1 => Option.bind (Fn.f60.F k (a0_2, -5, 5)) fun y2 => Option.bind (Fn.f60.F k (a0_3, -3, 3)) fun y3 => Option.bind (Fn.f9.F k [y0, y1, y2, y3]) fun y4 => some y4
noncomputable def decA : List (D El) → List (Nat × MObj El) → Nat → Option (Int × Int × Int × Int)
  | [(.agg [(.int .i64 a0_0), (.int .i64 a0_1), (.int .i64 a0_2), (.int .i64 a0_3)])], [], 0 => some (a0_0, a0_1, a0_2, a0_3)
  | _, _, _ => none
noncomputable def dec : Out El → Option (Int)
  | ⟨(.int .i64 r), [], 0⟩ => some r
  | _ => none
noncomputable def outOf : Int → Out El := fun r => ⟨(.int .i64 r), [], 0⟩
noncomputable def entry (k : Nat) : Entry El := ⟨[.any], 0, specOf decA (F k) outOf⟩
theorem ok (k : Nat) : FnOK Go.Proofs.Tryz.prog 30 0 (specOf decA (F k) outOf) := fnOK_of (fn := Go.Proofs.Tryz.f30) (c := (Go.Proofs.Tryz.f30.body).getD .skip) (by kernel_rfl) (by kernel_rfl) (envOK _ k) (by kernel_rfl) k [.any] (nt := 17) (by kernel_rfl) (rs := [.tmp 2]) (by kernel_rfl) decA (F k) dec outOf
  (by intro out y h; unfold dec at h; split at h <;> cases h; rfl)
  (by intro ds objs next a h; unfold decA at h; split at h <;> cases h; kernel_rfl)
theorem enter : ∀ args w, (callFunc 30 args).run Go.Proofs.Tryz.prog w = .ok (.enter 30 args) w := fun _ _ => by kernel_rfl
end Fn.f30

namespace Fn.f85
noncomputable def tab (k : Nat) : Tab El := []
noncomputable def env (R : Type) (k : Nat) : Env El R := envOf Go.Proofs.Tryz.prog (tab k) R (fun r => match r with | _ => false) (fun b => match b with | _ => fun _ => none) (fun b e => match b, e with | _, _ => fun _ => none)
theorem tabOK (k : Nat) : TabOK Go.Proofs.Tryz.prog (tab k) := TabOK.nil
theorem envOK (R : Type) (k : Nat) : EnvOK 0 (env R k) := envOf_ok (by kernel_rfl) (tabOK k) (by intro b; show WOK 0 (match b with | _ => fun _ => none); split <;> first | exact word_ok _ _ _ | exact vword_ok (word_ok _ _ _) | exact none_ok _) (by intro b e; show WOK 0 (match b, e with | _, _ => fun _ => none); split <;> first | exact word_ok _ _ _ | exact none_ok _)
noncomputable def F (k : Nat) : Int × Int × Int → Option (Bool) := fun (a0, a1, a2) => cond (Decidable.decide (a0 < a1)) (some Bool.true) (some (Decidable.decide (a0 > a2)))
noncomputable def decA : List (D El) → List (Nat × MObj El) → Nat → Option (Int × Int × Int)
  | [(.int .i64 a0), (.int .i64 a1), (.int .i64 a2)], [], 0 => some (a0, a1, a2)
  | _, _, _ => none
noncomputable def dec : Out El → Option (Bool)
  | ⟨(.bool r), [], 0⟩ => some r
  | _ => none
noncomputable def outOf : Bool → Out El := fun r => ⟨(.bool r), [], 0⟩
noncomputable def entry (k : Nat) : Entry El := ⟨[.any, .any, .any], 0, specOf decA (F k) outOf⟩
theorem ok (k : Nat) : FnOK Go.Proofs.Tryz.prog 85 0 (specOf decA (F k) outOf) := fnOK_of (fn := Go.Proofs.Tryz.f85) (c := (Go.Proofs.Tryz.f85.body).getD .skip) (by kernel_rfl) (by kernel_rfl) (envOK _ k) (by kernel_rfl) k [.any] (nt := 15) (by kernel_rfl) (rs := [.tmp 6]) (by kernel_rfl) decA (F k) dec outOf
  (by intro out y h; unfold dec at h; split at h <;> cases h; rfl)
  (by intro ds objs next a h; unfold decA at h; split at h <;> cases h; kernel_rfl)
theorem enter : ∀ args w, (callFunc 85 args).run Go.Proofs.Tryz.prog w = .ok (.enter 85 args) w := fun _ _ => by kernel_rfl
end Fn.f85

namespace Fn.f100
noncomputable def tab (k : Nat) : Tab El := [(85, Fn.f85.entry k)]
noncomputable def env (R : Type) (k : Nat) : Env El R := envOf Go.Proofs.Tryz.prog (tab k) R (fun r => match r with | _ => false) (fun b => match b with | _ => fun _ => none) (fun b e => match b, e with | _, _ => fun _ => none)
theorem tabOK (k : Nat) : TabOK Go.Proofs.Tryz.prog (tab k) := TabOK.cons (Fn.f85.ok k) Fn.f85.enter (TabOK.nil)
theorem envOK (R : Type) (k : Nat) : EnvOK 0 (env R k) := envOf_ok (by kernel_rfl) (tabOK k) (by intro b; show WOK 0 (match b with | _ => fun _ => none); split <;> first | exact word_ok _ _ _ | exact vword_ok (word_ok _ _ _) | exact none_ok _) (by intro b e; show WOK 0 (match b, e with | _, _ => fun _ => none); split <;> first | exact word_ok _ _ _ | exact none_ok _)
noncomputable def F (k : Nat) : Int × Int → Option (Bool) := fun (a0_0, a0_1) => Option.bind (Fn.f85.F k (a0_0, 0, a0_1)) fun y0 => cond (!y0) (some (Decidable.decide (a0_1 ≤ 127))) (some Bool.false)
noncomputable def decA : List (D El) → List (Nat × MObj El) → Nat → Option (Int × Int)
  | [(.agg [(.int .i64 a0_0), (.int .i64 a0_1)])], [], 0 => some (a0_0, a0_1)
  | _, _, _ => none
noncomputable def dec : Out El → Option (Bool)
  | ⟨(.bool r), [], 0⟩ => some r
  | _ => none
noncomputable def outOf : Bool → Out El := fun r => ⟨(.bool r), [], 0⟩
noncomputable def entry (k : Nat) : Entry El := ⟨[.any], 0, specOf decA (F k) outOf⟩
theorem ok (k : Nat) : FnOK Go.Proofs.Tryz.prog 100 0 (specOf decA (F k) outOf) := fnOK_of (fn := Go.Proofs.Tryz.f100) (c := (Go.Proofs.Tryz.f100.body).getD .skip) (by kernel_rfl) (by kernel_rfl) (envOK _ k) (by kernel_rfl) k [.any] (nt := 14) (by kernel_rfl) (rs := [.tmp 2]) (by kernel_rfl) decA (F k) dec outOf
  (by intro out y h; unfold dec at h; split at h <;> cases h; rfl)
  (by intro ds objs next a h; unfold decA at h; split at h <;> cases h; kernel_rfl)
theorem enter : ∀ args w, (callFunc 100 args).run Go.Proofs.Tryz.prog w = .ok (.enter 100 args) w := fun _ _ => by kernel_rfl
end Fn.f100

namespace Fn.f101
noncomputable def tab (k : Nat) : Tab El := []
noncomputable def env (R : Type) (k : Nat) : Env El R := envOf Go.Proofs.Tryz.prog (tab k) R (fun r => match r with | _ => false) (fun b => match b with | _ => fun _ => none) (fun b e => match b, e with | _, _ => fun _ => none)
theorem tabOK (k : Nat) : TabOK Go.Proofs.Tryz.prog (tab k) := TabOK.nil
theorem envOK (R : Type) (k : Nat) : EnvOK 0 (env R k) := envOf_ok (by kernel_rfl) (tabOK k) (by intro b; show WOK 0 (match b with | _ => fun _ => none); split <;> first | exact word_ok _ _ _ | exact vword_ok (word_ok _ _ _) | exact none_ok _) (by intro b e; show WOK 0 (match b, e with | _, _ => fun _ => none); split <;> first | exact word_ok _ _ _ | exact none_ok _)
noncomputable def F (k : Nat) : Int × Int × Int × Int → Option (Int) := fun (a0_0, a0_1, a1_0, a1_1) => some (if Go.IntKind.wrap Go.IntKind.i64 (a0_1 - a1_1) < Go.IntKind.wrap Go.IntKind.i64 (a1_0 - a0_0) then Go.IntKind.wrap Go.IntKind.i64 (a0_1 - a1_1) else Go.IntKind.wrap Go.IntKind.i64 (a1_0 - a0_0))
noncomputable def decA : List (D El) → List (Nat × MObj El) → Nat → Option (Int × Int × Int × Int)
  | [(.agg [(.int .i64 a0_0), (.int .i64 a0_1)]), (.agg [(.int .i64 a1_0), (.int .i64 a1_1)])], [], 0 => some (a0_0, a0_1, a1_0, a1_1)
  | _, _, _ => none
noncomputable def dec : Out El → Option (Int)
  | ⟨(.int .i64 r), [], 0⟩ => some r
  | _ => none
noncomputable def outOf : Int → Out El := fun r => ⟨(.int .i64 r), [], 0⟩
noncomputable def entry (k : Nat) : Entry El := ⟨[.any, .any], 0, specOf decA (F k) outOf⟩
theorem ok (k : Nat) : FnOK Go.Proofs.Tryz.prog 101 0 (specOf decA (F k) outOf) := fnOK_of (fn := Go.Proofs.Tryz.f101) (c := (Go.Proofs.Tryz.f101.body).getD .skip) (by kernel_rfl) (by kernel_rfl) (envOK _ k) (by kernel_rfl) k [.any] (nt := 16) (by kernel_rfl) (rs := [.tmp 4]) (by kernel_rfl) decA (F k) dec outOf
  (by intro out y h; unfold dec at h; split at h <;> cases h; rfl)
  (by intro ds objs next a h; unfold decA at h; split at h <;> cases h; kernel_rfl)
theorem enter : ∀ args w, (callFunc 101 args).run Go.Proofs.Tryz.prog w = .ok (.enter 101 args) w := fun _ _ => by kernel_rfl
end Fn.f101

namespace Fn.f56
noncomputable def l100002H : SS := ⟨[(.o (.c .dead)), (.o (.c .dead)), (.o (.c (.ptr0 0 0))), (.o (.c (.ptr0 1 0))), (.o (.c .dead)), (.o (.c .dead)), (.o (.c .dead)), (.o (.c .dead)), (.o (.c .dead)), (.o (.c .dead)), (.o (.c .dead)), (.o (.c .dead)), (.o (.c .dead)), (.o (.c .dead)), (.o (.c .dead)), (.o (.c .bool)), (.o (.c .dead)), (.o (.c .dead)), (.o (.c .dead)), (.o (.c .dead)), (.o (.c .dead)), (.o (.c .dead)), (.o (.c .dead))], [(0, .box 81 [(.int .i64), (.int .i64)]), (1, .box 81 [(.int .i64), (.int .i64)])], 2⟩
noncomputable def l100002V : St El → Option (Bool × Int × Int × Int × Int) := viewS l100002H (fun x => (x.1.2.2.2.2.2.2.2.2.2.2.2.2.2.2.2.1, x.2.1.1, x.2.1.2.1, x.2.2.1.1, x.2.2.1.2.1))
noncomputable def l100002S : Bool × Int × Int × Int × Int → St El := fun (t15, b0_0, b0_1, b1_0, b1_1) => ⟨.dead :: .dead :: (.ptr 0 0 0 0) :: (.ptr 1 0 0 0) :: .dead :: .dead :: .dead :: .dead :: .dead :: .dead :: .dead :: .dead :: .dead :: .dead :: .dead :: (.bool t15) :: .dead :: .dead :: .dead :: .dead :: .dead :: .dead :: .dead :: [], [(0, .box 81 [(.int .i64 b0_0), (.int .i64 b0_1)]), (1, .box 81 [(.int .i64 b1_0), (.int .i64 b1_1)])], 2⟩
noncomputable def l100002Xret : Int × Bool × Int → St El := fun (t4, t5, t6) => ⟨.dead :: .dead :: .dead :: .dead :: (.int .i64 t4) :: (.bool t5) :: (.int .i64 t6) :: .dead :: .dead :: .dead :: .dead :: .dead :: .dead :: .dead :: .dead :: .dead :: .dead :: .dead :: .dead :: .dead :: .dead :: .dead :: .dead :: [], [], 0⟩
noncomputable def l100002Xnorm : Int × Int × Int × Int → St El := fun (b0_0, b0_1, b1_0, b1_1) => ⟨.dead :: .dead :: (.ptr 0 0 0 0) :: (.ptr 1 0 0 0) :: .dead :: .dead :: .dead :: .dead :: .dead :: .dead :: .dead :: .dead :: .dead :: .dead :: .dead :: .dead :: .dead :: .dead :: .dead :: .dead :: .dead :: .dead :: .dead :: [], [(0, .box 81 [(.int .i64 b0_0), (.int .i64 b0_1)]), (1, .box 81 [(.int .i64 b1_0), (.int .i64 b1_1)])], 2⟩
noncomputable def l100003H : SS := ⟨[(.o (.c .dead)), (.o (.c .dead)), (.o (.c (.ptr0 0 0))), (.o (.c (.ptr0 1 0))), (.o (.c .dead)), (.o (.c .dead)), (.o (.c .dead)), (.o (.c .dead)), (.o (.c .dead)), (.o (.c .dead)), (.o (.c .dead)), (.o (.c .dead)), (.o (.c .dead)), (.o (.c .dead)), (.o (.c .dead)), (.o (.c .dead)), (.o (.c .dead)), (.o (.c .dead)), (.o (.c .dead)), (.o (.c .dead)), (.o (.c .dead)), (.o (.c .dead)), (.o (.c .dead))], [(0, .box 81 [(.int .i64), (.int .i64)]), (1, .box 81 [(.int .i64), (.int .i64)])], 2⟩
noncomputable def l100003V : St El → Option (Int × Int × Int × Int) := viewS l100003H (fun x => (x.2.1.1, x.2.1.2.1, x.2.2.1.1, x.2.2.1.2.1))
noncomputable def l100003S : Int × Int × Int × Int → St El := fun (b0_0, b0_1, b1_0, b1_1) => ⟨.dead :: .dead :: (.ptr 0 0 0 0) :: (.ptr 1 0 0 0) :: .dead :: .dead :: .dead :: .dead :: .dead :: .dead :: .dead :: .dead :: .dead :: .dead :: .dead :: .dead :: .dead :: .dead :: .dead :: .dead :: .dead :: .dead :: .dead :: [], [(0, .box 81 [(.int .i64 b0_0), (.int .i64 b0_1)]), (1, .box 81 [(.int .i64 b1_0), (.int .i64 b1_1)])], 2⟩
noncomputable def l100003Xret : Int × Bool × Int → St El := fun (t4, t5, t6) => ⟨.dead :: .dead :: .dead :: .dead :: (.int .i64 t4) :: (.bool t5) :: (.int .i64 t6) :: .dead :: .dead :: .dead :: .dead :: .dead :: .dead :: .dead :: .dead :: .dead :: .dead :: .dead :: .dead :: .dead :: .dead :: .dead :: .dead :: [], [], 0⟩
noncomputable def tab (k : Nat) : Tab El := [(100, Fn.f100.entry k), (101, Fn.f101.entry k)]
noncomputable def env (R : Type) (k : Nat) : Env El R := envOf Go.Proofs.Tryz.prog (tab k) R (fun r => match r with | 3 => true | 2 => true | _ => false) (fun b => match b with | 100003 => vword l100003V (word 0 [] (kept [2, 3] 0 23)) | 100002 => vword l100002V (word 0 [] (kept [2, 3, 15] 0 23)) | _ => fun _ => none) (fun b e => match b, e with | 100003, .ret => word 0 [] (kept [4, 5, 6] 0 23) | 100003, .norm => word 0 [] (kept [4, 5, 6] 0 23) | 100002, .ret => word 0 [] (kept [4, 5, 6] 0 23) | 100002, .norm => word 0 [] (kept [2, 3] 0 23) | _, _ => fun _ => none)
theorem tabOK (k : Nat) : TabOK Go.Proofs.Tryz.prog (tab k) := TabOK.cons (Fn.f100.ok k) Fn.f100.enter (TabOK.cons (Fn.f101.ok k) Fn.f101.enter (TabOK.nil))
theorem envOK (R : Type) (k : Nat) : EnvOK 0 (env R k) := envOf_ok (by kernel_rfl) (tabOK k) (by intro b; show WOK 0 (match b with | 100003 => vword l100003V (word 0 [] (kept [2, 3] 0 23)) | 100002 => vword l100002V (word 0 [] (kept [2, 3, 15] 0 23)) | _ => fun _ => none); split <;> first | exact word_ok _ _ _ | exact vword_ok (word_ok _ _ _) | exact none_ok _) (by intro b e; show WOK 0 (match b, e with | 100003, .ret => word 0 [] (kept [4, 5, 6] 0 23) | 100003, .norm => word 0 [] (kept [4, 5, 6] 0 23) | 100002, .ret => word 0 [] (kept [4, 5, 6] 0 23) | 100002, .norm => word 0 [] (kept [2, 3] 0 23) | _, _ => fun _ => none); split <;> first | exact word_ok _ _ _ | exact none_ok _)
noncomputable def l100002 {R : Type} (k : Nat) (ret : Int × Bool × Int → Option R) (norm : Int × Int × Int × Int → Option R) : Bool × Int × Int × Int × Int → Option R := fun (t15, b0_0, b0_1, b1_0, b1_1) => cond t15 (ret (0, Bool.false, 1)) (norm (b0_0, b0_1, b1_0, b1_1))
noncomputable def l100003 {R : Type} (k : Nat) (ret : Int × Bool × Int → Option R) : Int × Int × Int × Int → Option R := fun (b0_0, b0_1, b1_0, b1_1) => ret ((if 0 > if Go.IntKind.wrap Go.IntKind.i64 (b0_1 - b1_1) < Go.IntKind.wrap Go.IntKind.i64 (b1_0 - b0_0) then Go.IntKind.wrap Go.IntKind.i64 (b0_1 - b1_1) else Go.IntKind.wrap Go.IntKind.i64 (b1_0 - b0_0) then 0 else if Go.IntKind.wrap Go.IntKind.i64 (b0_1 - b1_1) < Go.IntKind.wrap Go.IntKind.i64 (b1_0 - b0_0) then Go.IntKind.wrap Go.IntKind.i64 (b0_1 - b1_1) else Go.IntKind.wrap Go.IntKind.i64 (b1_0 - b0_0)), (Decidable.decide ((if Go.IntKind.wrap Go.IntKind.i64 (b0_1 - b1_1) < Go.IntKind.wrap Go.IntKind.i64 (b1_0 - b0_0) then Go.IntKind.wrap Go.IntKind.i64 (b0_1 - b1_1) else Go.IntKind.wrap Go.IntKind.i64 (b1_0 - b0_0)) ≥ 0)), 0)
noncomputable def F (k : Nat) : Int × Int × Int × Int → Option (Int × Bool × Int) := fun (a0_0, a0_1, a1_0, a1_1) => Option.bind (Fn.f100.F k (a0_0, a0_1)) fun y0 => cond (!y0) (l100002 k (fun (t4, t5, t6) => some (t4, t5, t6)) (fun (b0_0, b0_1, b1_0, b1_1) => l100003 k (fun (t4, t5, t6) => some (t4, t5, t6)) (b0_0, b0_1, b1_0, b1_1)) (Bool.true, a0_0, a0_1, a1_0, a1_1)) (Option.bind (Fn.f100.F k (a1_0, a1_1)) fun y1 => l100002 k (fun (t4, t5, t6) => some (t4, t5, t6)) (fun (b0_0, b0_1, b1_0, b1_1) => l100003 k (fun (t4, t5, t6) => some (t4, t5, t6)) (b0_0, b0_1, b1_0, b1_1)) ((!y1), a0_0, a0_1, a1_0, a1_1))
noncomputable def decA : List (D El) → List (Nat × MObj El) → Nat → Option (Int × Int × Int × Int)
  | [(.agg [(.int .i64 a0_0), (.int .i64 a0_1)]), (.agg [(.int .i64 a1_0), (.int .i64 a1_1)])], [], 0 => some (a0_0, a0_1, a1_0, a1_1)
  | _, _, _ => none
noncomputable def dec : Out El → Option (Int × Bool × Int)
  | ⟨(.tup [(.int .i64 r_0), (.bool r_1), (.int .i64 r_2)]), [], 0⟩ => some (r_0, r_1, r_2)
  | _ => none
noncomputable def outOf : Int × Bool × Int → Out El := fun (r_0, r_1, r_2) => ⟨(.tup [(.int .i64 r_0), (.bool r_1), (.int .i64 r_2)]), [], 0⟩
noncomputable def L (R : Type) (k : Nat) : LE El R := fun b x K st => match b with
  | 100003 => jell (env R k) k 0 100003 l100003V (fun K p => l100003 k (fun q => K (.ret) (l100003Xret q)) p) x K st
  | 100002 => jell (env R k) k 0 100002 l100002V (fun K p => l100002 k (fun q => K (.ret) (l100002Xret q)) (fun q => K (.norm) (l100002Xnorm q)) p) x K st
  | b => mexec (env R k) k b (.loop x) K st
theorem told100003L (R : Type) (k : Nat) : Told (L R k) (env R k) k 0 (joinIn Go.Proofs.Tryz.f56 3) = [] := by kernel_rfl
theorem told100003 (R : Type) (k : Nat) : ∀ K st, mexec (env R k) k 0 (joinIn Go.Proofs.Tryz.f56 3) (Env.wrap (env R k) 100003 K) st = L R k 100003 (joinIn Go.Proofs.Tryz.f56 3) K st := jell_eq (lk := fun K p => l100003 k (fun q => K (.ret) (l100003Xret q)) p) l100003S (viewS_eq (fun x => by kernel_rfl)) (by
  rintro K ⟨b0_0, b0_1, b1_0, b1_1⟩
  refine (mexecG_eq (L := L R k) _ (by rw [told100003L]; exact trivial) _ _).trans ?_
  kernel_rfl)
theorem told100002L (R : Type) (k : Nat) : Told (L R k) (env R k) k 0 (joinIn Go.Proofs.Tryz.f56 2) = [] := by kernel_rfl
theorem told100002 (R : Type) (k : Nat) : ∀ K st, mexec (env R k) k 0 (joinIn Go.Proofs.Tryz.f56 2) (Env.wrap (env R k) 100002 K) st = L R k 100002 (joinIn Go.Proofs.Tryz.f56 2) K st := jell_eq (lk := fun K p => l100002 k (fun q => K (.ret) (l100002Xret q)) (fun q => K (.norm) (l100002Xnorm q)) p) l100002S (viewS_eq (fun x => by kernel_rfl)) (by
  rintro K ⟨t15, b0_0, b0_1, b1_0, b1_1⟩
  refine (mexecG_eq (L := L R k) _ (by rw [told100002L]; exact trivial) _ _).trans ?_
  kernel_rfl)
theorem told (R : Type) (k : Nat) : Told (L R k) (env R k) k 0 ((Go.Proofs.Tryz.f56.body).getD .skip) = [∀ K st, mexec (env R k) k 0 (joinIn Go.Proofs.Tryz.f56 2) (Env.wrap (env R k) 100002 K) st = L R k 100002 (joinIn Go.Proofs.Tryz.f56 2) K st, ∀ K st, mexec (env R k) k 0 (joinIn Go.Proofs.Tryz.f56 3) (Env.wrap (env R k) 100003 K) st = L R k 100003 (joinIn Go.Proofs.Tryz.f56 3) K st] := by kernel_rfl
theorem run (k : Nat) (R : Type) (dec : Out El → Option R) st : mexec (env R k) k 0 ((Go.Proofs.Tryz.f56.body).getD .skip) (mend Go.Proofs.Tryz.prog [.tmp 4, .tmp 5, .tmp 6] [.any, .any, .any] 0 dec) st = mexecG (L R k) (env R k) 0 ((Go.Proofs.Tryz.f56.body).getD .skip) (mend Go.Proofs.Tryz.prog [.tmp 4, .tmp 5, .tmp 6] [.any, .any, .any] 0 dec) st := mexecG_eq _ (by rw [told]; exact ⟨told100002 R k, told100003 R k, trivial⟩) _ _
noncomputable def entry (k : Nat) : Entry El := ⟨[.any, .any], 0, specOf decA (F k) outOf⟩
theorem ok (k : Nat) : FnOK Go.Proofs.Tryz.prog 56 0 (specOf decA (F k) outOf) := fnOK_of (fn := Go.Proofs.Tryz.f56) (c := (Go.Proofs.Tryz.f56.body).getD .skip) (by kernel_rfl) (by kernel_rfl) (envOK _ k) (by kernel_rfl) k [.any, .any, .any] (nt := 23) (by kernel_rfl) (rs := [.tmp 4, .tmp 5, .tmp 6]) (by kernel_rfl) decA (F k) dec outOf
  (by intro out y h; unfold dec at h; split at h <;> cases h; rfl)
  (by intro ds objs next a h; unfold decA at h; split at h <;> cases h; exact (run k _ dec _).trans (by kernel_rfl))
theorem enter : ∀ args w, (callFunc 56 args).run Go.Proofs.Tryz.prog w = .ok (.enter 56 args) w := fun _ _ => by kernel_rfl
end Fn.f56

namespace Fn.f86
noncomputable def tab (k : Nat) : Tab El := []
noncomputable def env (R : Type) (k : Nat) : Env El R := envOf Go.Proofs.Tryz.prog (tab k) R (fun r => match r with | _ => false) (fun b => match b with | _ => fun _ => none) (fun b e => match b, e with | _, _ => fun _ => none)
theorem tabOK (k : Nat) : TabOK Go.Proofs.Tryz.prog (tab k) := TabOK.nil
theorem envOK (R : Type) (k : Nat) : EnvOK 0 (env R k) := envOf_ok (by kernel_rfl) (tabOK k) (by intro b; show WOK 0 (match b with | _ => fun _ => none); split <;> first | exact word_ok _ _ _ | exact vword_ok (word_ok _ _ _) | exact none_ok _) (by intro b e; show WOK 0 (match b, e with | _, _ => fun _ => none); split <;> first | exact word_ok _ _ _ | exact none_ok _)
noncomputable def F (k : Nat) : Unit → Option (List T.E9) := fun () => some ([ByteArray.mk #[99], ByteArray.mk #[99, 35], ByteArray.mk #[100], ByteArray.mk #[100, 35], ByteArray.mk #[101], ByteArray.mk #[102], ByteArray.mk #[102, 35], ByteArray.mk #[103], ByteArray.mk #[103, 35], ByteArray.mk #[97], ByteArray.mk #[97, 35], ByteArray.mk #[98]])
noncomputable def decA : List (D El) → List (Nat × MObj El) → Nat → Option (Unit)
  | [], [], 0 => some ()
  | _, _, _ => none
noncomputable def dec : Out El → Option (List T.E9)
  | ⟨(.frz 9 r), [], 0⟩ => some r
  | _ => none
noncomputable def outOf : List T.E9 → Out El := fun r => ⟨(.frz 9 r), [], 0⟩
noncomputable def entry (k : Nat) : Entry El := ⟨[], 0, specOf decA (F k) outOf⟩
theorem ok (k : Nat) : FnOK Go.Proofs.Tryz.prog 86 0 (specOf decA (F k) outOf) := fnOK_of (fn := Go.Proofs.Tryz.f86) (c := (Go.Proofs.Tryz.f86.body).getD .skip) (by kernel_rfl) (by kernel_rfl) (envOK _ k) (by kernel_rfl) k [.frz 9] (nt := 2) (by kernel_rfl) (rs := [.tmp 0]) (by kernel_rfl) decA (F k) dec outOf
  (by intro out y h; unfold dec at h; split at h <;> cases h; rfl)
  (by intro ds objs next a h; unfold decA at h; split at h <;> cases h; kernel_rfl)
theorem enter : ∀ args w, (callFunc 86 args).run Go.Proofs.Tryz.prog w = .ok (.enter 86 args) w := fun _ _ => by kernel_rfl
end Fn.f86

namespace Fn.f37
noncomputable def tab (k : Nat) : Tab El := [(85, Fn.f85.entry k), (86, Fn.f86.entry k), (87, Fn.f87.entry k)]
noncomputable def env (R : Type) (k : Nat) : Env El R := envOf Go.Proofs.Tryz.prog (tab k) R (fun r => match r with | _ => false) (fun b => match b with | _ => fun _ => none) (fun b e => match b, e with | _, _ => fun _ => none)
theorem tabOK (k : Nat) : TabOK Go.Proofs.Tryz.prog (tab k) := TabOK.cons (Fn.f85.ok k) Fn.f85.enter (TabOK.cons (Fn.f86.ok k) Fn.f86.enter (TabOK.cons (Fn.f87.ok k) Fn.f87.enter (TabOK.nil)))
theorem envOK (R : Type) (k : Nat) : EnvOK 0 (env R k) := envOf_ok (by kernel_rfl) (tabOK k) (by intro b; show WOK 0 (match b with | _ => fun _ => none); split <;> first | exact word_ok _ _ _ | exact vword_ok (word_ok _ _ _) | exact none_ok _) (by intro b e; show WOK 0 (match b, e with | _, _ => fun _ => none); split <;> first | exact word_ok _ _ _ | exact none_ok _)
noncomputable def F (k : Nat) : Int → Option (ByteArray × Int) := fun a0 => Option.bind (Fn.f85.F k (a0, 0, 127)) fun y0 => cond y0 (some ((ByteArray.mk #[]), 1)) (if (0 ≤ Int.tmod a0 12) then (if (Int.tmod a0 12 < (↑(List.length [ByteArray.mk #[99], ByteArray.mk #[99, 35], ByteArray.mk #[100], ByteArray.mk #[100, 35], ByteArray.mk #[101], ByteArray.mk #[102], ByteArray.mk #[102, 35], ByteArray.mk #[103], ByteArray.mk #[103, 35], ByteArray.mk #[97], ByteArray.mk #[97, 35], ByteArray.mk #[98]]) : Int)) then (Option.bind ([ByteArray.mk #[99], ByteArray.mk #[99, 35], ByteArray.mk #[100], ByteArray.mk #[100, 35], ByteArray.mk #[101], ByteArray.mk #[102], ByteArray.mk #[102, 35], ByteArray.mk #[103], ByteArray.mk #[103, 35], ByteArray.mk #[97], ByteArray.mk #[97, 35], ByteArray.mk #[98]][Int.toNat (Int.tmod a0 12)]?) fun y3 => Option.bind (Fn.f87.F k (Go.IntKind.wrap Go.IntKind.i64 (Go.IntKind.wrap Go.IntKind.i64 (Int.tdiv a0 12) - 1))) fun y4 => if (ByteArray.size y3 + ByteArray.size y4 ≤ 9223372036854775807) then (some ((y3 ++ y4), 0)) else (none)) else (none)) else (none))
noncomputable def decA : List (D El) → List (Nat × MObj El) → Nat → Option (Int)
  | [(.int .i64 a0)], [], 0 => some a0
  | _, _, _ => none
noncomputable def dec : Out El → Option (ByteArray × Int)
  | ⟨(.tup [(.str r_0), (.int .i64 r_1)]), [], 0⟩ => some (r_0, r_1)
  | _ => none
noncomputable def outOf : ByteArray × Int → Out El := fun (r_0, r_1) => ⟨(.tup [(.str r_0), (.int .i64 r_1)]), [], 0⟩
noncomputable def entry (k : Nat) : Entry El := ⟨[.any], 0, specOf decA (F k) outOf⟩
theorem ok (k : Nat) : FnOK Go.Proofs.Tryz.prog 37 0 (specOf decA (F k) outOf) := fnOK_of (fn := Go.Proofs.Tryz.f37) (c := (Go.Proofs.Tryz.f37.body).getD .skip) (by kernel_rfl) (by kernel_rfl) (envOK _ k) (by kernel_rfl) k [.any, .any] (nt := 16) (by kernel_rfl) (rs := [.tmp 2, .tmp 3]) (by kernel_rfl) decA (F k) dec outOf
  (by intro out y h; unfold dec at h; split at h <;> cases h; rfl)
  (by intro ds objs next a h; unfold decA at h; split at h <;> cases h; kernel_rfl)
theorem enter : ∀ args w, (callFunc 37 args).run Go.Proofs.Tryz.prog w = .ok (.enter 37 args) w := fun _ _ => by kernel_rfl
end Fn.f37

