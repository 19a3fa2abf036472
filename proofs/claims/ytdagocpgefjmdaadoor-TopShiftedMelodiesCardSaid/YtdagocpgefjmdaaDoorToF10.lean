/-
  What each function of the program that the law reaches computes (F), and that it does (ok). No condition: F is none where nothing is said.
-/
import Derived.Test.YtdagocpgefjmdaaDoorToG00
import Derived.KernelRfl
set_option linter.unusedVariables false
set_option linter.unusedSectionVars false
set_option linter.unusedSimpArgs false
open Go Go.M Go.Proofs T Uni
set_option linter.unusedVariables false
set_option maxRecDepth 100000
set_option maxHeartbeats 4000000
namespace Fn.f117
noncomputable def tab (k : Nat) : Tab El := []
noncomputable def env (R : Type) (k : Nat) : Env El R := envOf Go.Proofs.Tryd.prog (tab k) R (fun r => match r with | _ => false) (fun b => match b with | _ => fun _ => none) (fun b e => match b, e with | _, _ => fun _ => none)
theorem tabOK (k : Nat) : TabOK Go.Proofs.Tryd.prog (tab k) := TabOK.nil
theorem envOK (R : Type) (k : Nat) : EnvOK 0 (env R k) := envOf_ok (by kernel_rfl) (tabOK k) (by intro b; show WOK 0 (match b with | _ => fun _ => none); split <;> first | exact word_ok _ _ _ | exact vword_ok (word_ok _ _ _) | exact none_ok _) (by intro b e; show WOK 0 (match b, e with | _, _ => fun _ => none); split <;> first | exact word_ok _ _ _ | exact none_ok _)
noncomputable def F (k : Nat) : Int × Int → Option (Int) := fun (a0, a1) => cond (Decidable.decide (a1 < 1)) (some 0) (if (a1 = 0) then (none) else (cond (Decidable.decide (Int.tmod a0 a1 < 0)) (some (Go.IntKind.wrap Go.IntKind.i64 (Int.tmod a0 a1 + a1))) (some (Int.tmod a0 a1))))
noncomputable def inH : SS := ⟨[(.o (.c (.int .i64))), (.o (.c (.int .i64)))], [], 0⟩
noncomputable def inS : Int × Int → St El := fun (a0, a1) => ⟨[(.int .i64 a0), (.int .i64 a1)], [], 0⟩
noncomputable def decA : List (D El) → List (Nat × MObj El) → Nat → Option (Int × Int) := decS inH (fun x => (x.1.1, x.1.2.1))
noncomputable def dec : Out El → Option (Int)
  | ⟨(.int .i64 r), [], 0⟩ => some r
  | _ => none
noncomputable def outOf : Int → Out El := fun r => ⟨(.int .i64 r), [], 0⟩
noncomputable def entry (k : Nat) : Entry El := ⟨[.any, .any], 0, specOf decA (F k) outOf⟩
theorem ok (k : Nat) : FnOK Go.Proofs.Tryd.prog 117 0 (specOf decA (F k) outOf) := fnOK_of (fn := Go.Proofs.Tryd.f117) (c := (Go.Proofs.Tryd.f117.body).getD .skip) (by kernel_rfl) (by kernel_rfl) (envOK _ k) (by kernel_rfl) k [.any] (nt := 16) (by kernel_rfl) (rs := [.tmp 4]) (by kernel_rfl) decA (F k) dec outOf
  (by intro out y h; unfold dec at h; split at h <;> cases h; rfl)
  (by intro ds objs next a h; obtain ⟨rfl, rfl, rfl⟩ := decS_eq (stc := inS) (fun x => by kernel_rfl) h; obtain ⟨a0, a1⟩ := a; kernel_rfl)
theorem enter : ∀ args w, (callFunc 117 args).run Go.Proofs.Tryd.prog w = .ok (.enter 117 args) w := fun _ _ => by kernel_rfl
end Fn.f117

namespace Fn.f58
noncomputable def tab (k : Nat) : Tab El := [(117, 0, Fn.f117.entry k)]
noncomputable def env (R : Type) (k : Nat) : Env El R := envOf Go.Proofs.Tryd.prog (tab k) R (fun r => match r with | _ => false) (fun b => match b with | _ => fun _ => none) (fun b e => match b, e with | _, _ => fun _ => none)
theorem tabOK (k : Nat) : TabOK Go.Proofs.Tryd.prog (tab k) := TabOK.cons (Fn.f117.ok k) Fn.f117.enter (TabOK.nil)
theorem envOK (R : Type) (k : Nat) : EnvOK 1 (env R k) := envOf_ok (by kernel_rfl) (tabOK k) (by intro b; show WOK 1 (match b with | _ => fun _ => none); split <;> first | exact word_ok _ _ _ | exact vword_ok (word_ok _ _ _) | exact none_ok _) (by intro b e; show WOK 1 (match b, e with | _, _ => fun _ => none); split <;> first | exact word_ok _ _ _ | exact none_ok _)
noncomputable def F (k : Nat) : List T.E3 × Int × Int → Option (Int × List T.E3 × Int) := fun (b0_0, b0_1, a1) => cond ((↑(List.length b0_0) : Int) == 0) (Option.bind (Fn.f117.F k (Go.IntKind.wrap Go.IntKind.i64 (Go.IntKind.wrap Go.IntKind.i64 (b0_1 + 1) * 7919), a1)) fun y0 => some (y0, b0_0, (Go.IntKind.wrap Go.IntKind.i64 (b0_1 + 1)))) (if ((↑(List.length b0_0) : Int) = 0) then (none) else (if ((↑(List.length b0_0) : Int) = 0) then (none) else (if (0 ≤ Int.tmod (Go.IntKind.wrap Go.IntKind.i64 (Go.IntKind.wrap Go.IntKind.i64 (b0_1 + 1) - 1)) (↑(List.length b0_0) : Int)) then (if (Int.tmod (Go.IntKind.wrap Go.IntKind.i64 (Go.IntKind.wrap Go.IntKind.i64 (b0_1 + 1) - 1)) (↑(List.length b0_0) : Int) < (↑(List.length b0_0) : Int)) then (Option.bind (b0_0[Int.toNat (Int.tmod (Go.IntKind.wrap Go.IntKind.i64 (Go.IntKind.wrap Go.IntKind.i64 (b0_1 + 1) - 1)) (↑(List.length b0_0) : Int))]?) fun y5 => Option.bind (Fn.f117.F k (y5, 1073741824)) fun y6 => Option.bind (Fn.f117.F k (Go.IntKind.wrap Go.IntKind.i64 (y6 + Go.IntKind.wrap Go.IntKind.i64 (Go.IntKind.wrap Go.IntKind.i64 (Int.tdiv (Go.IntKind.wrap Go.IntKind.i64 (Go.IntKind.wrap Go.IntKind.i64 (b0_1 + 1) - 1)) (↑(List.length b0_0) : Int)) * Go.IntKind.wrap Go.IntKind.i64 (7919 + Int.tmod (Go.IntKind.wrap Go.IntKind.i64 (Go.IntKind.wrap Go.IntKind.i64 (b0_1 + 1) - 1)) (↑(List.length b0_0) : Int)))), a1)) fun y7 => some (y7, b0_0, (Go.IntKind.wrap Go.IntKind.i64 (b0_1 + 1)))) else (none)) else (none))))
noncomputable def inH : SS := ⟨[(.o (.c (.ptr0 0 0))), (.o (.c (.int .i64)))], [(0, .box 25 [(.frz 3), (.int .i64)])], 1⟩
noncomputable def inS : List T.E3 × Int × Int → St El := fun (b0_0, b0_1, a1) => ⟨[(.ptr 0 0 0 0), (.int .i64 a1)], [(0, .box 25 [(.frz 3 b0_0), (.int .i64 b0_1)])], 1⟩
noncomputable def decA : List (D El) → List (Nat × MObj El) → Nat → Option (List T.E3 × Int × Int) := decS inH (fun x => (x.2.1.1, x.2.1.2.1, x.1.2.1))
noncomputable def dec : Out El → Option (Int × List T.E3 × Int)
  | ⟨(.int .i64 r), [(0, .box 25 [(.frz 3 b0_0), (.int .i64 b0_1)])], 1⟩ => some (r, b0_0, b0_1)
  | _ => none
noncomputable def outOf : Int × List T.E3 × Int → Out El := fun (r, b0_0, b0_1) => ⟨(.int .i64 r), [(0, .box 25 [(.frz 3 b0_0), (.int .i64 b0_1)])], 1⟩
noncomputable def entry (k : Nat) : Entry El := ⟨[.ref, .any], 1, specOf decA (F k) outOf⟩
theorem ok (k : Nat) : FnOK Go.Proofs.Tryd.prog 58 1 (specOf decA (F k) outOf) := fnOK_of (fn := Go.Proofs.Tryd.f58) (c := (Go.Proofs.Tryd.f58.body).getD .skip) (by kernel_rfl) (by kernel_rfl) (envOK _ k) (by kernel_rfl) k [.any] (nt := 64) (by kernel_rfl) (rs := [.tmp 4]) (by kernel_rfl) decA (F k) dec outOf
  (by intro out y h; unfold dec at h; split at h <;> cases h; rfl)
  (by intro ds objs next a h; obtain ⟨rfl, rfl, rfl⟩ := decS_eq (stc := inS) (fun x => by kernel_rfl) h; obtain ⟨b0_0, b0_1, a1⟩ := a; kernel_rfl)
theorem enter : ∀ args w, (callFunc 58 args).run Go.Proofs.Tryd.prog w = .ok (.enter 58 args) w := fun _ _ => by kernel_rfl
end Fn.f58

namespace Fn.f37
noncomputable def tab (k : Nat) : Tab El := [(58, 0, Fn.f58.entry k)]
noncomputable def env (R : Type) (k : Nat) : Env El R := envOf Go.Proofs.Tryd.prog (tab k) R (fun r => match r with | _ => false) (fun b => match b with | _ => fun _ => none) (fun b e => match b, e with | _, _ => fun _ => none)
theorem tabOK (k : Nat) : TabOK Go.Proofs.Tryd.prog (tab k) := TabOK.cons (Fn.f58.ok k) Fn.f58.enter (TabOK.nil)
theorem envOK (R : Type) (k : Nat) : EnvOK 1 (env R k) := envOf_ok (by kernel_rfl) (tabOK k) (by intro b; show WOK 1 (match b with | _ => fun _ => none); split <;> first | exact word_ok _ _ _ | exact vword_ok (word_ok _ _ _) | exact none_ok _) (by intro b e; show WOK 1 (match b, e with | _, _ => fun _ => none); split <;> first | exact word_ok _ _ _ | exact none_ok _)
noncomputable def F (k : Nat) : List T.E3 × Int × Int × Int → Option (Int × List T.E3 × Int) := fun (b0_0, b0_1, a1, a2) => cond (Decidable.decide (a2 < a1)) (some (a1, b0_0, b0_1)) (Option.bind (Fn.f58.F k (b0_0, b0_1, Go.IntKind.wrap Go.IntKind.i64 (Go.IntKind.wrap Go.IntKind.i64 (a2 - a1) + 1))) fun y0 => some ((Go.IntKind.wrap Go.IntKind.i64 (a1 + y0.1)), y0.2.1, y0.2.2))
noncomputable def inH : SS := ⟨[(.o (.c (.ptr0 0 0))), (.o (.c (.int .i64))), (.o (.c (.int .i64)))], [(0, .box 25 [(.frz 3), (.int .i64)])], 1⟩
noncomputable def inS : List T.E3 × Int × Int × Int → St El := fun (b0_0, b0_1, a1, a2) => ⟨[(.ptr 0 0 0 0), (.int .i64 a1), (.int .i64 a2)], [(0, .box 25 [(.frz 3 b0_0), (.int .i64 b0_1)])], 1⟩
noncomputable def decA : List (D El) → List (Nat × MObj El) → Nat → Option (List T.E3 × Int × Int × Int) := decS inH (fun x => (x.2.1.1, x.2.1.2.1, x.1.2.1, x.1.2.2.1))
noncomputable def dec : Out El → Option (Int × List T.E3 × Int)
  | ⟨(.int .i64 r), [(0, .box 25 [(.frz 3 b0_0), (.int .i64 b0_1)])], 1⟩ => some (r, b0_0, b0_1)
  | _ => none
noncomputable def outOf : Int × List T.E3 × Int → Out El := fun (r, b0_0, b0_1) => ⟨(.int .i64 r), [(0, .box 25 [(.frz 3 b0_0), (.int .i64 b0_1)])], 1⟩
noncomputable def entry (k : Nat) : Entry El := ⟨[.ref, .any, .any], 1, specOf decA (F k) outOf⟩
theorem ok (k : Nat) : FnOK Go.Proofs.Tryd.prog 37 1 (specOf decA (F k) outOf) := fnOK_of (fn := Go.Proofs.Tryd.f37) (c := (Go.Proofs.Tryd.f37.body).getD .skip) (by kernel_rfl) (by kernel_rfl) (envOK _ k) (by kernel_rfl) k [.any] (nt := 19) (by kernel_rfl) (rs := [.tmp 6]) (by kernel_rfl) decA (F k) dec outOf
  (by intro out y h; unfold dec at h; split at h <;> cases h; rfl)
  (by intro ds objs next a h; obtain ⟨rfl, rfl, rfl⟩ := decS_eq (stc := inS) (fun x => by kernel_rfl) h; obtain ⟨b0_0, b0_1, a1, a2⟩ := a; kernel_rfl)
theorem enter : ∀ args w, (callFunc 37 args).run Go.Proofs.Tryd.prog w = .ok (.enter 37 args) w := fun _ _ => by kernel_rfl
end Fn.f37

namespace Fn.f74
noncomputable def tab (k : Nat) : Tab El := []
noncomputable def env (R : Type) (k : Nat) : Env El R := envOf Go.Proofs.Tryd.prog (tab k) R (fun r => match r with | _ => false) (fun b => match b with | _ => fun _ => none) (fun b e => match b, e with | _, _ => fun _ => none)
theorem tabOK (k : Nat) : TabOK Go.Proofs.Tryd.prog (tab k) := TabOK.nil
theorem envOK (R : Type) (k : Nat) : EnvOK 0 (env R k) := envOf_ok (by kernel_rfl) (tabOK k) (by intro b; show WOK 0 (match b with | _ => fun _ => none); split <;> first | exact word_ok _ _ _ | exact vword_ok (word_ok _ _ _) | exact none_ok _) (by intro b e; show WOK 0 (match b, e with | _, _ => fun _ => none); split <;> first | exact word_ok _ _ _ | exact none_ok _)
noncomputable def F (k : Nat) : Int × Int × Int → Option (Bool) := fun (a0, a1, a2) => cond (Decidable.decide (a0 < a1)) (some Bool.true) (some (Decidable.decide (a0 > a2)))
noncomputable def inH : SS := ⟨[(.o (.c (.int .i64))), (.o (.c (.int .i64))), (.o (.c (.int .i64)))], [], 0⟩
noncomputable def inS : Int × Int × Int → St El := fun (a0, a1, a2) => ⟨[(.int .i64 a0), (.int .i64 a1), (.int .i64 a2)], [], 0⟩
noncomputable def decA : List (D El) → List (Nat × MObj El) → Nat → Option (Int × Int × Int) := decS inH (fun x => (x.1.1, x.1.2.1, x.1.2.2.1))
noncomputable def dec : Out El → Option (Bool)
  | ⟨(.bool r), [], 0⟩ => some r
  | _ => none
noncomputable def outOf : Bool → Out El := fun r => ⟨(.bool r), [], 0⟩
noncomputable def entry (k : Nat) : Entry El := ⟨[.any, .any, .any], 0, specOf decA (F k) outOf⟩
theorem ok (k : Nat) : FnOK Go.Proofs.Tryd.prog 74 0 (specOf decA (F k) outOf) := fnOK_of (fn := Go.Proofs.Tryd.f74) (c := (Go.Proofs.Tryd.f74.body).getD .skip) (by kernel_rfl) (by kernel_rfl) (envOK _ k) (by kernel_rfl) k [.any] (nt := 15) (by kernel_rfl) (rs := [.tmp 6]) (by kernel_rfl) decA (F k) dec outOf
  (by intro out y h; unfold dec at h; split at h <;> cases h; rfl)
  (by intro ds objs next a h; obtain ⟨rfl, rfl, rfl⟩ := decS_eq (stc := inS) (fun x => by kernel_rfl) h; obtain ⟨a0, a1, a2⟩ := a; kernel_rfl)
theorem enter : ∀ args w, (callFunc 74 args).run Go.Proofs.Tryd.prog w = .ok (.enter 74 args) w := fun _ _ => by kernel_rfl
end Fn.f74

namespace Fn.f124
noncomputable def tab (k : Nat) : Tab El := []
noncomputable def env (R : Type) (k : Nat) : Env El R := envOf Go.Proofs.Tryd.prog (tab k) R (fun r => match r with | _ => false) (fun b => match b with | _ => fun _ => none) (fun b e => match b, e with | _, _ => fun _ => none)
theorem tabOK (k : Nat) : TabOK Go.Proofs.Tryd.prog (tab k) := TabOK.nil
theorem envOK (R : Type) (k : Nat) : EnvOK 0 (env R k) := envOf_ok (by kernel_rfl) (tabOK k) (by intro b; show WOK 0 (match b with | _ => fun _ => none); split <;> first | exact word_ok _ _ _ | exact vword_ok (word_ok _ _ _) | exact none_ok _) (by intro b e; show WOK 0 (match b, e with | _, _ => fun _ => none); split <;> first | exact word_ok _ _ _ | exact none_ok _)
noncomputable def F (k : Nat) : Unit → Option (List T.E9) := fun () => some ([ByteArray.mk #[99], ByteArray.mk #[99, 35], ByteArray.mk #[100], ByteArray.mk #[100, 35], ByteArray.mk #[101], ByteArray.mk #[102], ByteArray.mk #[102, 35], ByteArray.mk #[103], ByteArray.mk #[103, 35], ByteArray.mk #[97], ByteArray.mk #[97, 35], ByteArray.mk #[98]])
noncomputable def inH : SS := ⟨[], [], 0⟩
noncomputable def inS : Unit → St El := fun () => ⟨[], [], 0⟩
noncomputable def decA : List (D El) → List (Nat × MObj El) → Nat → Option (Unit) := decS inH (fun x => ())
noncomputable def dec : Out El → Option (List T.E9)
  | ⟨(.frz 9 r), [], 0⟩ => some r
  | _ => none
noncomputable def outOf : List T.E9 → Out El := fun r => ⟨(.frz 9 r), [], 0⟩
noncomputable def entry (k : Nat) : Entry El := ⟨[], 0, specOf decA (F k) outOf⟩
theorem ok (k : Nat) : FnOK Go.Proofs.Tryd.prog 124 0 (specOf decA (F k) outOf) := fnOK_of (fn := Go.Proofs.Tryd.f124) (c := (Go.Proofs.Tryd.f124.body).getD .skip) (by kernel_rfl) (by kernel_rfl) (envOK _ k) (by kernel_rfl) k [.frz 9] (nt := 2) (by kernel_rfl) (rs := [.tmp 0]) (by kernel_rfl) decA (F k) dec outOf
  (by intro out y h; unfold dec at h; split at h <;> cases h; rfl)
  (by intro ds objs next a h; obtain ⟨rfl, rfl, rfl⟩ := decS_eq (stc := inS) (fun x => by kernel_rfl) h; kernel_rfl)
theorem enter : ∀ args w, (callFunc 124 args).run Go.Proofs.Tryd.prog w = .ok (.enter 124 args) w := fun _ _ => by kernel_rfl
end Fn.f124

namespace Fn.f66
noncomputable def tab (k : Nat) : Tab El := [(74, 0, Fn.f74.entry k), (99, 0, Fn.f99.entry k), (124, 0, Fn.f124.entry k)]
noncomputable def env (R : Type) (k : Nat) : Env El R := envOf Go.Proofs.Tryd.prog (tab k) R (fun r => match r with | _ => false) (fun b => match b with | _ => fun _ => none) (fun b e => match b, e with | _, _ => fun _ => none)
theorem tabOK (k : Nat) : TabOK Go.Proofs.Tryd.prog (tab k) := TabOK.cons (Fn.f74.ok k) Fn.f74.enter (TabOK.cons (Fn.f99.ok k) Fn.f99.enter (TabOK.cons (Fn.f124.ok k) Fn.f124.enter (TabOK.nil)))
theorem envOK (R : Type) (k : Nat) : EnvOK 0 (env R k) := envOf_ok (by kernel_rfl) (tabOK k) (by intro b; show WOK 0 (match b with | _ => fun _ => none); split <;> first | exact word_ok _ _ _ | exact vword_ok (word_ok _ _ _) | exact none_ok _) (by intro b e; show WOK 0 (match b, e with | _, _ => fun _ => none); split <;> first | exact word_ok _ _ _ | exact none_ok _)
noncomputable def F (k : Nat) : Int → Option (ByteArray × Int) := fun a0 => Option.bind (Fn.f74.F k (a0, 0, 127)) fun y0 => cond y0 (some ((ByteArray.mk #[]), 1)) (if (0 ≤ Int.tmod a0 12) then (if (Int.tmod a0 12 < (↑(List.length [ByteArray.mk #[99], ByteArray.mk #[99, 35], ByteArray.mk #[100], ByteArray.mk #[100, 35], ByteArray.mk #[101], ByteArray.mk #[102], ByteArray.mk #[102, 35], ByteArray.mk #[103], ByteArray.mk #[103, 35], ByteArray.mk #[97], ByteArray.mk #[97, 35], ByteArray.mk #[98]]) : Int)) then (Option.bind ([ByteArray.mk #[99], ByteArray.mk #[99, 35], ByteArray.mk #[100], ByteArray.mk #[100, 35], ByteArray.mk #[101], ByteArray.mk #[102], ByteArray.mk #[102, 35], ByteArray.mk #[103], ByteArray.mk #[103, 35], ByteArray.mk #[97], ByteArray.mk #[97, 35], ByteArray.mk #[98]][Int.toNat (Int.tmod a0 12)]?) fun y3 => Option.bind (Fn.f99.F k (Go.IntKind.wrap Go.IntKind.i64 (Go.IntKind.wrap Go.IntKind.i64 (Int.tdiv a0 12) - 1))) fun y4 => if (ByteArray.size y3 + ByteArray.size y4 ≤ 9223372036854775807) then (some ((y3 ++ y4), 0)) else (none)) else (none)) else (none))
noncomputable def inH : SS := ⟨[(.o (.c (.int .i64)))], [], 0⟩
noncomputable def inS : Int → St El := fun a0 => ⟨[(.int .i64 a0)], [], 0⟩
noncomputable def decA : List (D El) → List (Nat × MObj El) → Nat → Option (Int) := decS inH (fun x => x.1.1)
noncomputable def dec : Out El → Option (ByteArray × Int)
  | ⟨(.tup [(.str r_0), (.int .i64 r_1)]), [], 0⟩ => some (r_0, r_1)
  | _ => none
noncomputable def outOf : ByteArray × Int → Out El := fun (r_0, r_1) => ⟨(.tup [(.str r_0), (.int .i64 r_1)]), [], 0⟩
noncomputable def entry (k : Nat) : Entry El := ⟨[.any], 0, specOf decA (F k) outOf⟩
theorem ok (k : Nat) : FnOK Go.Proofs.Tryd.prog 66 0 (specOf decA (F k) outOf) := fnOK_of (fn := Go.Proofs.Tryd.f66) (c := (Go.Proofs.Tryd.f66.body).getD .skip) (by kernel_rfl) (by kernel_rfl) (envOK _ k) (by kernel_rfl) k [.any, .any] (nt := 16) (by kernel_rfl) (rs := [.tmp 2, .tmp 3]) (by kernel_rfl) decA (F k) dec outOf
  (by intro out y h; unfold dec at h; split at h <;> cases h; rfl)
  (by intro ds objs next a h; obtain ⟨rfl, rfl, rfl⟩ := decS_eq (stc := inS) (fun x => by kernel_rfl) h; kernel_rfl)
theorem enter : ∀ args w, (callFunc 66 args).run Go.Proofs.Tryd.prog w = .ok (.enter 66 args) w := fun _ _ => by kernel_rfl
end Fn.f66

namespace Fn.f30
noncomputable def tab (k : Nat) : Tab El := [(58, 0, Fn.f58.entry k)]
noncomputable def env (R : Type) (k : Nat) : Env El R := envOf Go.Proofs.Tryd.prog (tab k) R (fun r => match r with | _ => false) (fun b => match b with | _ => fun _ => none) (fun b e => match b, e with | _, _ => fun _ => none)
theorem tabOK (k : Nat) : TabOK Go.Proofs.Tryd.prog (tab k) := TabOK.cons (Fn.f58.ok k) Fn.f58.enter (TabOK.nil)
theorem envOK (R : Type) (k : Nat) : EnvOK 1 (env R k) := envOf_ok (by kernel_rfl) (tabOK k) (by intro b; show WOK 1 (match b with | _ => fun _ => none); split <;> first | exact word_ok _ _ _ | exact vword_ok (word_ok _ _ _) | exact none_ok _) (by intro b e; show WOK 1 (match b, e with | _, _ => fun _ => none); split <;> first | exact word_ok _ _ _ | exact none_ok _)
noncomputable def F (k : Nat) : List T.E3 × Int × List T.E9 → Option (ByteArray × List T.E3 × Int) := fun (b0_0, b0_1, a1) => Option.bind (Fn.f58.F k (b0_0, b0_1, (↑(List.length a1) : Int))) fun y0 => if (0 ≤ y0.1) then (if (y0.1 < (↑(List.length a1) : Int)) then (Option.bind (a1[Int.toNat y0.1]?) fun y3 => some (y3, y0.2.1, y0.2.2)) else (none)) else (none)
noncomputable def inH : SS := ⟨[(.o (.c (.ptr0 0 0))), (.o (.c (.frz 9)))], [(0, .box 25 [(.frz 3), (.int .i64)])], 1⟩
noncomputable def inS : List T.E3 × Int × List T.E9 → St El := fun (b0_0, b0_1, a1) => ⟨[(.ptr 0 0 0 0), (.frz 9 a1)], [(0, .box 25 [(.frz 3 b0_0), (.int .i64 b0_1)])], 1⟩
noncomputable def decA : List (D El) → List (Nat × MObj El) → Nat → Option (List T.E3 × Int × List T.E9) := decS inH (fun x => (x.2.1.1, x.2.1.2.1, x.1.2.1))
noncomputable def dec : Out El → Option (ByteArray × List T.E3 × Int)
  | ⟨(.str r), [(0, .box 25 [(.frz 3 b0_0), (.int .i64 b0_1)])], 1⟩ => some (r, b0_0, b0_1)
  | _ => none
noncomputable def outOf : ByteArray × List T.E3 × Int → Out El := fun (r, b0_0, b0_1) => ⟨(.str r), [(0, .box 25 [(.frz 3 b0_0), (.int .i64 b0_1)])], 1⟩
noncomputable def entry (k : Nat) : Entry El := ⟨[.ref, .frz 9], 1, specOf decA (F k) outOf⟩
theorem ok (k : Nat) : FnOK Go.Proofs.Tryd.prog 30 1 (specOf decA (F k) outOf) := fnOK_of (fn := Go.Proofs.Tryd.f30) (c := (Go.Proofs.Tryd.f30.body).getD .skip) (by kernel_rfl) (by kernel_rfl) (envOK _ k) (by kernel_rfl) k [.any] (nt := 12) (by kernel_rfl) (rs := [.tmp 4]) (by kernel_rfl) decA (F k) dec outOf
  (by intro out y h; unfold dec at h; split at h <;> cases h; rfl)
  (by intro ds objs next a h; obtain ⟨rfl, rfl, rfl⟩ := decS_eq (stc := inS) (fun x => by kernel_rfl) h; obtain ⟨b0_0, b0_1, a1⟩ := a; kernel_rfl)
theorem enter : ∀ args w, (callFunc 30 args).run Go.Proofs.Tryd.prog w = .ok (.enter 30 args) w := fun _ _ => by kernel_rfl
end Fn.f30

namespace Fn.f42
noncomputable def tab (k : Nat) : Tab El := [(58, 0, Fn.f58.entry k)]
noncomputable def env (R : Type) (k : Nat) : Env El R := envOf Go.Proofs.Tryd.prog (tab k) R (fun r => match r with | _ => false) (fun b => match b with | _ => fun _ => none) (fun b e => match b, e with | _, _ => fun _ => none)
theorem tabOK (k : Nat) : TabOK Go.Proofs.Tryd.prog (tab k) := TabOK.cons (Fn.f58.ok k) Fn.f58.enter (TabOK.nil)
theorem envOK (R : Type) (k : Nat) : EnvOK 1 (env R k) := envOf_ok (by kernel_rfl) (tabOK k) (by intro b; show WOK 1 (match b with | _ => fun _ => none); split <;> first | exact word_ok _ _ _ | exact vword_ok (word_ok _ _ _) | exact none_ok _) (by intro b e; show WOK 1 (match b, e with | _, _ => fun _ => none); split <;> first | exact word_ok _ _ _ | exact none_ok _)
noncomputable def F (k : Nat) : List T.E3 × Int × List T.E3 → Option (Int × List T.E3 × Int) := fun (b0_0, b0_1, a1) => Option.bind (Fn.f58.F k (b0_0, b0_1, (↑(List.length a1) : Int))) fun y0 => if (0 ≤ y0.1) then (if (y0.1 < (↑(List.length a1) : Int)) then (Option.bind (a1[Int.toNat y0.1]?) fun y3 => some (y3, y0.2.1, y0.2.2)) else (none)) else (none)
noncomputable def inH : SS := ⟨[(.o (.c (.ptr0 0 0))), (.o (.c (.frz 3)))], [(0, .box 25 [(.frz 3), (.int .i64)])], 1⟩
noncomputable def inS : List T.E3 × Int × List T.E3 → St El := fun (b0_0, b0_1, a1) => ⟨[(.ptr 0 0 0 0), (.frz 3 a1)], [(0, .box 25 [(.frz 3 b0_0), (.int .i64 b0_1)])], 1⟩
noncomputable def decA : List (D El) → List (Nat × MObj El) → Nat → Option (List T.E3 × Int × List T.E3) := decS inH (fun x => (x.2.1.1, x.2.1.2.1, x.1.2.1))
noncomputable def dec : Out El → Option (Int × List T.E3 × Int)
  | ⟨(.int .i64 r), [(0, .box 25 [(.frz 3 b0_0), (.int .i64 b0_1)])], 1⟩ => some (r, b0_0, b0_1)
  | _ => none
noncomputable def outOf : Int × List T.E3 × Int → Out El := fun (r, b0_0, b0_1) => ⟨(.int .i64 r), [(0, .box 25 [(.frz 3 b0_0), (.int .i64 b0_1)])], 1⟩
noncomputable def entry (k : Nat) : Entry El := ⟨[.ref, .frz 3], 1, specOf decA (F k) outOf⟩
theorem ok (k : Nat) : FnOK Go.Proofs.Tryd.prog 42 1 (specOf decA (F k) outOf) := fnOK_of (fn := Go.Proofs.Tryd.f42) (c := (Go.Proofs.Tryd.f42.body).getD .skip) (by kernel_rfl) (by kernel_rfl) (envOK _ k) (by kernel_rfl) k [.any] (nt := 12) (by kernel_rfl) (rs := [.tmp 4]) (by kernel_rfl) decA (F k) dec outOf
  (by intro out y h; unfold dec at h; split at h <;> cases h; rfl)
  (by intro ds objs next a h; obtain ⟨rfl, rfl, rfl⟩ := decS_eq (stc := inS) (fun x => by kernel_rfl) h; obtain ⟨b0_0, b0_1, a1⟩ := a; kernel_rfl)
theorem enter : ∀ args w, (callFunc 42 args).run Go.Proofs.Tryd.prog w = .ok (.enter 42 args) w := fun _ _ => by kernel_rfl
end Fn.f42

namespace Fn.f56
noncomputable def tab (k : Nat) : Tab El := [(58, 0, Fn.f58.entry k)]
noncomputable def env (R : Type) (k : Nat) : Env El R := envOf Go.Proofs.Tryd.prog (tab k) R (fun r => match r with | _ => false) (fun b => match b with | _ => fun _ => none) (fun b e => match b, e with | _, _ => fun _ => none)
theorem tabOK (k : Nat) : TabOK Go.Proofs.Tryd.prog (tab k) := TabOK.cons (Fn.f58.ok k) Fn.f58.enter (TabOK.nil)
theorem envOK (R : Type) (k : Nat) : EnvOK 1 (env R k) := envOf_ok (by kernel_rfl) (tabOK k) (by intro b; show WOK 1 (match b with | _ => fun _ => none); split <;> first | exact word_ok _ _ _ | exact vword_ok (word_ok _ _ _) | exact none_ok _) (by intro b e; show WOK 1 (match b, e with | _, _ => fun _ => none); split <;> first | exact word_ok _ _ _ | exact none_ok _)
noncomputable def F (k : Nat) : List T.E3 × Int × Int → Option (Bool × List T.E3 × Int) := fun (b0_0, b0_1, a1) => Option.bind (Fn.f58.F k (b0_0, b0_1, a1)) fun y0 => some ((y0.1 == 0), y0.2.1, y0.2.2)
noncomputable def inH : SS := ⟨[(.o (.c (.ptr0 0 0))), (.o (.c (.int .i64)))], [(0, .box 25 [(.frz 3), (.int .i64)])], 1⟩
noncomputable def inS : List T.E3 × Int × Int → St El := fun (b0_0, b0_1, a1) => ⟨[(.ptr 0 0 0 0), (.int .i64 a1)], [(0, .box 25 [(.frz 3 b0_0), (.int .i64 b0_1)])], 1⟩
noncomputable def decA : List (D El) → List (Nat × MObj El) → Nat → Option (List T.E3 × Int × Int) := decS inH (fun x => (x.2.1.1, x.2.1.2.1, x.1.2.1))
noncomputable def dec : Out El → Option (Bool × List T.E3 × Int)
  | ⟨(.bool r), [(0, .box 25 [(.frz 3 b0_0), (.int .i64 b0_1)])], 1⟩ => some (r, b0_0, b0_1)
  | _ => none
noncomputable def outOf : Bool × List T.E3 × Int → Out El := fun (r, b0_0, b0_1) => ⟨(.bool r), [(0, .box 25 [(.frz 3 b0_0), (.int .i64 b0_1)])], 1⟩
noncomputable def entry (k : Nat) : Entry El := ⟨[.ref, .any], 1, specOf decA (F k) outOf⟩
theorem ok (k : Nat) : FnOK Go.Proofs.Tryd.prog 56 1 (specOf decA (F k) outOf) := fnOK_of (fn := Go.Proofs.Tryd.f56) (c := (Go.Proofs.Tryd.f56.body).getD .skip) (by kernel_rfl) (by kernel_rfl) (envOK _ k) (by kernel_rfl) k [.any] (nt := 9) (by kernel_rfl) (rs := [.tmp 4]) (by kernel_rfl) decA (F k) dec outOf
  (by intro out y h; unfold dec at h; split at h <;> cases h; rfl)
  (by intro ds objs next a h; obtain ⟨rfl, rfl, rfl⟩ := decS_eq (stc := inS) (fun x => by kernel_rfl) h; obtain ⟨b0_0, b0_1, a1⟩ := a; kernel_rfl)
theorem enter : ∀ args w, (callFunc 56 args).run Go.Proofs.Tryd.prog w = .ok (.enter 56 args) w := fun _ _ => by kernel_rfl
end Fn.f56

namespace Fn.f132
noncomputable def l0H : SS := ⟨[(.o (.c (.ptr0 0 0))), (.o (.c .dead)), (.o (.c .dead)), (.o (.c (.all 1 5))), (.o (.c .dead)), (.o (.c .dead)), (.o (.c .dead)), (.o (.c .dead)), (.o (.c .dead)), (.o (.c .dead)), (.o (.c .dead)), (.o (.c .dead)), (.o (.c (.sl 2 1))), (.o (.c (.int .i64))), (.o (.c (.int .i64))), (.o (.c .dead)), (.o (.c .dead)), (.o (.c .dead)), (.o (.c .dead)), (.o (.c .dead)), (.o (.c .dead)), (.o (.c .dead)), (.o (.c .dead)), (.o (.c .dead)), (.o (.c .dead)), (.o (.c .dead)), (.o (.c .dead)), (.o (.c .dead)), (.o (.c .dead)), (.o (.c .dead)), (.o (.c .dead)), (.o (.c .dead)), (.o (.c .dead)), (.o (.c .dead)), (.o (.c .dead)), (.o (.c .dead)), (.o (.c .dead)), (.o (.c .dead)), (.o (.c .dead)), (.o (.c .dead)), (.o (.c .dead)), (.o (.c .dead)), (.o (.c .dead)), (.o (.c .dead)), (.o (.c .dead)), (.o (.c .dead)), (.o (.c .dead)), (.o (.c .dead)), (.o (.c .dead)), (.o (.c .dead)), (.o (.c .dead)), (.o (.c .dead)), (.o (.c .dead)), (.o (.c .dead)), (.o (.c .dead)), (.o (.c .dead)), (.o (.c .dead)), (.o (.c .dead)), (.o (.c .dead)), (.o (.c .dead)), (.o (.c .dead)), (.o (.c .dead)), (.o (.c .dead)), (.o (.c .dead)), (.o (.c .dead)), (.o (.c .dead)), (.o (.c .dead)), (.o (.c .dead)), (.o (.c .dead)), (.o (.c .dead)), (.o (.c .dead)), (.o (.c .dead)), (.o (.c .dead)), (.o (.c .dead)), (.o (.c .dead)), (.o (.c .dead)), (.o (.c .dead)), (.o (.c .dead)), (.o (.c .dead)), (.o (.c .dead)), (.o (.c .dead)), (.o (.c .dead)), (.o (.c .dead)), (.o (.c .dead)), (.o (.c .dead)), (.o (.c .dead)), (.o (.c .dead)), (.o (.c .dead)), (.o (.c .dead)), (.o (.c .dead)), (.o (.c .dead)), (.o (.c .dead)), (.o (.c .dead)), (.o (.c .dead)), (.o (.c .dead)), (.o (.c .dead)), (.o (.c .dead)), (.o (.c .dead)), (.o (.c .dead))], [(0, .box 25 [(.frz 3), (.int .i64)]), (1, .arr 114), (2, .arr 9)], 3⟩
noncomputable def l0V : St El → Option (Nat × Nat × Int × Int × List T.E3 × Int × List T.E114 × List T.E9) := viewS l0H (fun x => (x.1.2.2.2.2.2.2.2.2.2.2.2.2.1.1, x.1.2.2.2.2.2.2.2.2.2.2.2.2.1.2, x.1.2.2.2.2.2.2.2.2.2.2.2.2.2.1, x.1.2.2.2.2.2.2.2.2.2.2.2.2.2.2.1, x.2.1.1, x.2.1.2.1, x.2.2.1, x.2.2.2.1))
noncomputable def l0S : Nat × Nat × Int × Int × List T.E3 × Int × List T.E114 × List T.E9 → St El := fun (t12o, t12l, t13, t14, b0_0, b0_1, o1, o2) => ⟨(.ptr 0 0 0 0) :: .dead :: .dead :: (.all 1 5) :: .dead :: .dead :: .dead :: .dead :: .dead :: .dead :: .dead :: .dead :: (.sl 2 1 t12o t12l) :: (.int .i64 t13) :: (.int .i64 t14) :: .dead :: .dead :: .dead :: .dead :: .dead :: .dead :: .dead :: .dead :: .dead :: .dead :: .dead :: .dead :: .dead :: .dead :: .dead :: .dead :: .dead :: .dead :: .dead :: .dead :: .dead :: .dead :: .dead :: .dead :: .dead :: .dead :: .dead :: .dead :: .dead :: .dead :: .dead :: .dead :: .dead :: .dead :: .dead :: .dead :: .dead :: .dead :: .dead :: .dead :: .dead :: .dead :: .dead :: .dead :: .dead :: .dead :: .dead :: .dead :: .dead :: .dead :: .dead :: .dead :: .dead :: .dead :: .dead :: .dead :: .dead :: .dead :: .dead :: .dead :: .dead :: .dead :: .dead :: .dead :: .dead :: .dead :: .dead :: .dead :: .dead :: .dead :: .dead :: .dead :: .dead :: .dead :: .dead :: .dead :: .dead :: .dead :: .dead :: .dead :: .dead :: .dead :: .dead :: .dead :: [], [(0, .box 25 [(.frz 3 b0_0), (.int .i64 b0_1)]), (1, .arr 114 o1), (2, .arr 9 o2)], 3⟩
noncomputable def l0Xexit0 : List T.E3 × Int × List T.E114 → St El := fun (b0_0, b0_1, o1) => ⟨(.ptr 0 0 0 0) :: .dead :: .dead :: (.all 1 5) :: .dead :: .dead :: .dead :: .dead :: .dead :: .dead :: .dead :: .dead :: .dead :: .dead :: .dead :: .dead :: .dead :: .dead :: .dead :: .dead :: .dead :: .dead :: .dead :: .dead :: .dead :: .dead :: .dead :: .dead :: .dead :: .dead :: .dead :: .dead :: .dead :: .dead :: .dead :: .dead :: .dead :: .dead :: .dead :: .dead :: .dead :: .dead :: .dead :: .dead :: .dead :: .dead :: .dead :: .dead :: .dead :: .dead :: .dead :: .dead :: .dead :: .dead :: .dead :: .dead :: .dead :: .dead :: .dead :: .dead :: .dead :: .dead :: .dead :: .dead :: .dead :: .dead :: .dead :: .dead :: .dead :: .dead :: .dead :: .dead :: .dead :: .dead :: .dead :: .dead :: .dead :: .dead :: .dead :: .dead :: .dead :: .dead :: .dead :: .dead :: .dead :: .dead :: .dead :: .dead :: .dead :: .dead :: .dead :: .dead :: .dead :: .dead :: .dead :: .dead :: .dead :: .dead :: .dead :: [], [(0, .box 25 [(.frz 3 b0_0), (.int .i64 b0_1)]), (1, .arr 114 o1)], 2⟩
noncomputable def l100010H : SS := ⟨[(.o (.c (.ptr0 0 0))), (.o (.c .dead)), (.o (.c .dead)), (.o (.c (.all 1 5))), (.o (.c .dead)), (.o (.c .dead)), (.o (.c .dead)), (.o (.c .dead)), (.o (.c .dead)), (.o (.c .dead)), (.o (.c .dead)), (.o (.c .dead)), (.o (.c .dead)), (.o (.c .dead)), (.o (.c .dead)), (.o (.c .dead)), (.o (.c .dead)), (.o (.c .dead)), (.o (.c .dead)), (.o (.c .dead)), (.o (.c .dead)), (.o (.c .dead)), (.o (.c .dead)), (.o (.c .dead)), (.o (.c .dead)), (.o (.c .dead)), (.o (.c .dead)), (.o (.c .dead)), (.o (.c .dead)), (.o (.c .dead)), (.o (.c .dead)), (.o (.c .dead)), (.o (.c .dead)), (.o (.c .dead)), (.o (.c .dead)), (.o (.c .dead)), (.o (.c .dead)), (.o (.c .dead)), (.o (.c .dead)), (.o (.c .dead)), (.o (.c .dead)), (.o (.c .dead)), (.o (.c .dead)), (.o (.c .dead)), (.o (.c .dead)), (.o (.c .dead)), (.o (.c .dead)), (.o (.c .dead)), (.o (.c .dead)), (.o (.c .bool)), (.o (.c .dead)), (.o (.c .dead)), (.o (.c .dead)), (.o (.c .dead)), (.o (.c .dead)), (.o (.c .dead)), (.o (.c .dead)), (.o (.c .dead)), (.o (.c .dead)), (.o (.c .dead)), (.o (.c .dead)), (.o (.c .dead)), (.o (.c .dead)), (.o (.c .dead)), (.o (.c .dead)), (.o (.c .dead)), (.o (.c .dead)), (.o (.c .dead)), (.o (.c .dead)), (.o (.c .dead)), (.o (.c .dead)), (.o (.c .dead)), (.o (.c .dead)), (.o (.c .dead)), (.o (.c .dead)), (.o (.c .dead)), (.o (.c .dead)), (.o (.c .dead)), (.o (.c .dead)), (.o (.c .dead)), (.o (.c .dead)), (.o (.c .dead)), (.o (.c .dead)), (.o (.c .dead)), (.o (.c .dead)), (.o (.c .dead)), (.o (.c .dead)), (.o (.c .dead)), (.o (.c .dead)), (.o (.c .dead)), (.o (.c .dead)), (.o (.c .dead)), (.o (.c .dead)), (.o (.c .dead)), (.o (.c .dead)), (.o (.c .dead)), (.o (.c .dead)), (.o (.c .dead)), (.o (.c .dead))], [(0, .box 25 [(.frz 3), (.int .i64)]), (1, .arr 114)], 2⟩
noncomputable def l100010V : St El → Option (Bool × List T.E3 × Int × List T.E114) := viewS l100010H (fun x => (x.1.2.2.2.2.2.2.2.2.2.2.2.2.2.2.2.2.2.2.2.2.2.2.2.2.2.2.2.2.2.2.2.2.2.2.2.2.2.2.2.2.2.2.2.2.2.2.2.2.2.1, x.2.1.1, x.2.1.2.1, x.2.2.1))
noncomputable def l100010S : Bool × List T.E3 × Int × List T.E114 → St El := fun (t49, b0_0, b0_1, o1) => ⟨(.ptr 0 0 0 0) :: .dead :: .dead :: (.all 1 5) :: .dead :: .dead :: .dead :: .dead :: .dead :: .dead :: .dead :: .dead :: .dead :: .dead :: .dead :: .dead :: .dead :: .dead :: .dead :: .dead :: .dead :: .dead :: .dead :: .dead :: .dead :: .dead :: .dead :: .dead :: .dead :: .dead :: .dead :: .dead :: .dead :: .dead :: .dead :: .dead :: .dead :: .dead :: .dead :: .dead :: .dead :: .dead :: .dead :: .dead :: .dead :: .dead :: .dead :: .dead :: .dead :: (.bool t49) :: .dead :: .dead :: .dead :: .dead :: .dead :: .dead :: .dead :: .dead :: .dead :: .dead :: .dead :: .dead :: .dead :: .dead :: .dead :: .dead :: .dead :: .dead :: .dead :: .dead :: .dead :: .dead :: .dead :: .dead :: .dead :: .dead :: .dead :: .dead :: .dead :: .dead :: .dead :: .dead :: .dead :: .dead :: .dead :: .dead :: .dead :: .dead :: .dead :: .dead :: .dead :: .dead :: .dead :: .dead :: .dead :: .dead :: .dead :: .dead :: .dead :: [], [(0, .box 25 [(.frz 3 b0_0), (.int .i64 b0_1)]), (1, .arr 114 o1)], 2⟩
noncomputable def l100010Xnorm : List T.E3 × Int × List T.E114 → St El := fun (b0_0, b0_1, o1) => ⟨.dead :: .dead :: .dead :: (.all 1 5) :: .dead :: .dead :: .dead :: .dead :: .dead :: .dead :: .dead :: .dead :: .dead :: .dead :: .dead :: .dead :: .dead :: .dead :: .dead :: .dead :: .dead :: .dead :: .dead :: .dead :: .dead :: .dead :: .dead :: .dead :: .dead :: .dead :: .dead :: .dead :: .dead :: .dead :: .dead :: .dead :: .dead :: .dead :: .dead :: .dead :: .dead :: .dead :: .dead :: .dead :: .dead :: .dead :: .dead :: .dead :: .dead :: .dead :: .dead :: .dead :: .dead :: .dead :: .dead :: .dead :: .dead :: .dead :: .dead :: .dead :: .dead :: .dead :: .dead :: .dead :: .dead :: .dead :: .dead :: .dead :: .dead :: .dead :: .dead :: .dead :: .dead :: .dead :: .dead :: .dead :: .dead :: .dead :: .dead :: .dead :: .dead :: .dead :: .dead :: .dead :: .dead :: .dead :: .dead :: .dead :: .dead :: .dead :: .dead :: .dead :: .dead :: .dead :: .dead :: .dead :: .dead :: .dead :: .dead :: [], [(0, .box 25 [(.frz 3 b0_0), (.int .i64 b0_1)]), (1, .arr 114 o1)], 2⟩
noncomputable def tab (k : Nat) : Tab El := [(30, 0, Fn.f30.entry k), (37, 0, Fn.f37.entry k), (42, 0, Fn.f42.entry k), (56, 0, Fn.f56.entry k), (58, 0, Fn.f58.entry k)]
noncomputable def env (R : Type) (k : Nat) : Env El R := envOf Go.Proofs.Tryd.prog (tab k) R (fun r => match r with | 10 => true | _ => false) (fun b => match b with | 100010 => vword l100010V (word 1 [] (kept [0, 3, 49] 0 99)) | 0 => word 1 [(3, .own 114)] (kept [0, 3, 12, 13, 14] 0 99) | _ => fun _ => none) (fun b e => match b, e with | 100010, .ret => word 1 [] (kept [2] 0 99) | 100010, .norm => word 1 [] (kept [3] 0 99) | 0, .exit 0 => word 1 [] (kept [0, 3] 0 99) | 0, .ret => word 1 [] (kept [2] 0 99) | _, _ => fun _ => none)
theorem tabOK (k : Nat) : TabOK Go.Proofs.Tryd.prog (tab k) := TabOK.cons (Fn.f30.ok k) Fn.f30.enter (TabOK.cons (Fn.f37.ok k) Fn.f37.enter (TabOK.cons (Fn.f42.ok k) Fn.f42.enter (TabOK.cons (Fn.f56.ok k) Fn.f56.enter (TabOK.cons (Fn.f58.ok k) Fn.f58.enter (TabOK.nil)))))
theorem envOK (R : Type) (k : Nat) : EnvOK 1 (env R k) := envOf_ok (by kernel_rfl) (tabOK k) (by intro b; show WOK 1 (match b with | 100010 => vword l100010V (word 1 [] (kept [0, 3, 49] 0 99)) | 0 => word 1 [(3, .own 114)] (kept [0, 3, 12, 13, 14] 0 99) | _ => fun _ => none); split <;> first | exact word_ok _ _ _ | exact vword_ok (word_ok _ _ _) | exact none_ok _) (by intro b e; show WOK 1 (match b, e with | 100010, .ret => word 1 [] (kept [2] 0 99) | 100010, .norm => word 1 [] (kept [3] 0 99) | 0, .exit 0 => word 1 [] (kept [0, 3] 0 99) | 0, .ret => word 1 [] (kept [2] 0 99) | _, _ => fun _ => none); split <;> first | exact word_ok _ _ _ | exact none_ok _)
noncomputable def l0T {R : Type} (k : Nat) (exit0 : List T.E3 × Int × List T.E114 → Option R) (G : Nat × Nat × Int × Int × List T.E3 × Int × List T.E114 × List T.E9 → Option R) : Nat × Nat × Int × Int × List T.E3 × Int × List T.E114 × List T.E9 → Option R := fun (t12o, t12l, t13, t14, b0_0, b0_1, o1, o2) => cond (Decidable.decide (t14 < t13)) (if (0 ≤ t14) then (if (t14 < (↑t12l : Int)) then (Option.bind (o2[t12o + Int.toNat t14]?) fun y5 => Option.bind (Fn.f42.F k (b0_0, b0_1, [42, 48, 50, 50, 52])) fun y6 => Option.bind (Fn.f42.F k (y6.2.1, y6.2.2, [0, 0, 1, 1, 2])) fun y7 => Option.bind (Fn.f42.F k (y7.2.1, y7.2.2, [7, 10, 12, 14])) fun y8 => Option.bind (Fn.f42.F k (y8.2.1, y8.2.2, [0, 1, 3])) fun y9 => if (List.length o1 + List.length [T.E114.mk y5 y6.1 (Go.IntKind.wrap Go.IntKind.i64 (y6.1 + y8.1)) y7.1 (Go.IntKind.wrap Go.IntKind.i64 (y7.1 + y9.1))] ≤ 1000000) then (G (t12o, t12l, t13, (Go.IntKind.wrap Go.IntKind.i64 (t14 + 1)), y9.2.1, y9.2.2, (o1 ++ [T.E114.mk y5 y6.1 (Go.IntKind.wrap Go.IntKind.i64 (y6.1 + y8.1)) y7.1 (Go.IntKind.wrap Go.IntKind.i64 (y7.1 + y9.1))]), o2)) else (none)) else (none)) else (none)) (exit0 (b0_0, b0_1, o1))
noncomputable def l0 {R : Type} (k : Nat) (exit0 : List T.E3 × Int × List T.E114 → Option R) : Nat → Nat × Nat × Int × Int × List T.E3 × Int × List T.E114 × List T.E9 → Option R
  | 0, _ => none
  | n + 1, p => l0T k exit0 (l0 k exit0 n) p
noncomputable def l100010 {R : Type} (k : Nat) (norm : List T.E3 × Int × List T.E114 → Option R) : Bool × List T.E3 × Int × List T.E114 → Option R := fun (t49, b0_0, b0_1, o1) => cond t49 (Option.bind (Fn.f58.F k (b0_0, b0_1, (↑(List.length o1) : Int))) fun y12 => if (0 ≤ y12.1) then (if (y12.1 < (↑(List.length o1) : Int)) then (Option.bind (o1[Int.toNat y12.1]?) fun y15 => Option.bind (o1[Int.toNat y12.1]?) fun y16 => Option.bind (o1[Int.toNat y12.1]?) fun y17 => Option.bind (o1[Int.toNat y12.1]?) fun y18 => Option.bind (Fn.f30.F k (y12.2.1, y12.2.2, [T.E114.f0 y18, ByteArray.mk #[], ByteArray.mk #[116, 101, 110, 111, 114]])) fun y19 => Option.bind (o1[Int.toNat y12.1]?) fun y20 => Option.bind (o1[Int.toNat y12.1]?) fun y21 => Option.bind (o1[Int.toNat y12.1]?) fun y22 => if (T.E114.f3 y15 = T.E114.f3 y20) then (if (T.E114.f4 y16 = T.E114.f4 y21) then (if (T.E114.f1 y17 = T.E114.f1 y22) then (Option.bind (o1[Int.toNat y12.1]?) fun y26 => Option.bind (o1[Int.toNat y12.1]?) fun y27 => Option.bind (o1[Int.toNat y12.1]?) fun y28 => Option.bind (Fn.f42.F k (y19.2.1, y19.2.2, [T.E114.f3 y28, -1, 5])) fun y29 => Option.bind (o1[Int.toNat y12.1]?) fun y30 => Option.bind (o1[Int.toNat y12.1]?) fun y31 => if (T.E114.f4 y26 = T.E114.f4 y30) then (if (T.E114.f1 y27 = T.E114.f1 y31) then (Option.bind (o1[Int.toNat y12.1]?) fun y34 => Option.bind (o1[Int.toNat y12.1]?) fun y35 => Option.bind (Fn.f42.F k (y29.2.1, y29.2.2, [T.E114.f4 y35, 101])) fun y36 => Option.bind (o1[Int.toNat y12.1]?) fun y37 => if (T.E114.f1 y34 = T.E114.f1 y37) then (Option.bind (o1[Int.toNat y12.1]?) fun y39 => Option.bind (Fn.f42.F k (y36.2.1, y36.2.2, [T.E114.f1 y39, 100])) fun y40 => Option.bind (o1[Int.toNat y12.1]?) fun y41 => Option.bind ((List.set o1 (Int.toNat y12.1) (T.E114.mk y19.1 (T.E114.f1 y41) (T.E114.f2 y41) (T.E114.f3 y41) (T.E114.f4 y41)))[Int.toNat y12.1]?) fun y42 => Option.bind ((List.set (List.set o1 (Int.toNat y12.1) (T.E114.mk y19.1 (T.E114.f1 y41) (T.E114.f2 y41) (T.E114.f3 y41) (T.E114.f4 y41))) (Int.toNat y12.1) (T.E114.mk (T.E114.f0 y42) (T.E114.f1 y42) (T.E114.f2 y42) y29.1 (T.E114.f4 y42)))[Int.toNat y12.1]?) fun y43 => Option.bind ((List.set (List.set (List.set o1 (Int.toNat y12.1) (T.E114.mk y19.1 (T.E114.f1 y41) (T.E114.f2 y41) (T.E114.f3 y41) (T.E114.f4 y41))) (Int.toNat y12.1) (T.E114.mk (T.E114.f0 y42) (T.E114.f1 y42) (T.E114.f2 y42) y29.1 (T.E114.f4 y42))) (Int.toNat y12.1) (T.E114.mk (T.E114.f0 y43) (T.E114.f1 y43) (T.E114.f2 y43) (T.E114.f3 y43) y36.1))[Int.toNat y12.1]?) fun y44 => norm (y40.2.1, y40.2.2, (List.set (List.set (List.set (List.set o1 (Int.toNat y12.1) (T.E114.mk y19.1 (T.E114.f1 y41) (T.E114.f2 y41) (T.E114.f3 y41) (T.E114.f4 y41))) (Int.toNat y12.1) (T.E114.mk (T.E114.f0 y42) (T.E114.f1 y42) (T.E114.f2 y42) y29.1 (T.E114.f4 y42))) (Int.toNat y12.1) (T.E114.mk (T.E114.f0 y43) (T.E114.f1 y43) (T.E114.f2 y43) (T.E114.f3 y43) y36.1)) (Int.toNat y12.1) (T.E114.mk (T.E114.f0 y44) y40.1 (T.E114.f2 y44) (T.E114.f3 y44) (T.E114.f4 y44))))) else (none)) else (none)) else (none)) else (none)) else (none)) else (none)) else (none)) else (none)) (norm (b0_0, b0_1, o1))
noncomputable def F (k : Nat) : List T.E3 × Int → Option (List T.E114 × List T.E3 × Int) := fun (b0_0, b0_1) => Option.bind (Fn.f37.F k (b0_0, b0_1, 0, 3)) fun y0 => if (0 ≤ y0.1) then (if (y0.1 ≤ (↑(List.length [ByteArray.mk #[116, 101, 110, 111, 114], ByteArray.mk #[97, 108, 116, 111], ByteArray.mk #[98, 97, 115, 115]]) : Int)) then (l0 k (fun (b0_0, b0_1, o1) => cond (Decidable.decide ((↑(List.length o1) : Int) > 0)) (Option.bind (Fn.f56.F k (b0_0, b0_1, 12)) fun y11 => l100010 k (fun (b0_0, b0_1, o1) => some (o1, b0_0, b0_1)) (y11.1, y11.2.1, y11.2.2, o1)) (l100010 k (fun (b0_0, b0_1, o1) => some (o1, b0_0, b0_1)) (Bool.false, b0_0, b0_1, o1))) k ((Int.toNat (Option.getD Option.none 0)), (Int.toNat y0.1 - Int.toNat (Option.getD Option.none 0)), ((↑(Int.toNat y0.1 - Int.toNat (Option.getD Option.none 0)) : Int)), 0, y0.2.1, y0.2.2, [], ([ByteArray.mk #[116, 101, 110, 111, 114], ByteArray.mk #[97, 108, 116, 111], ByteArray.mk #[98, 97, 115, 115]]))) else (none)) else (none)
noncomputable def inH : SS := ⟨[(.o (.c (.ptr0 0 0)))], [(0, .box 25 [(.frz 3), (.int .i64)])], 1⟩
noncomputable def inS : List T.E3 × Int → St El := fun (b0_0, b0_1) => ⟨[(.ptr 0 0 0 0)], [(0, .box 25 [(.frz 3 b0_0), (.int .i64 b0_1)])], 1⟩
noncomputable def decA : List (D El) → List (Nat × MObj El) → Nat → Option (List T.E3 × Int) := decS inH (fun x => (x.2.1.1, x.2.1.2.1))
noncomputable def dec : Out El → Option (List T.E114 × List T.E3 × Int)
  | ⟨(.frz 114 r), [(0, .box 25 [(.frz 3 b0_0), (.int .i64 b0_1)])], 1⟩ => some (r, b0_0, b0_1)
  | _ => none
noncomputable def outOf : List T.E114 × List T.E3 × Int → Out El := fun (r, b0_0, b0_1) => ⟨(.frz 114 r), [(0, .box 25 [(.frz 3 b0_0), (.int .i64 b0_1)])], 1⟩
noncomputable def L (R : Type) (k : Nat) : LE El R := fun b x K st => match b with
  | 100010 => jell (env R k) k 0 100010 l100010V (fun K p => l100010 k (fun q => K (.norm) (l100010Xnorm q)) p) x K st
  | 0 => ell (env R k) k 0 l0V (fun K n p => l0 k (fun q => K (.exit 0) (l0Xexit0 q)) n p) x K st
  | b => mexec (env R k) k b (.loop x) K st
theorem told100010L (R : Type) (k : Nat) : Told (L R k) (env R k) k 0 (joinIn Go.Proofs.Tryd.f132 10) = [] := by kernel_rfl
theorem told100010 (R : Type) (k : Nat) : ∀ K st, mexec (env R k) k 0 (joinIn Go.Proofs.Tryd.f132 10) (Env.wrap (env R k) 100010 K) st = L R k 100010 (joinIn Go.Proofs.Tryd.f132 10) K st := jell_eq (lk := fun K p => l100010 k (fun q => K (.norm) (l100010Xnorm q)) p) l100010S (viewS_eq (fun x => by kernel_rfl)) (by
  rintro K ⟨t49, b0_0, b0_1, o1⟩
  refine (mexecG_eq (L := L R k) _ (by rw [told100010L]; exact trivial) _ _).trans ?_
  kernel_rfl)
theorem told0L (R : Type) (k : Nat) : Told (L R k) (env R k) k 0 (loopIn Go.Proofs.Tryd.f132 0) = [] := by kernel_rfl
theorem told0 (R : Type) (k : Nat) : ∀ K st, mexec (env R k) k 0 (.loop (loopIn Go.Proofs.Tryd.f132 0)) K st = L R k 0 (loopIn Go.Proofs.Tryd.f132 0) K st := ell_eq l0S (viewS_eq (fun x => by kernel_rfl)) (fun K G p => l0T k (fun q => K (.exit 0) (l0Xexit0 q)) G p) (fun _ _ => rfl) (fun _ _ _ => rfl) (by
  rintro K G ⟨t12o, t12l, t13, t14, b0_0, b0_1, o1, o2⟩
  refine (round_eq (L := L R k) (by rw [told0L]; exact trivial) _ _ _).trans ?_
  kernel_rfl)
theorem told (R : Type) (k : Nat) : Told (L R k) (env R k) k 0 ((Go.Proofs.Tryd.f132.body).getD .skip) = [∀ K st, mexec (env R k) k 0 (.loop (loopIn Go.Proofs.Tryd.f132 0)) K st = L R k 0 (loopIn Go.Proofs.Tryd.f132 0) K st, ∀ K st, mexec (env R k) k 0 (joinIn Go.Proofs.Tryd.f132 10) (Env.wrap (env R k) 100010 K) st = L R k 100010 (joinIn Go.Proofs.Tryd.f132 10) K st] := by kernel_rfl
theorem run (k : Nat) (R : Type) (dec : Out El → Option R) st : mexec (env R k) k 0 ((Go.Proofs.Tryd.f132.body).getD .skip) (mend Go.Proofs.Tryd.prog [.tmp 2] [.frz 114] 1 dec) st = mexecG (L R k) (env R k) 0 ((Go.Proofs.Tryd.f132.body).getD .skip) (mend Go.Proofs.Tryd.prog [.tmp 2] [.frz 114] 1 dec) st := mexecG_eq _ (by rw [told]; exact ⟨told0 R k, told100010 R k, trivial⟩) _ _
noncomputable def entry (k : Nat) : Entry El := ⟨[.ref], 1, specOf decA (F k) outOf⟩
theorem ok (k : Nat) : FnOK Go.Proofs.Tryd.prog 132 1 (specOf decA (F k) outOf) := fnOK_of (fn := Go.Proofs.Tryd.f132) (c := (Go.Proofs.Tryd.f132.body).getD .skip) (by kernel_rfl) (by kernel_rfl) (envOK _ k) (by kernel_rfl) k [.frz 114] (nt := 99) (by kernel_rfl) (rs := [.tmp 2]) (by kernel_rfl) decA (F k) dec outOf
  (by intro out y h; unfold dec at h; split at h <;> cases h; rfl)
  (by intro ds objs next a h; obtain ⟨rfl, rfl, rfl⟩ := decS_eq (stc := inS) (fun x => by kernel_rfl) h; obtain ⟨b0_0, b0_1⟩ := a; exact (run k _ dec _).trans (by kernel_rfl))
theorem enter : ∀ args w, (callFunc 132 args).run Go.Proofs.Tryd.prog w = .ok (.enter 132 args) w := fun _ _ => by kernel_rfl
end Fn.f132

namespace Fn.f90
noncomputable def tab (k : Nat) : Tab El := []
noncomputable def env (R : Type) (k : Nat) : Env El R := envOf Go.Proofs.Tryd.prog (tab k) R (fun r => match r with | _ => false) (fun b => match b with | _ => fun _ => none) (fun b e => match b, e with | _, _ => fun _ => none)
theorem tabOK (k : Nat) : TabOK Go.Proofs.Tryd.prog (tab k) := TabOK.nil
theorem envOK (R : Type) (k : Nat) : EnvOK 0 (env R k) := envOf_ok (by kernel_rfl) (tabOK k) (by intro b; show WOK 0 (match b with | _ => fun _ => none); split <;> first | exact word_ok _ _ _ | exact vword_ok (word_ok _ _ _) | exact none_ok _) (by intro b e; show WOK 0 (match b, e with | _, _ => fun _ => none); split <;> first | exact word_ok _ _ _ | exact none_ok _)
noncomputable def F (k : Nat) : Int × Int × Int → Option (Bool) := fun (a0, a1, a2) => cond (Decidable.decide (a1 ≤ a0)) (some (Decidable.decide (a0 ≤ a2))) (some Bool.false)
noncomputable def inH : SS := ⟨[(.o (.c (.int .i64))), (.o (.c (.int .i64))), (.o (.c (.int .i64)))], [], 0⟩
noncomputable def inS : Int × Int × Int → St El := fun (a0, a1, a2) => ⟨[(.int .i64 a0), (.int .i64 a1), (.int .i64 a2)], [], 0⟩
noncomputable def decA : List (D El) → List (Nat × MObj El) → Nat → Option (Int × Int × Int) := decS inH (fun x => (x.1.1, x.1.2.1, x.1.2.2.1))
noncomputable def dec : Out El → Option (Bool)
  | ⟨(.bool r), [], 0⟩ => some r
  | _ => none
noncomputable def outOf : Bool → Out El := fun r => ⟨(.bool r), [], 0⟩
noncomputable def entry (k : Nat) : Entry El := ⟨[.any, .any, .any], 0, specOf decA (F k) outOf⟩
theorem ok (k : Nat) : FnOK Go.Proofs.Tryd.prog 90 0 (specOf decA (F k) outOf) := fnOK_of (fn := Go.Proofs.Tryd.f90) (c := (Go.Proofs.Tryd.f90.body).getD .skip) (by kernel_rfl) (by kernel_rfl) (envOK _ k) (by kernel_rfl) k [.any] (nt := 15) (by kernel_rfl) (rs := [.tmp 6]) (by kernel_rfl) decA (F k) dec outOf
  (by intro out y h; unfold dec at h; split at h <;> cases h; rfl)
  (by intro ds objs next a h; obtain ⟨rfl, rfl, rfl⟩ := decS_eq (stc := inS) (fun x => by kernel_rfl) h; obtain ⟨a0, a1, a2⟩ := a; kernel_rfl)
theorem enter : ∀ args w, (callFunc 90 args).run Go.Proofs.Tryd.prog w = .ok (.enter 90 args) w := fun _ _ => by kernel_rfl
end Fn.f90

namespace Fn.f89
noncomputable def tab (k : Nat) : Tab El := [(90, 0, Fn.f90.entry k), (129, 0, Fn.f129.entry k), (140, 0, Fn.f140.entry k)]
noncomputable def env (R : Type) (k : Nat) : Env El R := envOf Go.Proofs.Tryd.prog (tab k) R (fun r => match r with | _ => false) (fun b => match b with | _ => fun _ => none) (fun b e => match b, e with | _, _ => fun _ => none)
theorem tabOK (k : Nat) : TabOK Go.Proofs.Tryd.prog (tab k) := TabOK.cons (Fn.f90.ok k) Fn.f90.enter (TabOK.cons (Fn.f129.ok k) Fn.f129.enter (TabOK.cons (Fn.f140.ok k) Fn.f140.enter (TabOK.nil)))
theorem envOK (R : Type) (k : Nat) : EnvOK 0 (env R k) := envOf_ok (by kernel_rfl) (tabOK k) (by intro b; show WOK 0 (match b with | _ => fun _ => none); split <;> first | exact word_ok _ _ _ | exact vword_ok (word_ok _ _ _) | exact none_ok _) (by intro b e; show WOK 0 (match b, e with | _, _ => fun _ => none); split <;> first | exact word_ok _ _ _ | exact none_ok _)
noncomputable def F (k : Nat) : ByteArray → Option (Bool) := fun a0 => Option.bind (Fn.f90.F k ((↑(ByteArray.size a0) : Int), 1, 40)) fun y0 => cond y0 (Option.bind (Fn.f140.F k (a0, ByteArray.mk #[97, 98, 99, 100, 101, 102, 103, 104, 105, 106, 107, 108, 109, 110, 111, 112, 113, 114, 115, 116, 117, 118, 119, 120, 121, 122, 48, 49, 50, 51, 52, 53, 54, 55, 56, 57, 45, 95])) fun y1 => cond (ByteArray.toList y1 == ByteArray.toList (ByteArray.mk #[])) (if (0 < (↑(ByteArray.size a0) : Int)) then (some (Decidable.decide (Go.Lib.indexByte (Array.toList (ByteArray.data (ByteArray.mk #[97, 98, 99, 100, 101, 102, 103, 104, 105, 106, 107, 108, 109, 110, 111, 112, 113, 114, 115, 116, 117, 118, 119, 120, 121, 122]))) (Nat.toUInt8 (Int.toNat (Go.M.bt a0 0))) ≥ 0))) else (none)) (some Bool.false)) (some Bool.false)
noncomputable def inH : SS := ⟨[(.o (.c .str))], [], 0⟩
noncomputable def inS : ByteArray → St El := fun a0 => ⟨[(.str a0)], [], 0⟩
noncomputable def decA : List (D El) → List (Nat × MObj El) → Nat → Option (ByteArray) := decS inH (fun x => x.1.1)
noncomputable def dec : Out El → Option (Bool)
  | ⟨(.bool r), [], 0⟩ => some r
  | _ => none
noncomputable def outOf : Bool → Out El := fun r => ⟨(.bool r), [], 0⟩
noncomputable def entry (k : Nat) : Entry El := ⟨[.any], 0, specOf decA (F k) outOf⟩
theorem ok (k : Nat) : FnOK Go.Proofs.Tryd.prog 89 0 (specOf decA (F k) outOf) := fnOK_of (fn := Go.Proofs.Tryd.f89) (c := (Go.Proofs.Tryd.f89.body).getD .skip) (by kernel_rfl) (by kernel_rfl) (envOK _ k) (by kernel_rfl) k [.any] (nt := 17) (by kernel_rfl) (rs := [.tmp 2]) (by kernel_rfl) decA (F k) dec outOf
  (by intro out y h; unfold dec at h; split at h <;> cases h; rfl)
  (by intro ds objs next a h; obtain ⟨rfl, rfl, rfl⟩ := decS_eq (stc := inS) (fun x => by kernel_rfl) h; kernel_rfl)
theorem enter : ∀ args w, (callFunc 89 args).run Go.Proofs.Tryd.prog w = .ok (.enter 89 args) w := fun _ _ => by kernel_rfl
end Fn.f89

namespace Fn.f167
noncomputable def tab (k : Nat) : Tab El := []
noncomputable def env (R : Type) (k : Nat) : Env El R := envOf Go.Proofs.Tryd.prog (tab k) R (fun r => match r with | _ => false) (fun b => match b with | _ => fun _ => none) (fun b e => match b, e with | _, _ => fun _ => none)
theorem tabOK (k : Nat) : TabOK Go.Proofs.Tryd.prog (tab k) := TabOK.nil
theorem envOK (R : Type) (k : Nat) : EnvOK 1 (env R k) := envOf_ok (by kernel_rfl) (tabOK k) (by intro b; show WOK 1 (match b with | _ => fun _ => none); split <;> first | exact word_ok _ _ _ | exact vword_ok (word_ok _ _ _) | exact none_ok _) (by intro b e; show WOK 1 (match b, e with | _, _ => fun _ => none); split <;> first | exact word_ok _ _ _ | exact none_ok _)
noncomputable def F (k : Nat) : ByteArray × Int × Int × Int × Int × ByteArray × Int × Int × Int × Int → Option (Bool × ByteArray × Int × Int × Int × Int) := fun (a0_0, a0_1_0, a0_1_1, a0_3, a0_4, b0_0, b0_1_0, b0_1_1, b0_3, b0_4) => some ((ByteArray.toList a0_0 == ByteArray.toList b0_0), b0_0, b0_1_0, b0_1_1, b0_3, b0_4)
noncomputable def inH : SS := ⟨[(.o (.agg [.str, (.int .i64), (.int .i64), (.int .i64), (.int .i64)])), (.o (.c (.ptr0 0 0)))], [(0, .box 114 [.str, (.int .i64), (.int .i64), (.int .i64), (.int .i64)])], 1⟩
noncomputable def inS : ByteArray × Int × Int × Int × Int × ByteArray × Int × Int × Int × Int → St El := fun (a0_0, a0_1_0, a0_1_1, a0_3, a0_4, b0_0, b0_1_0, b0_1_1, b0_3, b0_4) => ⟨[(.agg [(.str a0_0), (.int .i64 a0_1_0), (.int .i64 a0_1_1), (.int .i64 a0_3), (.int .i64 a0_4)]), (.ptr 0 0 0 0)], [(0, .box 114 [(.str b0_0), (.int .i64 b0_1_0), (.int .i64 b0_1_1), (.int .i64 b0_3), (.int .i64 b0_4)])], 1⟩
noncomputable def decA : List (D El) → List (Nat × MObj El) → Nat → Option (ByteArray × Int × Int × Int × Int × ByteArray × Int × Int × Int × Int) := decS inH (fun x => (x.1.1.1, x.1.1.2.1, x.1.1.2.2.1, x.1.1.2.2.2.1, x.1.1.2.2.2.2.1, x.2.1.1, x.2.1.2.1, x.2.1.2.2.1, x.2.1.2.2.2.1, x.2.1.2.2.2.2.1))
noncomputable def dec : Out El → Option (Bool × ByteArray × Int × Int × Int × Int)
  | ⟨(.bool r), [(0, .box 114 [(.str b0_0), (.int .i64 b0_1), (.int .i64 b0_2), (.int .i64 b0_3), (.int .i64 b0_4)])], 1⟩ => some (r, b0_0, b0_1, b0_2, b0_3, b0_4)
  | _ => none
noncomputable def outOf : Bool × ByteArray × Int × Int × Int × Int → Out El := fun (r, b0_0, b0_1, b0_2, b0_3, b0_4) => ⟨(.bool r), [(0, .box 114 [(.str b0_0), (.int .i64 b0_1), (.int .i64 b0_2), (.int .i64 b0_3), (.int .i64 b0_4)])], 1⟩
noncomputable def entry (k : Nat) : Entry El := ⟨[.any, .ref], 1, specOf decA (F k) outOf⟩
theorem ok (k : Nat) : FnOK Go.Proofs.Tryd.prog 167 1 (specOf decA (F k) outOf) := fnOK_of (fn := Go.Proofs.Tryd.f167) (c := (Go.Proofs.Tryd.f167.body).getD .skip) (by kernel_rfl) (by kernel_rfl) (envOK _ k) (by kernel_rfl) k [.any] (nt := 9) (by kernel_rfl) (rs := [.tmp 3]) (by kernel_rfl) decA (F k) dec outOf
  (by intro out y h; unfold dec at h; split at h <;> cases h; rfl)
  (by intro ds objs next a h; obtain ⟨rfl, rfl, rfl⟩ := decS_eq (stc := inS) (fun x => by kernel_rfl) h; obtain ⟨a0_0, a0_1_0, a0_1_1, a0_3, a0_4, b0_0, b0_1_0, b0_1_1, b0_3, b0_4⟩ := a; kernel_rfl)
theorem enter : ∀ args w, (callFunc 167 args).run Go.Proofs.Tryd.prog w = .ok (.enter 167 args) w := fun _ _ => by kernel_rfl
end Fn.f167

namespace Fn.f204_167
noncomputable def l0H : SS := ⟨[(.o (.c (.frz 114))), (.o (.fn 167 [(.ptr0 0 0)])), (.o (.c .dead)), (.o (.c .dead)), (.o (.c .dead)), (.o (.c .dead)), (.o (.c .dead)), (.o (.c (.int .i64))), (.o (.c (.int .i64))), (.o (.c .dead)), (.o (.c .dead)), (.o (.c .dead)), (.o (.c .dead)), (.o (.c .dead)), (.o (.c .dead)), (.o (.c .dead)), (.o (.c .dead)), (.o (.c .dead)), (.o (.c .dead))], [(0, .box 114 [.str, (.int .i64), (.int .i64), (.int .i64), (.int .i64)])], 1⟩
noncomputable def l0V : St El → Option (List T.E114 × Int × Int × ByteArray × Int × Int × Int × Int) := viewS l0H (fun x => (x.1.1, x.1.2.2.2.2.2.2.2.1, x.1.2.2.2.2.2.2.2.2.1, x.2.1.1, x.2.1.2.1, x.2.1.2.2.1, x.2.1.2.2.2.1, x.2.1.2.2.2.2.1))
noncomputable def l0S : List T.E114 × Int × Int × ByteArray × Int × Int × Int × Int → St El := fun (t0, t7, t8, b0_0, b0_1, b0_2, b0_3, b0_4) => ⟨(.frz 114 t0) :: (.fn 167 [(.ptr 0 0 0 0)]) :: .dead :: .dead :: .dead :: .dead :: .dead :: (.int .i64 t7) :: (.int .i64 t8) :: .dead :: .dead :: .dead :: .dead :: .dead :: .dead :: .dead :: .dead :: .dead :: .dead :: [], [(0, .box 114 [(.str b0_0), (.int .i64 b0_1), (.int .i64 b0_2), (.int .i64 b0_3), (.int .i64 b0_4)])], 1⟩
noncomputable def l0Xret : Int × ByteArray × Int × Int × Int × Int → St El := fun (t4, b0_0, b0_1, b0_2, b0_3, b0_4) => ⟨.dead :: .dead :: .dead :: .dead :: (.int .i64 t4) :: .dead :: .dead :: .dead :: .dead :: .dead :: .dead :: .dead :: .dead :: .dead :: .dead :: .dead :: .dead :: .dead :: .dead :: [], [(0, .box 114 [(.str b0_0), (.int .i64 b0_1), (.int .i64 b0_2), (.int .i64 b0_3), (.int .i64 b0_4)])], 1⟩
noncomputable def l0Xexit0 : ByteArray × Int × Int × Int × Int → St El := fun (b0_0, b0_1, b0_2, b0_3, b0_4) => ⟨.dead :: .dead :: .dead :: .dead :: .dead :: .dead :: .dead :: .dead :: .dead :: .dead :: .dead :: .dead :: .dead :: .dead :: .dead :: .dead :: .dead :: .dead :: .dead :: [], [(0, .box 114 [(.str b0_0), (.int .i64 b0_1), (.int .i64 b0_2), (.int .i64 b0_3), (.int .i64 b0_4)])], 1⟩
noncomputable def tab (k : Nat) : Tab El := [(167, 0, Fn.f167.entry k)]
noncomputable def env (R : Type) (k : Nat) : Env El R := envOf Go.Proofs.Tryd.prog (tab k) R (fun r => match r with | _ => false) (fun b => match b with | 0 => word 1 [] (kept [0, 1, 7, 8] 0 19) | _ => fun _ => none) (fun b e => match b, e with | 0, .exit 0 => word 1 [] (kept [] 0 19) | 0, .ret => word 1 [] (kept [4] 0 19) | _, _ => fun _ => none)
theorem tabOK (k : Nat) : TabOK Go.Proofs.Tryd.prog (tab k) := TabOK.cons (Fn.f167.ok k) Fn.f167.enter (TabOK.nil)
theorem envOK (R : Type) (k : Nat) : EnvOK 1 (env R k) := envOf_ok (by kernel_rfl) (tabOK k) (by intro b; show WOK 1 (match b with | 0 => word 1 [] (kept [0, 1, 7, 8] 0 19) | _ => fun _ => none); split <;> first | exact word_ok _ _ _ | exact vword_ok (word_ok _ _ _) | exact none_ok _) (by intro b e; show WOK 1 (match b, e with | 0, .exit 0 => word 1 [] (kept [] 0 19) | 0, .ret => word 1 [] (kept [4] 0 19) | _, _ => fun _ => none); split <;> first | exact word_ok _ _ _ | exact none_ok _)
noncomputable def l0T {R : Type} (k : Nat) (ret : Int × ByteArray × Int × Int × Int × Int → Option R) (exit0 : ByteArray × Int × Int × Int × Int → Option R) (G : List T.E114 × Int × Int × ByteArray × Int × Int × Int × Int → Option R) : List T.E114 × Int × Int × ByteArray × Int × Int × Int × Int → Option R := fun (t0, t7, t8, b0_0, b0_1, b0_2, b0_3, b0_4) => cond (Decidable.decide (t8 < t7)) (if (0 ≤ t8) then (if (t8 < (↑(List.length t0) : Int)) then (Option.bind (t0[Int.toNat t8]?) fun y2 => cond (ByteArray.toList (T.E114.f0 y2) == ByteArray.toList b0_0) (ret (t8, b0_0, b0_1, b0_2, b0_3, b0_4)) (G (t0, t7, (Go.IntKind.wrap Go.IntKind.i64 (t8 + 1)), b0_0, b0_1, b0_2, b0_3, b0_4))) else (none)) else (none)) (exit0 (b0_0, b0_1, b0_2, b0_3, b0_4))
noncomputable def l0 {R : Type} (k : Nat) (ret : Int × ByteArray × Int × Int × Int × Int → Option R) (exit0 : ByteArray × Int × Int × Int × Int → Option R) : Nat → List T.E114 × Int × Int × ByteArray × Int × Int × Int × Int → Option R
  | 0, _ => none
  | n + 1, p => l0T k ret exit0 (l0 k ret exit0 n) p
noncomputable def F (k : Nat) : List T.E114 × ByteArray × Int × Int × Int × Int → Option (Int × ByteArray × Int × Int × Int × Int) := fun (a0, b0_0, b0_1_0, b0_1_1, b0_3, b0_4) => l0 k (fun (t4, b0_0, b0_1, b0_2, b0_3, b0_4) => some (t4, b0_0, b0_1, b0_2, b0_3, b0_4)) (fun (b0_0, b0_1, b0_2, b0_3, b0_4) => some ((-1), b0_0, b0_1, b0_2, b0_3, b0_4)) k (a0, ((↑(List.length a0) : Int)), 0, b0_0, b0_1_0, b0_1_1, b0_3, b0_4)
noncomputable def inH : SS := ⟨[(.o (.c (.frz 114))), (.o (.fn 167 [(.ptr0 0 0)]))], [(0, .box 114 [.str, (.int .i64), (.int .i64), (.int .i64), (.int .i64)])], 1⟩
noncomputable def inS : List T.E114 × ByteArray × Int × Int × Int × Int → St El := fun (a0, b0_0, b0_1_0, b0_1_1, b0_3, b0_4) => ⟨[(.frz 114 a0), (.fn 167 [(.ptr 0 0 0 0)])], [(0, .box 114 [(.str b0_0), (.int .i64 b0_1_0), (.int .i64 b0_1_1), (.int .i64 b0_3), (.int .i64 b0_4)])], 1⟩
noncomputable def decA : List (D El) → List (Nat × MObj El) → Nat → Option (List T.E114 × ByteArray × Int × Int × Int × Int) := decS inH (fun x => (x.1.1, x.2.1.1, x.2.1.2.1, x.2.1.2.2.1, x.2.1.2.2.2.1, x.2.1.2.2.2.2.1))
noncomputable def dec : Out El → Option (Int × ByteArray × Int × Int × Int × Int)
  | ⟨(.int .i64 r), [(0, .box 114 [(.str b0_0), (.int .i64 b0_1), (.int .i64 b0_2), (.int .i64 b0_3), (.int .i64 b0_4)])], 1⟩ => some (r, b0_0, b0_1, b0_2, b0_3, b0_4)
  | _ => none
noncomputable def outOf : Int × ByteArray × Int × Int × Int × Int → Out El := fun (r, b0_0, b0_1, b0_2, b0_3, b0_4) => ⟨(.int .i64 r), [(0, .box 114 [(.str b0_0), (.int .i64 b0_1), (.int .i64 b0_2), (.int .i64 b0_3), (.int .i64 b0_4)])], 1⟩
noncomputable def L (R : Type) (k : Nat) : LE El R := fun b x K st => match b with
  | 0 => ell (env R k) k 0 l0V (fun K n p => l0 k (fun q => K (.ret) (l0Xret q)) (fun q => K (.exit 0) (l0Xexit0 q)) n p) x K st
  | b => mexec (env R k) k b (.loop x) K st
theorem told0L (R : Type) (k : Nat) : Told (L R k) (env R k) k 0 (loopIn Go.Proofs.Tryd.f204 0) = [] := by kernel_rfl
theorem told0 (R : Type) (k : Nat) : ∀ K st, mexec (env R k) k 0 (.loop (loopIn Go.Proofs.Tryd.f204 0)) K st = L R k 0 (loopIn Go.Proofs.Tryd.f204 0) K st := ell_eq l0S (viewS_eq (fun x => by kernel_rfl)) (fun K G p => l0T k (fun q => K (.ret) (l0Xret q)) (fun q => K (.exit 0) (l0Xexit0 q)) G p) (fun _ _ => rfl) (fun _ _ _ => rfl) (by
  rintro K G ⟨t0, t7, t8, b0_0, b0_1, b0_2, b0_3, b0_4⟩
  refine (round_eq (L := L R k) (by rw [told0L]; exact trivial) _ _ _).trans ?_
  kernel_rfl)
theorem told (R : Type) (k : Nat) : Told (L R k) (env R k) k 0 ((Go.Proofs.Tryd.f204.body).getD .skip) = [∀ K st, mexec (env R k) k 0 (.loop (loopIn Go.Proofs.Tryd.f204 0)) K st = L R k 0 (loopIn Go.Proofs.Tryd.f204 0) K st] := by kernel_rfl
theorem run (k : Nat) (R : Type) (dec : Out El → Option R) st : mexec (env R k) k 0 ((Go.Proofs.Tryd.f204.body).getD .skip) (mend Go.Proofs.Tryd.prog [.tmp 4] [.any] 1 dec) st = mexecG (L R k) (env R k) 0 ((Go.Proofs.Tryd.f204.body).getD .skip) (mend Go.Proofs.Tryd.prog [.tmp 4] [.any] 1 dec) st := mexecG_eq _ (by rw [told]; exact ⟨told0 R k, trivial⟩) _ _
noncomputable def entry (k : Nat) : Entry El := ⟨[.frz 114, .ref], 1, specOf decA (F k) outOf⟩
theorem ok (k : Nat) : FnOK Go.Proofs.Tryd.prog 204 1 (specOf decA (F k) outOf) := fnOK_of (fn := Go.Proofs.Tryd.f204) (c := (Go.Proofs.Tryd.f204.body).getD .skip) (by kernel_rfl) (by kernel_rfl) (envOK _ k) (by kernel_rfl) k [.any] (nt := 19) (by kernel_rfl) (rs := [.tmp 4]) (by kernel_rfl) decA (F k) dec outOf
  (by intro out y h; unfold dec at h; split at h <;> cases h; rfl)
  (by intro ds objs next a h; obtain ⟨rfl, rfl, rfl⟩ := decS_eq (stc := inS) (fun x => by kernel_rfl) h; obtain ⟨a0, b0_0, b0_1_0, b0_1_1, b0_3, b0_4⟩ := a; exact (run k _ dec _).trans (by kernel_rfl))
theorem enter : ∀ args w, (callFunc 204 args).run Go.Proofs.Tryd.prog w = .ok (.enter 204 args) w := fun _ _ => by kernel_rfl
end Fn.f204_167

namespace Fn.f166_167
noncomputable def tab (k : Nat) : Tab El := [(167, 0, Fn.f167.entry k), (204, 168, Fn.f204_167.entry k)]
noncomputable def env (R : Type) (k : Nat) : Env El R := envOf Go.Proofs.Tryd.prog (tab k) R (fun r => match r with | _ => false) (fun b => match b with | _ => fun _ => none) (fun b e => match b, e with | _, _ => fun _ => none)
theorem tabOK (k : Nat) : TabOK Go.Proofs.Tryd.prog (tab k) := TabOK.cons (Fn.f167.ok k) Fn.f167.enter (TabOK.cons (Fn.f204_167.ok k) Fn.f204_167.enter (TabOK.nil))
theorem envOK (R : Type) (k : Nat) : EnvOK 1 (env R k) := envOf_ok (by kernel_rfl) (tabOK k) (by intro b; show WOK 1 (match b with | _ => fun _ => none); split <;> first | exact word_ok _ _ _ | exact vword_ok (word_ok _ _ _) | exact none_ok _) (by intro b e; show WOK 1 (match b, e with | _, _ => fun _ => none); split <;> first | exact word_ok _ _ _ | exact none_ok _)
noncomputable def F (k : Nat) : List T.E114 × ByteArray × Int × Int × Int × Int → Option (Bool × ByteArray × Int × Int × Int × Int) := fun (a0, b0_0, b0_1_0, b0_1_1, b0_3, b0_4) => Option.bind (Fn.f204_167.F k (a0, b0_0, b0_1_0, b0_1_1, b0_3, b0_4)) fun y0 => some ((Decidable.decide (y0.1 ≥ 0)), y0.2.1, y0.2.2.1, y0.2.2.2.1, y0.2.2.2.2.1, y0.2.2.2.2.2)
noncomputable def inH : SS := ⟨[(.o (.c (.frz 114))), (.o (.fn 167 [(.ptr0 0 0)]))], [(0, .box 114 [.str, (.int .i64), (.int .i64), (.int .i64), (.int .i64)])], 1⟩
noncomputable def inS : List T.E114 × ByteArray × Int × Int × Int × Int → St El := fun (a0, b0_0, b0_1_0, b0_1_1, b0_3, b0_4) => ⟨[(.frz 114 a0), (.fn 167 [(.ptr 0 0 0 0)])], [(0, .box 114 [(.str b0_0), (.int .i64 b0_1_0), (.int .i64 b0_1_1), (.int .i64 b0_3), (.int .i64 b0_4)])], 1⟩
noncomputable def decA : List (D El) → List (Nat × MObj El) → Nat → Option (List T.E114 × ByteArray × Int × Int × Int × Int) := decS inH (fun x => (x.1.1, x.2.1.1, x.2.1.2.1, x.2.1.2.2.1, x.2.1.2.2.2.1, x.2.1.2.2.2.2.1))
noncomputable def dec : Out El → Option (Bool × ByteArray × Int × Int × Int × Int)
  | ⟨(.bool r), [(0, .box 114 [(.str b0_0), (.int .i64 b0_1), (.int .i64 b0_2), (.int .i64 b0_3), (.int .i64 b0_4)])], 1⟩ => some (r, b0_0, b0_1, b0_2, b0_3, b0_4)
  | _ => none
noncomputable def outOf : Bool × ByteArray × Int × Int × Int × Int → Out El := fun (r, b0_0, b0_1, b0_2, b0_3, b0_4) => ⟨(.bool r), [(0, .box 114 [(.str b0_0), (.int .i64 b0_1), (.int .i64 b0_2), (.int .i64 b0_3), (.int .i64 b0_4)])], 1⟩
noncomputable def entry (k : Nat) : Entry El := ⟨[.frz 114, .ref], 1, specOf decA (F k) outOf⟩
theorem ok (k : Nat) : FnOK Go.Proofs.Tryd.prog 166 1 (specOf decA (F k) outOf) := fnOK_of (fn := Go.Proofs.Tryd.f166) (c := (Go.Proofs.Tryd.f166.body).getD .skip) (by kernel_rfl) (by kernel_rfl) (envOK _ k) (by kernel_rfl) k [.any] (nt := 9) (by kernel_rfl) (rs := [.tmp 4]) (by kernel_rfl) decA (F k) dec outOf
  (by intro out y h; unfold dec at h; split at h <;> cases h; rfl)
  (by intro ds objs next a h; obtain ⟨rfl, rfl, rfl⟩ := decS_eq (stc := inS) (fun x => by kernel_rfl) h; obtain ⟨a0, b0_0, b0_1_0, b0_1_1, b0_3, b0_4⟩ := a; kernel_rfl)
theorem enter : ∀ args w, (callFunc 166 args).run Go.Proofs.Tryd.prog w = .ok (.enter 166 args) w := fun _ _ => by kernel_rfl
end Fn.f166_167

namespace Fn.f168
noncomputable def tab (k : Nat) : Tab El := [(90, 0, Fn.f90.entry k)]
noncomputable def env (R : Type) (k : Nat) : Env El R := envOf Go.Proofs.Tryd.prog (tab k) R (fun r => match r with | _ => false) (fun b => match b with | _ => fun _ => none) (fun b e => match b, e with | _, _ => fun _ => none)
theorem tabOK (k : Nat) : TabOK Go.Proofs.Tryd.prog (tab k) := TabOK.cons (Fn.f90.ok k) Fn.f90.enter (TabOK.nil)
theorem envOK (R : Type) (k : Nat) : EnvOK 0 (env R k) := envOf_ok (by kernel_rfl) (tabOK k) (by intro b; show WOK 0 (match b with | _ => fun _ => none); split <;> first | exact word_ok _ _ _ | exact vword_ok (word_ok _ _ _) | exact none_ok _) (by intro b e; show WOK 0 (match b, e with | _, _ => fun _ => none); split <;> first | exact word_ok _ _ _ | exact none_ok _)
noncomputable def F (k : Nat) : Int × Int → Option (Bool) := fun (a0_0, a0_1) => Option.bind (Fn.f90.F k (a0_0, 0, a0_1)) fun y0 => cond y0 (some (Decidable.decide (a0_1 ≤ 127))) (some Bool.false)
noncomputable def inH : SS := ⟨[(.o (.agg [(.int .i64), (.int .i64)]))], [], 0⟩
noncomputable def inS : Int × Int → St El := fun (a0_0, a0_1) => ⟨[(.agg [(.int .i64 a0_0), (.int .i64 a0_1)])], [], 0⟩
noncomputable def decA : List (D El) → List (Nat × MObj El) → Nat → Option (Int × Int) := decS inH (fun x => (x.1.1.1, x.1.1.2.1))
noncomputable def dec : Out El → Option (Bool)
  | ⟨(.bool r), [], 0⟩ => some r
  | _ => none
noncomputable def outOf : Bool → Out El := fun r => ⟨(.bool r), [], 0⟩
noncomputable def entry (k : Nat) : Entry El := ⟨[.any], 0, specOf decA (F k) outOf⟩
theorem ok (k : Nat) : FnOK Go.Proofs.Tryd.prog 168 0 (specOf decA (F k) outOf) := fnOK_of (fn := Go.Proofs.Tryd.f168) (c := (Go.Proofs.Tryd.f168.body).getD .skip) (by kernel_rfl) (by kernel_rfl) (envOK _ k) (by kernel_rfl) k [.any] (nt := 13) (by kernel_rfl) (rs := [.tmp 2]) (by kernel_rfl) decA (F k) dec outOf
  (by intro out y h; unfold dec at h; split at h <;> cases h; rfl)
  (by intro ds objs next a h; obtain ⟨rfl, rfl, rfl⟩ := decS_eq (stc := inS) (fun x => by kernel_rfl) h; obtain ⟨a0_0, a0_1⟩ := a; kernel_rfl)
theorem enter : ∀ args w, (callFunc 168 args).run Go.Proofs.Tryd.prog w = .ok (.enter 168 args) w := fun _ _ => by kernel_rfl
end Fn.f168

namespace Fn.f133
noncomputable def l0H : SS := ⟨[(.o (.c (.frz 114))), (.o (.c .dead)), (.o (.c .dead)), (.o (.c .dead)), (.o (.c .dead)), (.o (.c .dead)), (.o (.c .dead)), (.o (.c .dead)), (.o (.c (.frz 114))), (.o (.c (.int .i64))), (.o (.c (.int .i64))), (.o (.c .dead)), (.o (.c .dead)), (.o (.c .dead)), (.o (.c .dead)), (.o (.c .dead)), (.o (.c .dead)), (.o (.c .dead)), (.o (.c .dead)), (.o (.c .dead)), (.o (.c .dead)), (.o (.c .dead)), (.o (.c .dead)), (.o (.c .dead)), (.o (.c .dead)), (.o (.c .dead)), (.o (.c .dead)), (.o (.c .dead)), (.o (.c .dead)), (.o (.c .dead)), (.o (.c .dead)), (.o (.c .dead)), (.o (.c .dead)), (.o (.c .dead)), (.o (.c .dead)), (.o (.c .dead)), (.o (.c .dead)), (.o (.c .dead)), (.o (.c .dead)), (.o (.c .dead)), (.o (.c .dead)), (.o (.c .dead)), (.o (.c .dead)), (.o (.c .dead)), (.o (.c .dead))], [], 0⟩
noncomputable def l0V : St El → Option (List T.E114 × List T.E114 × Int × Int) := viewS l0H (fun x => (x.1.1, x.1.2.2.2.2.2.2.2.2.1, x.1.2.2.2.2.2.2.2.2.2.1, x.1.2.2.2.2.2.2.2.2.2.2.1))
noncomputable def l0S : List T.E114 × List T.E114 × Int × Int → St El := fun (t0, t8, t9, t10) => ⟨(.frz 114 t0) :: .dead :: .dead :: .dead :: .dead :: .dead :: .dead :: .dead :: (.frz 114 t8) :: (.int .i64 t9) :: (.int .i64 t10) :: .dead :: .dead :: .dead :: .dead :: .dead :: .dead :: .dead :: .dead :: .dead :: .dead :: .dead :: .dead :: .dead :: .dead :: .dead :: .dead :: .dead :: .dead :: .dead :: .dead :: .dead :: .dead :: .dead :: .dead :: .dead :: .dead :: .dead :: .dead :: .dead :: .dead :: .dead :: .dead :: .dead :: .dead :: [], [], 0⟩
noncomputable def l0Xret : Int → St El := fun t2 => ⟨.dead :: .dead :: (.int .i64 t2) :: .dead :: .dead :: .dead :: .dead :: .dead :: .dead :: .dead :: .dead :: .dead :: .dead :: .dead :: .dead :: .dead :: .dead :: .dead :: .dead :: .dead :: .dead :: .dead :: .dead :: .dead :: .dead :: .dead :: .dead :: .dead :: .dead :: .dead :: .dead :: .dead :: .dead :: .dead :: .dead :: .dead :: .dead :: .dead :: .dead :: .dead :: .dead :: .dead :: .dead :: .dead :: .dead :: [], [], 0⟩
noncomputable def l0Xexit0 : Unit → St El := fun () => ⟨.dead :: .dead :: .dead :: .dead :: .dead :: .dead :: .dead :: .dead :: .dead :: .dead :: .dead :: .dead :: .dead :: .dead :: .dead :: .dead :: .dead :: .dead :: .dead :: .dead :: .dead :: .dead :: .dead :: .dead :: .dead :: .dead :: .dead :: .dead :: .dead :: .dead :: .dead :: .dead :: .dead :: .dead :: .dead :: .dead :: .dead :: .dead :: .dead :: .dead :: .dead :: .dead :: .dead :: .dead :: .dead :: [], [], 0⟩
noncomputable def l100011H : SS := ⟨[(.o (.c (.frz 114))), (.o (.c .dead)), (.o (.c .dead)), (.o (.c .dead)), (.o (.c .dead)), (.o (.c .dead)), (.o (.c .dead)), (.o (.c .dead)), (.o (.c (.frz 114))), (.o (.c (.int .i64))), (.o (.c (.int .i64))), (.o (.c .dead)), (.o (.c .dead)), (.o (.c .dead)), (.o (.c .dead)), (.o (.c .dead)), (.o (.c .dead)), (.o (.c .dead)), (.o (.c .dead)), (.o (.c .dead)), (.o (.c .dead)), (.o (.c .dead)), (.o (.c .dead)), (.o (.c .dead)), (.o (.c .dead)), (.o (.c .dead)), (.o (.c .bool)), (.o (.c .dead)), (.o (.c .dead)), (.o (.c .dead)), (.o (.c .dead)), (.o (.c .dead)), (.o (.c .dead)), (.o (.c .dead)), (.o (.c .dead)), (.o (.c .dead)), (.o (.c .dead)), (.o (.c .dead)), (.o (.c .dead)), (.o (.c .dead)), (.o (.c .dead)), (.o (.c .dead)), (.o (.c .dead)), (.o (.c .dead)), (.o (.c .dead))], [], 0⟩
noncomputable def l100011V : St El → Option (List T.E114 × List T.E114 × Int × Int × Bool) := viewS l100011H (fun x => (x.1.1, x.1.2.2.2.2.2.2.2.2.1, x.1.2.2.2.2.2.2.2.2.2.1, x.1.2.2.2.2.2.2.2.2.2.2.1, x.1.2.2.2.2.2.2.2.2.2.2.2.2.2.2.2.2.2.2.2.2.2.2.2.2.2.2.1))
noncomputable def l100011S : List T.E114 × List T.E114 × Int × Int × Bool → St El := fun (t0, t8, t9, t10, t26) => ⟨(.frz 114 t0) :: .dead :: .dead :: .dead :: .dead :: .dead :: .dead :: .dead :: (.frz 114 t8) :: (.int .i64 t9) :: (.int .i64 t10) :: .dead :: .dead :: .dead :: .dead :: .dead :: .dead :: .dead :: .dead :: .dead :: .dead :: .dead :: .dead :: .dead :: .dead :: .dead :: (.bool t26) :: .dead :: .dead :: .dead :: .dead :: .dead :: .dead :: .dead :: .dead :: .dead :: .dead :: .dead :: .dead :: .dead :: .dead :: .dead :: .dead :: .dead :: .dead :: [], [], 0⟩
noncomputable def l100011Xret : Int → St El := fun t2 => ⟨.dead :: .dead :: (.int .i64 t2) :: .dead :: .dead :: .dead :: .dead :: .dead :: .dead :: .dead :: .dead :: .dead :: .dead :: .dead :: .dead :: .dead :: .dead :: .dead :: .dead :: .dead :: .dead :: .dead :: .dead :: .dead :: .dead :: .dead :: .dead :: .dead :: .dead :: .dead :: .dead :: .dead :: .dead :: .dead :: .dead :: .dead :: .dead :: .dead :: .dead :: .dead :: .dead :: .dead :: .dead :: .dead :: .dead :: [], [], 0⟩
noncomputable def l100011Xnorm : List T.E114 × List T.E114 × Int × Int → St El := fun (t0, t8, t9, t10) => ⟨(.frz 114 t0) :: .dead :: .dead :: .dead :: .dead :: .dead :: .dead :: .dead :: (.frz 114 t8) :: (.int .i64 t9) :: (.int .i64 t10) :: .dead :: .dead :: .dead :: .dead :: .dead :: .dead :: .dead :: .dead :: .dead :: .dead :: .dead :: .dead :: .dead :: .dead :: .dead :: .dead :: .dead :: .dead :: .dead :: .dead :: .dead :: .dead :: .dead :: .dead :: .dead :: .dead :: .dead :: .dead :: .dead :: .dead :: .dead :: .dead :: .dead :: .dead :: [], [], 0⟩
noncomputable def tab (k : Nat) : Tab El := [(89, 0, Fn.f89.entry k), (90, 0, Fn.f90.entry k), (166, 168, Fn.f166_167.entry k), (167, 0, Fn.f167.entry k), (168, 0, Fn.f168.entry k)]
noncomputable def env (R : Type) (k : Nat) : Env El R := envOf Go.Proofs.Tryd.prog (tab k) R (fun r => match r with | 11 => true | _ => false) (fun b => match b with | 100011 => vword l100011V (word 0 [] (kept [0, 8, 9, 10, 26] 0 45)) | 0 => word 0 [] (kept [0, 8, 9, 10] 0 45) | _ => fun _ => none) (fun b e => match b, e with | 100011, .exit 2 => word 0 [] (kept [0, 8, 9, 10] 0 45) | 100011, .exit 1 => word 0 [] (kept [0, 8, 9, 10] 0 45) | 100011, .exit 0 => word 0 [] (kept [] 0 45) | 100011, .ret => word 0 [] (kept [2] 0 45) | 100011, .norm => word 0 [] (kept [0, 8, 9, 10] 0 45) | 0, .exit 0 => word 0 [] (kept [] 0 45) | 0, .ret => word 0 [] (kept [2] 0 45) | _, _ => fun _ => none)
theorem tabOK (k : Nat) : TabOK Go.Proofs.Tryd.prog (tab k) := TabOK.cons (Fn.f89.ok k) Fn.f89.enter (TabOK.cons (Fn.f90.ok k) Fn.f90.enter (TabOK.cons (Fn.f166_167.ok k) Fn.f166_167.enter (TabOK.cons (Fn.f167.ok k) Fn.f167.enter (TabOK.cons (Fn.f168.ok k) Fn.f168.enter (TabOK.nil)))))
theorem envOK (R : Type) (k : Nat) : EnvOK 0 (env R k) := envOf_ok (by kernel_rfl) (tabOK k) (by intro b; show WOK 0 (match b with | 100011 => vword l100011V (word 0 [] (kept [0, 8, 9, 10, 26] 0 45)) | 0 => word 0 [] (kept [0, 8, 9, 10] 0 45) | _ => fun _ => none); split <;> first | exact word_ok _ _ _ | exact vword_ok (word_ok _ _ _) | exact none_ok _) (by intro b e; show WOK 0 (match b, e with | 100011, .exit 2 => word 0 [] (kept [0, 8, 9, 10] 0 45) | 100011, .exit 1 => word 0 [] (kept [0, 8, 9, 10] 0 45) | 100011, .exit 0 => word 0 [] (kept [] 0 45) | 100011, .ret => word 0 [] (kept [2] 0 45) | 100011, .norm => word 0 [] (kept [0, 8, 9, 10] 0 45) | 0, .exit 0 => word 0 [] (kept [] 0 45) | 0, .ret => word 0 [] (kept [2] 0 45) | _, _ => fun _ => none); split <;> first | exact word_ok _ _ _ | exact none_ok _)
noncomputable def l100011 {R : Type} (k : Nat) (ret : Int → Option R) (norm : List T.E114 × List T.E114 × Int × Int → Option R) : List T.E114 × List T.E114 × Int × Int × Bool → Option R := fun (t0, t8, t9, t10, t26) => cond t26 (ret 1) (norm (t0, t8, t9, t10))
noncomputable def l0T {R : Type} (k : Nat) (ret : Int → Option R) (exit0 : Unit → Option R) (G : List T.E114 × List T.E114 × Int × Int → Option R) : List T.E114 × List T.E114 × Int × Int → Option R := fun (t0, t8, t9, t10) => cond (Decidable.decide (t10 < t9)) (if (0 ≤ t10) then (if (t10 < (↑(List.length t8) : Int)) then (Option.bind (t8[Int.toNat t10]?) fun y2 => Option.bind (Fn.f89.F k (T.E114.f0 y2)) fun y3 => cond (!y3) (ret 5) (if (0 ≤ t10) then (if (t10 ≤ (↑(List.length t0) : Int)) then (Option.bind (Fn.f166_167.F k (Go.M.msub t0 Option.none (Option.some t10), T.E114.f0 y2, T.E114.f1 y2, T.E114.f2 y2, T.E114.f3 y2, T.E114.f4 y2)) fun y6 => cond y6.1 (ret 6) (Option.bind (Fn.f168.F k (y6.2.2.1, y6.2.2.2.1)) fun y7 => cond (!y7) (l100011 k (fun t2 => ret t2) (fun (t0, t8, t9, t10) => G (t0, t8, t9, (Go.IntKind.wrap Go.IntKind.i64 (t10 + 1)))) (t0, t8, t9, t10, Bool.true)) (Option.bind (Fn.f90.F k (y6.2.2.2.2.1, 0, y6.2.2.2.2.2)) fun y8 => cond (!y8) (l100011 k (fun t2 => ret t2) (fun (t0, t8, t9, t10) => G (t0, t8, t9, (Go.IntKind.wrap Go.IntKind.i64 (t10 + 1)))) (t0, t8, t9, t10, Bool.true)) (l100011 k (fun t2 => ret t2) (fun (t0, t8, t9, t10) => G (t0, t8, t9, (Go.IntKind.wrap Go.IntKind.i64 (t10 + 1)))) (t0, t8, t9, t10, (Decidable.decide (y6.2.2.2.2.2 > 100))))))) else (none)) else (none))) else (none)) else (none)) (exit0 ())
noncomputable def l0 {R : Type} (k : Nat) (ret : Int → Option R) (exit0 : Unit → Option R) : Nat → List T.E114 × List T.E114 × Int × Int → Option R
  | 0, _ => none
  | n + 1, p => l0T k ret exit0 (l0 k ret exit0 n) p
noncomputable def F (k : Nat) : List T.E114 → Option (Int) := fun a0 => cond (Decidable.decide ((↑(List.length a0) : Int) > 12)) (some 2) (l0 k (fun t2 => some t2) (fun () => some 0) k (a0, a0, ((↑(List.length a0) : Int)), 0))
noncomputable def inH : SS := ⟨[(.o (.c (.frz 114)))], [], 0⟩
noncomputable def inS : List T.E114 → St El := fun a0 => ⟨[(.frz 114 a0)], [], 0⟩
noncomputable def decA : List (D El) → List (Nat × MObj El) → Nat → Option (List T.E114) := decS inH (fun x => x.1.1)
noncomputable def dec : Out El → Option (Int)
  | ⟨(.int .i64 r), [], 0⟩ => some r
  | _ => none
noncomputable def outOf : Int → Out El := fun r => ⟨(.int .i64 r), [], 0⟩
noncomputable def L (R : Type) (k : Nat) : LE El R := fun b x K st => match b with
  | 100011 => jell (env R k) k 2 100011 l100011V (fun K p => l100011 k (fun q => K (.ret) (l100011Xret q)) (fun q => K (.norm) (l100011Xnorm q)) p) x K st
  | 0 => ell (env R k) k 0 l0V (fun K n p => l0 k (fun q => K (.ret) (l0Xret q)) (fun q => K (.exit 0) (l0Xexit0 q)) n p) x K st
  | b => mexec (env R k) k b (.loop x) K st
theorem told100011L (R : Type) (k : Nat) : Told (L R k) (env R k) k 2 (joinIn Go.Proofs.Tryd.f133 11) = [] := by kernel_rfl
theorem told100011 (R : Type) (k : Nat) : ∀ K st, mexec (env R k) k 2 (joinIn Go.Proofs.Tryd.f133 11) (Env.wrap (env R k) 100011 K) st = L R k 100011 (joinIn Go.Proofs.Tryd.f133 11) K st := jell_eq (lk := fun K p => l100011 k (fun q => K (.ret) (l100011Xret q)) (fun q => K (.norm) (l100011Xnorm q)) p) l100011S (viewS_eq (fun x => by kernel_rfl)) (by
  rintro K ⟨t0, t8, t9, t10, t26⟩
  refine (mexecG_eq (L := L R k) _ (by rw [told100011L]; exact trivial) _ _).trans ?_
  kernel_rfl)
theorem told0L (R : Type) (k : Nat) : Told (L R k) (env R k) k 0 (loopIn Go.Proofs.Tryd.f133 0) = [∀ K st, mexec (env R k) k 2 (joinIn Go.Proofs.Tryd.f133 11) (Env.wrap (env R k) 100011 K) st = L R k 100011 (joinIn Go.Proofs.Tryd.f133 11) K st] := by kernel_rfl
theorem told0 (R : Type) (k : Nat) : ∀ K st, mexec (env R k) k 0 (.loop (loopIn Go.Proofs.Tryd.f133 0)) K st = L R k 0 (loopIn Go.Proofs.Tryd.f133 0) K st := ell_eq l0S (viewS_eq (fun x => by kernel_rfl)) (fun K G p => l0T k (fun q => K (.ret) (l0Xret q)) (fun q => K (.exit 0) (l0Xexit0 q)) G p) (fun _ _ => rfl) (fun _ _ _ => rfl) (by
  rintro K G ⟨t0, t8, t9, t10⟩
  refine (round_eq (L := L R k) (by rw [told0L]; exact ⟨told100011 R k, trivial⟩) _ _ _).trans ?_
  kernel_rfl)
theorem told (R : Type) (k : Nat) : Told (L R k) (env R k) k 0 ((Go.Proofs.Tryd.f133.body).getD .skip) = [∀ K st, mexec (env R k) k 0 (.loop (loopIn Go.Proofs.Tryd.f133 0)) K st = L R k 0 (loopIn Go.Proofs.Tryd.f133 0) K st] := by kernel_rfl
theorem run (k : Nat) (R : Type) (dec : Out El → Option R) st : mexec (env R k) k 0 ((Go.Proofs.Tryd.f133.body).getD .skip) (mend Go.Proofs.Tryd.prog [.tmp 2] [.any] 0 dec) st = mexecG (L R k) (env R k) 0 ((Go.Proofs.Tryd.f133.body).getD .skip) (mend Go.Proofs.Tryd.prog [.tmp 2] [.any] 0 dec) st := mexecG_eq _ (by rw [told]; exact ⟨told0 R k, trivial⟩) _ _
noncomputable def entry (k : Nat) : Entry El := ⟨[.frz 114], 0, specOf decA (F k) outOf⟩
theorem ok (k : Nat) : FnOK Go.Proofs.Tryd.prog 133 0 (specOf decA (F k) outOf) := fnOK_of (fn := Go.Proofs.Tryd.f133) (c := (Go.Proofs.Tryd.f133.body).getD .skip) (by kernel_rfl) (by kernel_rfl) (envOK _ k) (by kernel_rfl) k [.any] (nt := 45) (by kernel_rfl) (rs := [.tmp 2]) (by kernel_rfl) decA (F k) dec outOf
  (by intro out y h; unfold dec at h; split at h <;> cases h; rfl)
  (by intro ds objs next a h; obtain ⟨rfl, rfl, rfl⟩ := decS_eq (stc := inS) (fun x => by kernel_rfl) h; exact (run k _ dec _).trans (by kernel_rfl))
theorem enter : ∀ args w, (callFunc 133 args).run Go.Proofs.Tryd.prog w = .ok (.enter 133 args) w := fun _ _ => by kernel_rfl
end Fn.f133

namespace Fn.f70
noncomputable def l0H : SS := ⟨[(.o (.c (.ptr0 0 0))), (.o (.c .dead)), (.o (.c .dead)), (.o (.c .dead)), (.o (.c (.int .i64))), (.o (.c .dead)), (.o (.c .dead)), (.o (.c .dead)), (.o (.c .dead)), (.o (.c .dead)), (.o (.c .dead)), (.o (.c .dead)), (.o (.c .dead))], [(0, .box 25 [(.frz 3), (.int .i64)])], 1⟩
noncomputable def l0V : St El → Option (Int × List T.E3 × Int) := viewS l0H (fun x => (x.1.2.2.2.2.1, x.2.1.1, x.2.1.2.1))
noncomputable def l0S : Int × List T.E3 × Int → St El := fun (t4, b0_0, b0_1) => ⟨(.ptr 0 0 0 0) :: .dead :: .dead :: .dead :: (.int .i64 t4) :: .dead :: .dead :: .dead :: .dead :: .dead :: .dead :: .dead :: .dead :: [], [(0, .box 25 [(.frz 3 b0_0), (.int .i64 b0_1)])], 1⟩
noncomputable def l0Xret : List T.E114 × List T.E3 × Int → St El := fun (t2, b0_0, b0_1) => ⟨.dead :: .dead :: (.frz 114 t2) :: .dead :: .dead :: .dead :: .dead :: .dead :: .dead :: .dead :: .dead :: .dead :: .dead :: [], [(0, .box 25 [(.frz 3 b0_0), (.int .i64 b0_1)])], 1⟩
noncomputable def l0Xexit0 : List T.E3 × Int → St El := fun (b0_0, b0_1) => ⟨.dead :: .dead :: .dead :: .dead :: .dead :: .dead :: .dead :: .dead :: .dead :: .dead :: .dead :: .dead :: .dead :: [], [(0, .box 25 [(.frz 3 b0_0), (.int .i64 b0_1)])], 1⟩
noncomputable def tab (k : Nat) : Tab El := [(132, 0, Fn.f132.entry k), (133, 0, Fn.f133.entry k)]
noncomputable def env (R : Type) (k : Nat) : Env El R := envOf Go.Proofs.Tryd.prog (tab k) R (fun r => match r with | _ => false) (fun b => match b with | 0 => word 1 [] (kept [0, 4] 0 13) | _ => fun _ => none) (fun b e => match b, e with | 0, .exit 0 => word 1 [] (kept [] 0 13) | 0, .ret => word 1 [] (kept [2] 0 13) | _, _ => fun _ => none)
theorem tabOK (k : Nat) : TabOK Go.Proofs.Tryd.prog (tab k) := TabOK.cons (Fn.f132.ok k) Fn.f132.enter (TabOK.cons (Fn.f133.ok k) Fn.f133.enter (TabOK.nil))
theorem envOK (R : Type) (k : Nat) : EnvOK 1 (env R k) := envOf_ok (by kernel_rfl) (tabOK k) (by intro b; show WOK 1 (match b with | 0 => word 1 [] (kept [0, 4] 0 13) | _ => fun _ => none); split <;> first | exact word_ok _ _ _ | exact vword_ok (word_ok _ _ _) | exact none_ok _) (by intro b e; show WOK 1 (match b, e with | 0, .exit 0 => word 1 [] (kept [] 0 13) | 0, .ret => word 1 [] (kept [2] 0 13) | _, _ => fun _ => none); split <;> first | exact word_ok _ _ _ | exact none_ok _)
noncomputable def l0T {R : Type} (k : Nat) (ret : List T.E114 × List T.E3 × Int → Option R) (exit0 : List T.E3 × Int → Option R) (G : Int × List T.E3 × Int → Option R) : Int × List T.E3 × Int → Option R := fun (t4, b0_0, b0_1) => cond (Decidable.decide (t4 < 6)) (Option.bind (Fn.f132.F k (b0_0, b0_1)) fun y0 => Option.bind (Fn.f133.F k y0.1) fun y1 => cond (y1 == 0) (ret (y0.1, y0.2.1, y0.2.2)) (G ((Go.IntKind.wrap Go.IntKind.i64 (t4 + 1)), y0.2.1, y0.2.2))) (exit0 (b0_0, b0_1))
noncomputable def l0 {R : Type} (k : Nat) (ret : List T.E114 × List T.E3 × Int → Option R) (exit0 : List T.E3 × Int → Option R) : Nat → Int × List T.E3 × Int → Option R
  | 0, _ => none
  | n + 1, p => l0T k ret exit0 (l0 k ret exit0 n) p
noncomputable def F (k : Nat) : List T.E3 × Int → Option (List T.E114 × List T.E3 × Int) := fun (b0_0, b0_1) => l0 k (fun (t2, b0_0, b0_1) => some (t2, b0_0, b0_1)) (fun (b0_0, b0_1) => some ([], b0_0, b0_1)) k (0, b0_0, b0_1)
noncomputable def inH : SS := ⟨[(.o (.c (.ptr0 0 0)))], [(0, .box 25 [(.frz 3), (.int .i64)])], 1⟩
noncomputable def inS : List T.E3 × Int → St El := fun (b0_0, b0_1) => ⟨[(.ptr 0 0 0 0)], [(0, .box 25 [(.frz 3 b0_0), (.int .i64 b0_1)])], 1⟩
noncomputable def decA : List (D El) → List (Nat × MObj El) → Nat → Option (List T.E3 × Int) := decS inH (fun x => (x.2.1.1, x.2.1.2.1))
noncomputable def dec : Out El → Option (List T.E114 × List T.E3 × Int)
  | ⟨(.frz 114 r), [(0, .box 25 [(.frz 3 b0_0), (.int .i64 b0_1)])], 1⟩ => some (r, b0_0, b0_1)
  | _ => none
noncomputable def outOf : List T.E114 × List T.E3 × Int → Out El := fun (r, b0_0, b0_1) => ⟨(.frz 114 r), [(0, .box 25 [(.frz 3 b0_0), (.int .i64 b0_1)])], 1⟩
noncomputable def L (R : Type) (k : Nat) : LE El R := fun b x K st => match b with
  | 0 => ell (env R k) k 0 l0V (fun K n p => l0 k (fun q => K (.ret) (l0Xret q)) (fun q => K (.exit 0) (l0Xexit0 q)) n p) x K st
  | b => mexec (env R k) k b (.loop x) K st
theorem told0L (R : Type) (k : Nat) : Told (L R k) (env R k) k 0 (loopIn Go.Proofs.Tryd.f70 0) = [] := by kernel_rfl
theorem told0 (R : Type) (k : Nat) : ∀ K st, mexec (env R k) k 0 (.loop (loopIn Go.Proofs.Tryd.f70 0)) K st = L R k 0 (loopIn Go.Proofs.Tryd.f70 0) K st := ell_eq l0S (viewS_eq (fun x => by kernel_rfl)) (fun K G p => l0T k (fun q => K (.ret) (l0Xret q)) (fun q => K (.exit 0) (l0Xexit0 q)) G p) (fun _ _ => rfl) (fun _ _ _ => rfl) (by
  rintro K G ⟨t4, b0_0, b0_1⟩
  refine (round_eq (L := L R k) (by rw [told0L]; exact trivial) _ _ _).trans ?_
  kernel_rfl)
theorem told (R : Type) (k : Nat) : Told (L R k) (env R k) k 0 ((Go.Proofs.Tryd.f70.body).getD .skip) = [∀ K st, mexec (env R k) k 0 (.loop (loopIn Go.Proofs.Tryd.f70 0)) K st = L R k 0 (loopIn Go.Proofs.Tryd.f70 0) K st] := by kernel_rfl
theorem run (k : Nat) (R : Type) (dec : Out El → Option R) st : mexec (env R k) k 0 ((Go.Proofs.Tryd.f70.body).getD .skip) (mend Go.Proofs.Tryd.prog [.tmp 2] [.frz 114] 1 dec) st = mexecG (L R k) (env R k) 0 ((Go.Proofs.Tryd.f70.body).getD .skip) (mend Go.Proofs.Tryd.prog [.tmp 2] [.frz 114] 1 dec) st := mexecG_eq _ (by rw [told]; exact ⟨told0 R k, trivial⟩) _ _
noncomputable def entry (k : Nat) : Entry El := ⟨[.ref], 1, specOf decA (F k) outOf⟩
theorem ok (k : Nat) : FnOK Go.Proofs.Tryd.prog 70 1 (specOf decA (F k) outOf) := fnOK_of (fn := Go.Proofs.Tryd.f70) (c := (Go.Proofs.Tryd.f70.body).getD .skip) (by kernel_rfl) (by kernel_rfl) (envOK _ k) (by kernel_rfl) k [.frz 114] (nt := 13) (by kernel_rfl) (rs := [.tmp 2]) (by kernel_rfl) decA (F k) dec outOf
  (by intro out y h; unfold dec at h; split at h <;> cases h; rfl)
  (by intro ds objs next a h; obtain ⟨rfl, rfl, rfl⟩ := decS_eq (stc := inS) (fun x => by kernel_rfl) h; obtain ⟨b0_0, b0_1⟩ := a; exact (run k _ dec _).trans (by kernel_rfl))
theorem enter : ∀ args w, (callFunc 70 args).run Go.Proofs.Tryd.prog w = .ok (.enter 70 args) w := fun _ _ => by kernel_rfl
end Fn.f70

namespace Fn.f136
noncomputable def tab (k : Nat) : Tab El := [(74, 0, Fn.f74.entry k)]
noncomputable def env (R : Type) (k : Nat) : Env El R := envOf Go.Proofs.Tryd.prog (tab k) R (fun r => match r with | _ => false) (fun b => match b with | _ => fun _ => none) (fun b e => match b, e with | _, _ => fun _ => none)
theorem tabOK (k : Nat) : TabOK Go.Proofs.Tryd.prog (tab k) := TabOK.cons (Fn.f74.ok k) Fn.f74.enter (TabOK.nil)
theorem envOK (R : Type) (k : Nat) : EnvOK 0 (env R k) := envOf_ok (by kernel_rfl) (tabOK k) (by intro b; show WOK 0 (match b with | _ => fun _ => none); split <;> first | exact word_ok _ _ _ | exact vword_ok (word_ok _ _ _) | exact none_ok _) (by intro b e; show WOK 0 (match b, e with | _, _ => fun _ => none); split <;> first | exact word_ok _ _ _ | exact none_ok _)
noncomputable def F (k : Nat) : Int × Int → Option (Bool) := fun (a0_0, a0_1) => Option.bind (Fn.f74.F k (a0_0, 0, a0_1)) fun y0 => cond (!y0) (some (Decidable.decide (a0_1 ≤ 127))) (some Bool.false)
noncomputable def inH : SS := ⟨[(.o (.agg [(.int .i64), (.int .i64)]))], [], 0⟩
noncomputable def inS : Int × Int → St El := fun (a0_0, a0_1) => ⟨[(.agg [(.int .i64 a0_0), (.int .i64 a0_1)])], [], 0⟩
noncomputable def decA : List (D El) → List (Nat × MObj El) → Nat → Option (Int × Int) := decS inH (fun x => (x.1.1.1, x.1.1.2.1))
noncomputable def dec : Out El → Option (Bool)
  | ⟨(.bool r), [], 0⟩ => some r
  | _ => none
noncomputable def outOf : Bool → Out El := fun r => ⟨(.bool r), [], 0⟩
noncomputable def entry (k : Nat) : Entry El := ⟨[.any], 0, specOf decA (F k) outOf⟩
theorem ok (k : Nat) : FnOK Go.Proofs.Tryd.prog 136 0 (specOf decA (F k) outOf) := fnOK_of (fn := Go.Proofs.Tryd.f136) (c := (Go.Proofs.Tryd.f136.body).getD .skip) (by kernel_rfl) (by kernel_rfl) (envOK _ k) (by kernel_rfl) k [.any] (nt := 14) (by kernel_rfl) (rs := [.tmp 2]) (by kernel_rfl) decA (F k) dec outOf
  (by intro out y h; unfold dec at h; split at h <;> cases h; rfl)
  (by intro ds objs next a h; obtain ⟨rfl, rfl, rfl⟩ := decS_eq (stc := inS) (fun x => by kernel_rfl) h; obtain ⟨a0_0, a0_1⟩ := a; kernel_rfl)
theorem enter : ∀ args w, (callFunc 136 args).run Go.Proofs.Tryd.prog w = .ok (.enter 136 args) w := fun _ _ => by kernel_rfl
end Fn.f136

namespace Fn.f169
noncomputable def tab (k : Nat) : Tab El := []
noncomputable def env (R : Type) (k : Nat) : Env El R := envOf Go.Proofs.Tryd.prog (tab k) R (fun r => match r with | _ => false) (fun b => match b with | _ => fun _ => none) (fun b e => match b, e with | _, _ => fun _ => none)
theorem tabOK (k : Nat) : TabOK Go.Proofs.Tryd.prog (tab k) := TabOK.nil
theorem envOK (R : Type) (k : Nat) : EnvOK 1 (env R k) := envOf_ok (by kernel_rfl) (tabOK k) (by intro b; show WOK 1 (match b with | _ => fun _ => none); split <;> first | exact word_ok _ _ _ | exact vword_ok (word_ok _ _ _) | exact none_ok _) (by intro b e; show WOK 1 (match b, e with | _, _ => fun _ => none); split <;> first | exact word_ok _ _ _ | exact none_ok _)
noncomputable def F (k : Nat) : ByteArray × Int × Int × Int × Int × ByteArray × Int × Int × Int × Int → Option (Bool × ByteArray × Int × Int × Int × Int) := fun (a0_0, a0_1_0, a0_1_1, a0_3, a0_4, b0_0, b0_1_0, b0_1_1, b0_3, b0_4) => some ((ByteArray.toList a0_0 == ByteArray.toList b0_0), b0_0, b0_1_0, b0_1_1, b0_3, b0_4)
noncomputable def inH : SS := ⟨[(.o (.agg [.str, (.int .i64), (.int .i64), (.int .i64), (.int .i64)])), (.o (.c (.ptr0 0 0)))], [(0, .box 114 [.str, (.int .i64), (.int .i64), (.int .i64), (.int .i64)])], 1⟩
noncomputable def inS : ByteArray × Int × Int × Int × Int × ByteArray × Int × Int × Int × Int → St El := fun (a0_0, a0_1_0, a0_1_1, a0_3, a0_4, b0_0, b0_1_0, b0_1_1, b0_3, b0_4) => ⟨[(.agg [(.str a0_0), (.int .i64 a0_1_0), (.int .i64 a0_1_1), (.int .i64 a0_3), (.int .i64 a0_4)]), (.ptr 0 0 0 0)], [(0, .box 114 [(.str b0_0), (.int .i64 b0_1_0), (.int .i64 b0_1_1), (.int .i64 b0_3), (.int .i64 b0_4)])], 1⟩
noncomputable def decA : List (D El) → List (Nat × MObj El) → Nat → Option (ByteArray × Int × Int × Int × Int × ByteArray × Int × Int × Int × Int) := decS inH (fun x => (x.1.1.1, x.1.1.2.1, x.1.1.2.2.1, x.1.1.2.2.2.1, x.1.1.2.2.2.2.1, x.2.1.1, x.2.1.2.1, x.2.1.2.2.1, x.2.1.2.2.2.1, x.2.1.2.2.2.2.1))
noncomputable def dec : Out El → Option (Bool × ByteArray × Int × Int × Int × Int)
  | ⟨(.bool r), [(0, .box 114 [(.str b0_0), (.int .i64 b0_1), (.int .i64 b0_2), (.int .i64 b0_3), (.int .i64 b0_4)])], 1⟩ => some (r, b0_0, b0_1, b0_2, b0_3, b0_4)
  | _ => none
noncomputable def outOf : Bool × ByteArray × Int × Int × Int × Int → Out El := fun (r, b0_0, b0_1, b0_2, b0_3, b0_4) => ⟨(.bool r), [(0, .box 114 [(.str b0_0), (.int .i64 b0_1), (.int .i64 b0_2), (.int .i64 b0_3), (.int .i64 b0_4)])], 1⟩
noncomputable def entry (k : Nat) : Entry El := ⟨[.any, .ref], 1, specOf decA (F k) outOf⟩
theorem ok (k : Nat) : FnOK Go.Proofs.Tryd.prog 169 1 (specOf decA (F k) outOf) := fnOK_of (fn := Go.Proofs.Tryd.f169) (c := (Go.Proofs.Tryd.f169.body).getD .skip) (by kernel_rfl) (by kernel_rfl) (envOK _ k) (by kernel_rfl) k [.any] (nt := 9) (by kernel_rfl) (rs := [.tmp 3]) (by kernel_rfl) decA (F k) dec outOf
  (by intro out y h; unfold dec at h; split at h <;> cases h; rfl)
  (by intro ds objs next a h; obtain ⟨rfl, rfl, rfl⟩ := decS_eq (stc := inS) (fun x => by kernel_rfl) h; obtain ⟨a0_0, a0_1_0, a0_1_1, a0_3, a0_4, b0_0, b0_1_0, b0_1_1, b0_3, b0_4⟩ := a; kernel_rfl)
theorem enter : ∀ args w, (callFunc 169 args).run Go.Proofs.Tryd.prog w = .ok (.enter 169 args) w := fun _ _ => by kernel_rfl
end Fn.f169

namespace Fn.f204_169
noncomputable def l0H : SS := ⟨[(.o (.c (.frz 114))), (.o (.fn 169 [(.ptr0 0 0)])), (.o (.c .dead)), (.o (.c .dead)), (.o (.c .dead)), (.o (.c .dead)), (.o (.c .dead)), (.o (.c (.int .i64))), (.o (.c (.int .i64))), (.o (.c .dead)), (.o (.c .dead)), (.o (.c .dead)), (.o (.c .dead)), (.o (.c .dead)), (.o (.c .dead)), (.o (.c .dead)), (.o (.c .dead)), (.o (.c .dead)), (.o (.c .dead))], [(0, .box 114 [.str, (.int .i64), (.int .i64), (.int .i64), (.int .i64)])], 1⟩
noncomputable def l0V : St El → Option (List T.E114 × Int × Int × ByteArray × Int × Int × Int × Int) := viewS l0H (fun x => (x.1.1, x.1.2.2.2.2.2.2.2.1, x.1.2.2.2.2.2.2.2.2.1, x.2.1.1, x.2.1.2.1, x.2.1.2.2.1, x.2.1.2.2.2.1, x.2.1.2.2.2.2.1))
noncomputable def l0S : List T.E114 × Int × Int × ByteArray × Int × Int × Int × Int → St El := fun (t0, t7, t8, b0_0, b0_1, b0_2, b0_3, b0_4) => ⟨(.frz 114 t0) :: (.fn 169 [(.ptr 0 0 0 0)]) :: .dead :: .dead :: .dead :: .dead :: .dead :: (.int .i64 t7) :: (.int .i64 t8) :: .dead :: .dead :: .dead :: .dead :: .dead :: .dead :: .dead :: .dead :: .dead :: .dead :: [], [(0, .box 114 [(.str b0_0), (.int .i64 b0_1), (.int .i64 b0_2), (.int .i64 b0_3), (.int .i64 b0_4)])], 1⟩
noncomputable def l0Xret : Int × ByteArray × Int × Int × Int × Int → St El := fun (t4, b0_0, b0_1, b0_2, b0_3, b0_4) => ⟨.dead :: .dead :: .dead :: .dead :: (.int .i64 t4) :: .dead :: .dead :: .dead :: .dead :: .dead :: .dead :: .dead :: .dead :: .dead :: .dead :: .dead :: .dead :: .dead :: .dead :: [], [(0, .box 114 [(.str b0_0), (.int .i64 b0_1), (.int .i64 b0_2), (.int .i64 b0_3), (.int .i64 b0_4)])], 1⟩
noncomputable def l0Xexit0 : ByteArray × Int × Int × Int × Int → St El := fun (b0_0, b0_1, b0_2, b0_3, b0_4) => ⟨.dead :: .dead :: .dead :: .dead :: .dead :: .dead :: .dead :: .dead :: .dead :: .dead :: .dead :: .dead :: .dead :: .dead :: .dead :: .dead :: .dead :: .dead :: .dead :: [], [(0, .box 114 [(.str b0_0), (.int .i64 b0_1), (.int .i64 b0_2), (.int .i64 b0_3), (.int .i64 b0_4)])], 1⟩
noncomputable def tab (k : Nat) : Tab El := [(169, 0, Fn.f169.entry k)]
noncomputable def env (R : Type) (k : Nat) : Env El R := envOf Go.Proofs.Tryd.prog (tab k) R (fun r => match r with | _ => false) (fun b => match b with | 0 => word 1 [] (kept [0, 1, 7, 8] 0 19) | _ => fun _ => none) (fun b e => match b, e with | 0, .exit 0 => word 1 [] (kept [] 0 19) | 0, .ret => word 1 [] (kept [4] 0 19) | _, _ => fun _ => none)
theorem tabOK (k : Nat) : TabOK Go.Proofs.Tryd.prog (tab k) := TabOK.cons (Fn.f169.ok k) Fn.f169.enter (TabOK.nil)
theorem envOK (R : Type) (k : Nat) : EnvOK 1 (env R k) := envOf_ok (by kernel_rfl) (tabOK k) (by intro b; show WOK 1 (match b with | 0 => word 1 [] (kept [0, 1, 7, 8] 0 19) | _ => fun _ => none); split <;> first | exact word_ok _ _ _ | exact vword_ok (word_ok _ _ _) | exact none_ok _) (by intro b e; show WOK 1 (match b, e with | 0, .exit 0 => word 1 [] (kept [] 0 19) | 0, .ret => word 1 [] (kept [4] 0 19) | _, _ => fun _ => none); split <;> first | exact word_ok _ _ _ | exact none_ok _)
noncomputable def l0T {R : Type} (k : Nat) (ret : Int × ByteArray × Int × Int × Int × Int → Option R) (exit0 : ByteArray × Int × Int × Int × Int → Option R) (G : List T.E114 × Int × Int × ByteArray × Int × Int × Int × Int → Option R) : List T.E114 × Int × Int × ByteArray × Int × Int × Int × Int → Option R := fun (t0, t7, t8, b0_0, b0_1, b0_2, b0_3, b0_4) => cond (Decidable.decide (t8 < t7)) (if (0 ≤ t8) then (if (t8 < (↑(List.length t0) : Int)) then (Option.bind (t0[Int.toNat t8]?) fun y2 => cond (ByteArray.toList (T.E114.f0 y2) == ByteArray.toList b0_0) (ret (t8, b0_0, b0_1, b0_2, b0_3, b0_4)) (G (t0, t7, (Go.IntKind.wrap Go.IntKind.i64 (t8 + 1)), b0_0, b0_1, b0_2, b0_3, b0_4))) else (none)) else (none)) (exit0 (b0_0, b0_1, b0_2, b0_3, b0_4))
noncomputable def l0 {R : Type} (k : Nat) (ret : Int × ByteArray × Int × Int × Int × Int → Option R) (exit0 : ByteArray × Int × Int × Int × Int → Option R) : Nat → List T.E114 × Int × Int × ByteArray × Int × Int × Int × Int → Option R
  | 0, _ => none
  | n + 1, p => l0T k ret exit0 (l0 k ret exit0 n) p
noncomputable def F (k : Nat) : List T.E114 × ByteArray × Int × Int × Int × Int → Option (Int × ByteArray × Int × Int × Int × Int) := fun (a0, b0_0, b0_1_0, b0_1_1, b0_3, b0_4) => l0 k (fun (t4, b0_0, b0_1, b0_2, b0_3, b0_4) => some (t4, b0_0, b0_1, b0_2, b0_3, b0_4)) (fun (b0_0, b0_1, b0_2, b0_3, b0_4) => some ((-1), b0_0, b0_1, b0_2, b0_3, b0_4)) k (a0, ((↑(List.length a0) : Int)), 0, b0_0, b0_1_0, b0_1_1, b0_3, b0_4)
noncomputable def inH : SS := ⟨[(.o (.c (.frz 114))), (.o (.fn 169 [(.ptr0 0 0)]))], [(0, .box 114 [.str, (.int .i64), (.int .i64), (.int .i64), (.int .i64)])], 1⟩
noncomputable def inS : List T.E114 × ByteArray × Int × Int × Int × Int → St El := fun (a0, b0_0, b0_1_0, b0_1_1, b0_3, b0_4) => ⟨[(.frz 114 a0), (.fn 169 [(.ptr 0 0 0 0)])], [(0, .box 114 [(.str b0_0), (.int .i64 b0_1_0), (.int .i64 b0_1_1), (.int .i64 b0_3), (.int .i64 b0_4)])], 1⟩
noncomputable def decA : List (D El) → List (Nat × MObj El) → Nat → Option (List T.E114 × ByteArray × Int × Int × Int × Int) := decS inH (fun x => (x.1.1, x.2.1.1, x.2.1.2.1, x.2.1.2.2.1, x.2.1.2.2.2.1, x.2.1.2.2.2.2.1))
noncomputable def dec : Out El → Option (Int × ByteArray × Int × Int × Int × Int)
  | ⟨(.int .i64 r), [(0, .box 114 [(.str b0_0), (.int .i64 b0_1), (.int .i64 b0_2), (.int .i64 b0_3), (.int .i64 b0_4)])], 1⟩ => some (r, b0_0, b0_1, b0_2, b0_3, b0_4)
  | _ => none
noncomputable def outOf : Int × ByteArray × Int × Int × Int × Int → Out El := fun (r, b0_0, b0_1, b0_2, b0_3, b0_4) => ⟨(.int .i64 r), [(0, .box 114 [(.str b0_0), (.int .i64 b0_1), (.int .i64 b0_2), (.int .i64 b0_3), (.int .i64 b0_4)])], 1⟩
noncomputable def L (R : Type) (k : Nat) : LE El R := fun b x K st => match b with
  | 0 => ell (env R k) k 0 l0V (fun K n p => l0 k (fun q => K (.ret) (l0Xret q)) (fun q => K (.exit 0) (l0Xexit0 q)) n p) x K st
  | b => mexec (env R k) k b (.loop x) K st
theorem told0L (R : Type) (k : Nat) : Told (L R k) (env R k) k 0 (loopIn Go.Proofs.Tryd.f204 0) = [] := by kernel_rfl
theorem told0 (R : Type) (k : Nat) : ∀ K st, mexec (env R k) k 0 (.loop (loopIn Go.Proofs.Tryd.f204 0)) K st = L R k 0 (loopIn Go.Proofs.Tryd.f204 0) K st := ell_eq l0S (viewS_eq (fun x => by kernel_rfl)) (fun K G p => l0T k (fun q => K (.ret) (l0Xret q)) (fun q => K (.exit 0) (l0Xexit0 q)) G p) (fun _ _ => rfl) (fun _ _ _ => rfl) (by
  rintro K G ⟨t0, t7, t8, b0_0, b0_1, b0_2, b0_3, b0_4⟩
  refine (round_eq (L := L R k) (by rw [told0L]; exact trivial) _ _ _).trans ?_
  kernel_rfl)
theorem told (R : Type) (k : Nat) : Told (L R k) (env R k) k 0 ((Go.Proofs.Tryd.f204.body).getD .skip) = [∀ K st, mexec (env R k) k 0 (.loop (loopIn Go.Proofs.Tryd.f204 0)) K st = L R k 0 (loopIn Go.Proofs.Tryd.f204 0) K st] := by kernel_rfl
theorem run (k : Nat) (R : Type) (dec : Out El → Option R) st : mexec (env R k) k 0 ((Go.Proofs.Tryd.f204.body).getD .skip) (mend Go.Proofs.Tryd.prog [.tmp 4] [.any] 1 dec) st = mexecG (L R k) (env R k) 0 ((Go.Proofs.Tryd.f204.body).getD .skip) (mend Go.Proofs.Tryd.prog [.tmp 4] [.any] 1 dec) st := mexecG_eq _ (by rw [told]; exact ⟨told0 R k, trivial⟩) _ _
noncomputable def entry (k : Nat) : Entry El := ⟨[.frz 114, .ref], 1, specOf decA (F k) outOf⟩
theorem ok (k : Nat) : FnOK Go.Proofs.Tryd.prog 204 1 (specOf decA (F k) outOf) := fnOK_of (fn := Go.Proofs.Tryd.f204) (c := (Go.Proofs.Tryd.f204.body).getD .skip) (by kernel_rfl) (by kernel_rfl) (envOK _ k) (by kernel_rfl) k [.any] (nt := 19) (by kernel_rfl) (rs := [.tmp 4]) (by kernel_rfl) decA (F k) dec outOf
  (by intro out y h; unfold dec at h; split at h <;> cases h; rfl)
  (by intro ds objs next a h; obtain ⟨rfl, rfl, rfl⟩ := decS_eq (stc := inS) (fun x => by kernel_rfl) h; obtain ⟨a0, b0_0, b0_1_0, b0_1_1, b0_3, b0_4⟩ := a; exact (run k _ dec _).trans (by kernel_rfl))
theorem enter : ∀ args w, (callFunc 204 args).run Go.Proofs.Tryd.prog w = .ok (.enter 204 args) w := fun _ _ => by kernel_rfl
end Fn.f204_169

namespace Fn.f166_169
noncomputable def tab (k : Nat) : Tab El := [(169, 0, Fn.f169.entry k), (204, 170, Fn.f204_169.entry k)]
noncomputable def env (R : Type) (k : Nat) : Env El R := envOf Go.Proofs.Tryd.prog (tab k) R (fun r => match r with | _ => false) (fun b => match b with | _ => fun _ => none) (fun b e => match b, e with | _, _ => fun _ => none)
theorem tabOK (k : Nat) : TabOK Go.Proofs.Tryd.prog (tab k) := TabOK.cons (Fn.f169.ok k) Fn.f169.enter (TabOK.cons (Fn.f204_169.ok k) Fn.f204_169.enter (TabOK.nil))
theorem envOK (R : Type) (k : Nat) : EnvOK 1 (env R k) := envOf_ok (by kernel_rfl) (tabOK k) (by intro b; show WOK 1 (match b with | _ => fun _ => none); split <;> first | exact word_ok _ _ _ | exact vword_ok (word_ok _ _ _) | exact none_ok _) (by intro b e; show WOK 1 (match b, e with | _, _ => fun _ => none); split <;> first | exact word_ok _ _ _ | exact none_ok _)
noncomputable def F (k : Nat) : List T.E114 × ByteArray × Int × Int × Int × Int → Option (Bool × ByteArray × Int × Int × Int × Int) := fun (a0, b0_0, b0_1_0, b0_1_1, b0_3, b0_4) => Option.bind (Fn.f204_169.F k (a0, b0_0, b0_1_0, b0_1_1, b0_3, b0_4)) fun y0 => some ((Decidable.decide (y0.1 ≥ 0)), y0.2.1, y0.2.2.1, y0.2.2.2.1, y0.2.2.2.2.1, y0.2.2.2.2.2)
noncomputable def inH : SS := ⟨[(.o (.c (.frz 114))), (.o (.fn 169 [(.ptr0 0 0)]))], [(0, .box 114 [.str, (.int .i64), (.int .i64), (.int .i64), (.int .i64)])], 1⟩
noncomputable def inS : List T.E114 × ByteArray × Int × Int × Int × Int → St El := fun (a0, b0_0, b0_1_0, b0_1_1, b0_3, b0_4) => ⟨[(.frz 114 a0), (.fn 169 [(.ptr 0 0 0 0)])], [(0, .box 114 [(.str b0_0), (.int .i64 b0_1_0), (.int .i64 b0_1_1), (.int .i64 b0_3), (.int .i64 b0_4)])], 1⟩
noncomputable def decA : List (D El) → List (Nat × MObj El) → Nat → Option (List T.E114 × ByteArray × Int × Int × Int × Int) := decS inH (fun x => (x.1.1, x.2.1.1, x.2.1.2.1, x.2.1.2.2.1, x.2.1.2.2.2.1, x.2.1.2.2.2.2.1))
noncomputable def dec : Out El → Option (Bool × ByteArray × Int × Int × Int × Int)
  | ⟨(.bool r), [(0, .box 114 [(.str b0_0), (.int .i64 b0_1), (.int .i64 b0_2), (.int .i64 b0_3), (.int .i64 b0_4)])], 1⟩ => some (r, b0_0, b0_1, b0_2, b0_3, b0_4)
  | _ => none
noncomputable def outOf : Bool × ByteArray × Int × Int × Int × Int → Out El := fun (r, b0_0, b0_1, b0_2, b0_3, b0_4) => ⟨(.bool r), [(0, .box 114 [(.str b0_0), (.int .i64 b0_1), (.int .i64 b0_2), (.int .i64 b0_3), (.int .i64 b0_4)])], 1⟩
noncomputable def entry (k : Nat) : Entry El := ⟨[.frz 114, .ref], 1, specOf decA (F k) outOf⟩
theorem ok (k : Nat) : FnOK Go.Proofs.Tryd.prog 166 1 (specOf decA (F k) outOf) := fnOK_of (fn := Go.Proofs.Tryd.f166) (c := (Go.Proofs.Tryd.f166.body).getD .skip) (by kernel_rfl) (by kernel_rfl) (envOK _ k) (by kernel_rfl) k [.any] (nt := 9) (by kernel_rfl) (rs := [.tmp 4]) (by kernel_rfl) decA (F k) dec outOf
  (by intro out y h; unfold dec at h; split at h <;> cases h; rfl)
  (by intro ds objs next a h; obtain ⟨rfl, rfl, rfl⟩ := decS_eq (stc := inS) (fun x => by kernel_rfl) h; obtain ⟨a0, b0_0, b0_1_0, b0_1_1, b0_3, b0_4⟩ := a; kernel_rfl)
theorem enter : ∀ args w, (callFunc 166 args).run Go.Proofs.Tryd.prog w = .ok (.enter 166 args) w := fun _ _ => by kernel_rfl
end Fn.f166_169

namespace Fn.f134
noncomputable def l0H : SS := ⟨[(.o (.c (.frz 114))), (.o (.c .dead)), (.o (.c .dead)), (.o (.c .dead)), (.o (.c .dead)), (.o (.c .dead)), (.o (.c .dead)), (.o (.c .dead)), (.o (.c (.frz 114))), (.o (.c (.int .i64))), (.o (.c (.int .i64))), (.o (.c .dead)), (.o (.c .dead)), (.o (.c .dead)), (.o (.c .dead)), (.o (.c .dead)), (.o (.c .dead)), (.o (.c .dead)), (.o (.c .dead)), (.o (.c .dead)), (.o (.c .dead)), (.o (.c .dead)), (.o (.c .dead)), (.o (.c .dead)), (.o (.c .dead)), (.o (.c .dead)), (.o (.c .dead)), (.o (.c .dead)), (.o (.c .dead)), (.o (.c .dead)), (.o (.c .dead)), (.o (.c .dead)), (.o (.c .dead)), (.o (.c .dead)), (.o (.c .dead)), (.o (.c .dead)), (.o (.c .dead)), (.o (.c .dead)), (.o (.c .dead)), (.o (.c .dead)), (.o (.c .dead)), (.o (.c .dead)), (.o (.c .dead)), (.o (.c .dead))], [], 0⟩
noncomputable def l0V : St El → Option (List T.E114 × List T.E114 × Int × Int) := viewS l0H (fun x => (x.1.1, x.1.2.2.2.2.2.2.2.2.1, x.1.2.2.2.2.2.2.2.2.2.1, x.1.2.2.2.2.2.2.2.2.2.2.1))
noncomputable def l0S : List T.E114 × List T.E114 × Int × Int → St El := fun (t0, t8, t9, t10) => ⟨(.frz 114 t0) :: .dead :: .dead :: .dead :: .dead :: .dead :: .dead :: .dead :: (.frz 114 t8) :: (.int .i64 t9) :: (.int .i64 t10) :: .dead :: .dead :: .dead :: .dead :: .dead :: .dead :: .dead :: .dead :: .dead :: .dead :: .dead :: .dead :: .dead :: .dead :: .dead :: .dead :: .dead :: .dead :: .dead :: .dead :: .dead :: .dead :: .dead :: .dead :: .dead :: .dead :: .dead :: .dead :: .dead :: .dead :: .dead :: .dead :: .dead :: [], [], 0⟩
noncomputable def l0Xret : Int → St El := fun t2 => ⟨.dead :: .dead :: (.int .i64 t2) :: .dead :: .dead :: .dead :: .dead :: .dead :: .dead :: .dead :: .dead :: .dead :: .dead :: .dead :: .dead :: .dead :: .dead :: .dead :: .dead :: .dead :: .dead :: .dead :: .dead :: .dead :: .dead :: .dead :: .dead :: .dead :: .dead :: .dead :: .dead :: .dead :: .dead :: .dead :: .dead :: .dead :: .dead :: .dead :: .dead :: .dead :: .dead :: .dead :: .dead :: .dead :: [], [], 0⟩
noncomputable def l0Xexit0 : Unit → St El := fun () => ⟨.dead :: .dead :: .dead :: .dead :: .dead :: .dead :: .dead :: .dead :: .dead :: .dead :: .dead :: .dead :: .dead :: .dead :: .dead :: .dead :: .dead :: .dead :: .dead :: .dead :: .dead :: .dead :: .dead :: .dead :: .dead :: .dead :: .dead :: .dead :: .dead :: .dead :: .dead :: .dead :: .dead :: .dead :: .dead :: .dead :: .dead :: .dead :: .dead :: .dead :: .dead :: .dead :: .dead :: .dead :: [], [], 0⟩
noncomputable def l100011H : SS := ⟨[(.o (.c (.frz 114))), (.o (.c .dead)), (.o (.c .dead)), (.o (.c .dead)), (.o (.c .dead)), (.o (.c .dead)), (.o (.c .dead)), (.o (.c .dead)), (.o (.c (.frz 114))), (.o (.c (.int .i64))), (.o (.c (.int .i64))), (.o (.c .dead)), (.o (.c .dead)), (.o (.c .dead)), (.o (.c .dead)), (.o (.c .dead)), (.o (.c .dead)), (.o (.c .dead)), (.o (.c .dead)), (.o (.c .dead)), (.o (.c .dead)), (.o (.c .dead)), (.o (.c .dead)), (.o (.c .dead)), (.o (.c .dead)), (.o (.c .dead)), (.o (.c .bool)), (.o (.c .dead)), (.o (.c .dead)), (.o (.c .dead)), (.o (.c .dead)), (.o (.c .dead)), (.o (.c .dead)), (.o (.c .dead)), (.o (.c .dead)), (.o (.c .dead)), (.o (.c .dead)), (.o (.c .dead)), (.o (.c .dead)), (.o (.c .dead)), (.o (.c .dead)), (.o (.c .dead)), (.o (.c .dead)), (.o (.c .dead))], [], 0⟩
noncomputable def l100011V : St El → Option (List T.E114 × List T.E114 × Int × Int × Bool) := viewS l100011H (fun x => (x.1.1, x.1.2.2.2.2.2.2.2.2.1, x.1.2.2.2.2.2.2.2.2.2.1, x.1.2.2.2.2.2.2.2.2.2.2.1, x.1.2.2.2.2.2.2.2.2.2.2.2.2.2.2.2.2.2.2.2.2.2.2.2.2.2.2.1))
noncomputable def l100011S : List T.E114 × List T.E114 × Int × Int × Bool → St El := fun (t0, t8, t9, t10, t26) => ⟨(.frz 114 t0) :: .dead :: .dead :: .dead :: .dead :: .dead :: .dead :: .dead :: (.frz 114 t8) :: (.int .i64 t9) :: (.int .i64 t10) :: .dead :: .dead :: .dead :: .dead :: .dead :: .dead :: .dead :: .dead :: .dead :: .dead :: .dead :: .dead :: .dead :: .dead :: .dead :: (.bool t26) :: .dead :: .dead :: .dead :: .dead :: .dead :: .dead :: .dead :: .dead :: .dead :: .dead :: .dead :: .dead :: .dead :: .dead :: .dead :: .dead :: .dead :: [], [], 0⟩
noncomputable def l100011Xret : Int → St El := fun t2 => ⟨.dead :: .dead :: (.int .i64 t2) :: .dead :: .dead :: .dead :: .dead :: .dead :: .dead :: .dead :: .dead :: .dead :: .dead :: .dead :: .dead :: .dead :: .dead :: .dead :: .dead :: .dead :: .dead :: .dead :: .dead :: .dead :: .dead :: .dead :: .dead :: .dead :: .dead :: .dead :: .dead :: .dead :: .dead :: .dead :: .dead :: .dead :: .dead :: .dead :: .dead :: .dead :: .dead :: .dead :: .dead :: .dead :: [], [], 0⟩
noncomputable def l100011Xnorm : List T.E114 × List T.E114 × Int × Int → St El := fun (t0, t8, t9, t10) => ⟨(.frz 114 t0) :: .dead :: .dead :: .dead :: .dead :: .dead :: .dead :: .dead :: (.frz 114 t8) :: (.int .i64 t9) :: (.int .i64 t10) :: .dead :: .dead :: .dead :: .dead :: .dead :: .dead :: .dead :: .dead :: .dead :: .dead :: .dead :: .dead :: .dead :: .dead :: .dead :: .dead :: .dead :: .dead :: .dead :: .dead :: .dead :: .dead :: .dead :: .dead :: .dead :: .dead :: .dead :: .dead :: .dead :: .dead :: .dead :: .dead :: .dead :: [], [], 0⟩
noncomputable def tab (k : Nat) : Tab El := [(74, 0, Fn.f74.entry k), (95, 0, Fn.f95.entry k), (136, 0, Fn.f136.entry k), (166, 170, Fn.f166_169.entry k), (169, 0, Fn.f169.entry k)]
noncomputable def env (R : Type) (k : Nat) : Env El R := envOf Go.Proofs.Tryd.prog (tab k) R (fun r => match r with | 11 => true | _ => false) (fun b => match b with | 100011 => vword l100011V (word 0 [] (kept [0, 8, 9, 10, 26] 0 44)) | 0 => word 0 [] (kept [0, 8, 9, 10] 0 44) | _ => fun _ => none) (fun b e => match b, e with | 100011, .exit 2 => word 0 [] (kept [0, 8, 9, 10] 0 44) | 100011, .exit 1 => word 0 [] (kept [0, 8, 9, 10] 0 44) | 100011, .exit 0 => word 0 [] (kept [] 0 44) | 100011, .ret => word 0 [] (kept [2] 0 44) | 100011, .norm => word 0 [] (kept [0, 8, 9, 10] 0 44) | 0, .exit 0 => word 0 [] (kept [] 0 44) | 0, .ret => word 0 [] (kept [2] 0 44) | _, _ => fun _ => none)
theorem tabOK (k : Nat) : TabOK Go.Proofs.Tryd.prog (tab k) := TabOK.cons (Fn.f74.ok k) Fn.f74.enter (TabOK.cons (Fn.f95.ok k) Fn.f95.enter (TabOK.cons (Fn.f136.ok k) Fn.f136.enter (TabOK.cons (Fn.f166_169.ok k) Fn.f166_169.enter (TabOK.cons (Fn.f169.ok k) Fn.f169.enter (TabOK.nil)))))
theorem envOK (R : Type) (k : Nat) : EnvOK 0 (env R k) := envOf_ok (by kernel_rfl) (tabOK k) (by intro b; show WOK 0 (match b with | 100011 => vword l100011V (word 0 [] (kept [0, 8, 9, 10, 26] 0 44)) | 0 => word 0 [] (kept [0, 8, 9, 10] 0 44) | _ => fun _ => none); split <;> first | exact word_ok _ _ _ | exact vword_ok (word_ok _ _ _) | exact none_ok _) (by intro b e; show WOK 0 (match b, e with | 100011, .exit 2 => word 0 [] (kept [0, 8, 9, 10] 0 44) | 100011, .exit 1 => word 0 [] (kept [0, 8, 9, 10] 0 44) | 100011, .exit 0 => word 0 [] (kept [] 0 44) | 100011, .ret => word 0 [] (kept [2] 0 44) | 100011, .norm => word 0 [] (kept [0, 8, 9, 10] 0 44) | 0, .exit 0 => word 0 [] (kept [] 0 44) | 0, .ret => word 0 [] (kept [2] 0 44) | _, _ => fun _ => none); split <;> first | exact word_ok _ _ _ | exact none_ok _)
noncomputable def l100011 {R : Type} (k : Nat) (ret : Int → Option R) (norm : List T.E114 × List T.E114 × Int × Int → Option R) : List T.E114 × List T.E114 × Int × Int × Bool → Option R := fun (t0, t8, t9, t10, t26) => cond t26 (ret 1) (norm (t0, t8, t9, t10))
noncomputable def l0T {R : Type} (k : Nat) (ret : Int → Option R) (exit0 : Unit → Option R) (G : List T.E114 × List T.E114 × Int × Int → Option R) : List T.E114 × List T.E114 × Int × Int → Option R := fun (t0, t8, t9, t10) => cond (Decidable.decide (t10 < t9)) (if (0 ≤ t10) then (if (t10 < (↑(List.length t8) : Int)) then (Option.bind (t8[Int.toNat t10]?) fun y2 => Option.bind (Fn.f95.F k (T.E114.f0 y2)) fun y3 => cond (!y3) (ret 5) (if (0 ≤ t10) then (if (t10 ≤ (↑(List.length t0) : Int)) then (Option.bind (Fn.f166_169.F k (Go.M.msub t0 Option.none (Option.some t10), T.E114.f0 y2, T.E114.f1 y2, T.E114.f2 y2, T.E114.f3 y2, T.E114.f4 y2)) fun y6 => cond y6.1 (ret 6) (Option.bind (Fn.f136.F k (y6.2.2.1, y6.2.2.2.1)) fun y7 => cond (!y7) (l100011 k (fun t2 => ret t2) (fun (t0, t8, t9, t10) => G (t0, t8, t9, (Go.IntKind.wrap Go.IntKind.i64 (t10 + 1)))) (t0, t8, t9, t10, Bool.true)) (Option.bind (Fn.f74.F k (y6.2.2.2.2.1, 0, y6.2.2.2.2.2)) fun y8 => cond y8 (l100011 k (fun t2 => ret t2) (fun (t0, t8, t9, t10) => G (t0, t8, t9, (Go.IntKind.wrap Go.IntKind.i64 (t10 + 1)))) (t0, t8, t9, t10, Bool.true)) (l100011 k (fun t2 => ret t2) (fun (t0, t8, t9, t10) => G (t0, t8, t9, (Go.IntKind.wrap Go.IntKind.i64 (t10 + 1)))) (t0, t8, t9, t10, (Decidable.decide (y6.2.2.2.2.2 > 100))))))) else (none)) else (none))) else (none)) else (none)) (exit0 ())
noncomputable def l0 {R : Type} (k : Nat) (ret : Int → Option R) (exit0 : Unit → Option R) : Nat → List T.E114 × List T.E114 × Int × Int → Option R
  | 0, _ => none
  | n + 1, p => l0T k ret exit0 (l0 k ret exit0 n) p
noncomputable def F (k : Nat) : List T.E114 → Option (Int) := fun a0 => cond (Decidable.decide ((↑(List.length a0) : Int) > 12)) (some 2) (l0 k (fun t2 => some t2) (fun () => some 0) k (a0, a0, ((↑(List.length a0) : Int)), 0))
noncomputable def inH : SS := ⟨[(.o (.c (.frz 114)))], [], 0⟩
noncomputable def inS : List T.E114 → St El := fun a0 => ⟨[(.frz 114 a0)], [], 0⟩
noncomputable def decA : List (D El) → List (Nat × MObj El) → Nat → Option (List T.E114) := decS inH (fun x => x.1.1)
noncomputable def dec : Out El → Option (Int)
  | ⟨(.int .i64 r), [], 0⟩ => some r
  | _ => none
noncomputable def outOf : Int → Out El := fun r => ⟨(.int .i64 r), [], 0⟩
noncomputable def L (R : Type) (k : Nat) : LE El R := fun b x K st => match b with
  | 100011 => jell (env R k) k 2 100011 l100011V (fun K p => l100011 k (fun q => K (.ret) (l100011Xret q)) (fun q => K (.norm) (l100011Xnorm q)) p) x K st
  | 0 => ell (env R k) k 0 l0V (fun K n p => l0 k (fun q => K (.ret) (l0Xret q)) (fun q => K (.exit 0) (l0Xexit0 q)) n p) x K st
  | b => mexec (env R k) k b (.loop x) K st
theorem told100011L (R : Type) (k : Nat) : Told (L R k) (env R k) k 2 (joinIn Go.Proofs.Tryd.f134 11) = [] := by kernel_rfl
theorem told100011 (R : Type) (k : Nat) : ∀ K st, mexec (env R k) k 2 (joinIn Go.Proofs.Tryd.f134 11) (Env.wrap (env R k) 100011 K) st = L R k 100011 (joinIn Go.Proofs.Tryd.f134 11) K st := jell_eq (lk := fun K p => l100011 k (fun q => K (.ret) (l100011Xret q)) (fun q => K (.norm) (l100011Xnorm q)) p) l100011S (viewS_eq (fun x => by kernel_rfl)) (by
  rintro K ⟨t0, t8, t9, t10, t26⟩
  refine (mexecG_eq (L := L R k) _ (by rw [told100011L]; exact trivial) _ _).trans ?_
  kernel_rfl)
theorem told0L (R : Type) (k : Nat) : Told (L R k) (env R k) k 0 (loopIn Go.Proofs.Tryd.f134 0) = [∀ K st, mexec (env R k) k 2 (joinIn Go.Proofs.Tryd.f134 11) (Env.wrap (env R k) 100011 K) st = L R k 100011 (joinIn Go.Proofs.Tryd.f134 11) K st] := by kernel_rfl
theorem told0 (R : Type) (k : Nat) : ∀ K st, mexec (env R k) k 0 (.loop (loopIn Go.Proofs.Tryd.f134 0)) K st = L R k 0 (loopIn Go.Proofs.Tryd.f134 0) K st := ell_eq l0S (viewS_eq (fun x => by kernel_rfl)) (fun K G p => l0T k (fun q => K (.ret) (l0Xret q)) (fun q => K (.exit 0) (l0Xexit0 q)) G p) (fun _ _ => rfl) (fun _ _ _ => rfl) (by
  rintro K G ⟨t0, t8, t9, t10⟩
  refine (round_eq (L := L R k) (by rw [told0L]; exact ⟨told100011 R k, trivial⟩) _ _ _).trans ?_
  kernel_rfl)
theorem told (R : Type) (k : Nat) : Told (L R k) (env R k) k 0 ((Go.Proofs.Tryd.f134.body).getD .skip) = [∀ K st, mexec (env R k) k 0 (.loop (loopIn Go.Proofs.Tryd.f134 0)) K st = L R k 0 (loopIn Go.Proofs.Tryd.f134 0) K st] := by kernel_rfl
theorem run (k : Nat) (R : Type) (dec : Out El → Option R) st : mexec (env R k) k 0 ((Go.Proofs.Tryd.f134.body).getD .skip) (mend Go.Proofs.Tryd.prog [.tmp 2] [.any] 0 dec) st = mexecG (L R k) (env R k) 0 ((Go.Proofs.Tryd.f134.body).getD .skip) (mend Go.Proofs.Tryd.prog [.tmp 2] [.any] 0 dec) st := mexecG_eq _ (by rw [told]; exact ⟨told0 R k, trivial⟩) _ _
noncomputable def entry (k : Nat) : Entry El := ⟨[.frz 114], 0, specOf decA (F k) outOf⟩
theorem ok (k : Nat) : FnOK Go.Proofs.Tryd.prog 134 0 (specOf decA (F k) outOf) := fnOK_of (fn := Go.Proofs.Tryd.f134) (c := (Go.Proofs.Tryd.f134.body).getD .skip) (by kernel_rfl) (by kernel_rfl) (envOK _ k) (by kernel_rfl) k [.any] (nt := 44) (by kernel_rfl) (rs := [.tmp 2]) (by kernel_rfl) decA (F k) dec outOf
  (by intro out y h; unfold dec at h; split at h <;> cases h; rfl)
  (by intro ds objs next a h; obtain ⟨rfl, rfl, rfl⟩ := decS_eq (stc := inS) (fun x => by kernel_rfl) h; exact (run k _ dec _).trans (by kernel_rfl))
theorem enter : ∀ args w, (callFunc 134 args).run Go.Proofs.Tryd.prog w = .ok (.enter 134 args) w := fun _ _ => by kernel_rfl
end Fn.f134

namespace Fn.f170
noncomputable def tab (k : Nat) : Tab El := []
noncomputable def env (R : Type) (k : Nat) : Env El R := envOf Go.Proofs.Tryd.prog (tab k) R (fun r => match r with | _ => false) (fun b => match b with | _ => fun _ => none) (fun b e => match b, e with | _, _ => fun _ => none)
theorem tabOK (k : Nat) : TabOK Go.Proofs.Tryd.prog (tab k) := TabOK.nil
theorem envOK (R : Type) (k : Nat) : EnvOK 0 (env R k) := envOf_ok (by kernel_rfl) (tabOK k) (by intro b; show WOK 0 (match b with | _ => fun _ => none); split <;> first | exact word_ok _ _ _ | exact vword_ok (word_ok _ _ _) | exact none_ok _) (by intro b e; show WOK 0 (match b, e with | _, _ => fun _ => none); split <;> first | exact word_ok _ _ _ | exact none_ok _)
noncomputable def F (k : Nat) : List T.E114 → Option (List T.E114) := fun a0 => cond (List.isEmpty a0) (both (some []) (if (0 + List.length a0 ≤ 1000000) then (some a0) else (none))) (if (0 + List.length a0 ≤ 1000000) then (some a0) else (none))
noncomputable def inH : SS := ⟨[(.o (.c (.frz 114)))], [], 0⟩
noncomputable def inS : List T.E114 → St El := fun a0 => ⟨[(.frz 114 a0)], [], 0⟩
noncomputable def decA : List (D El) → List (Nat × MObj El) → Nat → Option (List T.E114) := decS inH (fun x => x.1.1)
noncomputable def dec : Out El → Option (List T.E114)
  | ⟨(.all 0 5), [(0, .arr 114 o0)], 1⟩ => some o0
  | _ => none
noncomputable def outOf : List T.E114 → Out El := fun o0 => ⟨(.all 0 5), [(0, .arr 114 o0)], 1⟩
noncomputable def entry (k : Nat) : Entry El := ⟨[.frz 114], 0, specOf decA (F k) outOf⟩
theorem ok (k : Nat) : FnOK Go.Proofs.Tryd.prog 170 0 (specOf decA (F k) outOf) := fnOK_of (fn := Go.Proofs.Tryd.f170) (c := (Go.Proofs.Tryd.f170.body).getD .skip) (by kernel_rfl) (by kernel_rfl) (envOK _ k) (by kernel_rfl) k [.own 114] (nt := 8) (by kernel_rfl) (rs := [.tmp 2]) (by kernel_rfl) decA (F k) dec outOf
  (by intro out y h; unfold dec at h; split at h <;> cases h; rfl)
  (by intro ds objs next a h; obtain ⟨rfl, rfl, rfl⟩ := decS_eq (stc := inS) (fun x => by kernel_rfl) h; kernel_rfl)
theorem enter : ∀ args w, (callFunc 170 args).run Go.Proofs.Tryd.prog w = .ok (.enter 170 args) w := fun _ _ => by kernel_rfl
end Fn.f170

namespace Fn.f135
noncomputable def l0H : SS := ⟨[(.o (.c .dead)), (.o (.c (.int .i64))), (.o (.c .dead)), (.o (.c .dead)), (.o (.c .dead)), (.o (.c .dead)), (.o (.c (.all 0 5))), (.o (.c .dead)), (.o (.c .dead)), (.o (.c .dead)), (.o (.c .dead)), (.o (.c .dead)), (.o (.c (.int .i64))), (.o (.c (.int .i64))), (.o (.c .dead)), (.o (.c .dead)), (.o (.c .dead)), (.o (.c .dead)), (.o (.c .dead)), (.o (.c .dead)), (.o (.c .dead)), (.o (.c .dead)), (.o (.c .dead)), (.o (.c .dead)), (.o (.c .dead)), (.o (.c .dead)), (.o (.c .dead)), (.o (.c .dead)), (.o (.c .dead)), (.o (.c .dead)), (.o (.c .dead)), (.o (.c .dead)), (.o (.c .dead)), (.o (.c .dead)), (.o (.c .dead)), (.o (.c .dead)), (.o (.c .dead)), (.o (.c .dead)), (.o (.c .dead)), (.o (.c .dead)), (.o (.c .dead)), (.o (.c .dead)), (.o (.c .dead)), (.o (.c .dead)), (.o (.c .dead))], [(0, .arr 114)], 1⟩
noncomputable def l0V : St El → Option (Int × Int × Int × List T.E114) := viewS l0H (fun x => (x.1.2.1, x.1.2.2.2.2.2.2.2.2.2.2.2.2.1, x.1.2.2.2.2.2.2.2.2.2.2.2.2.2.1, x.2.1))
noncomputable def l0S : Int × Int × Int × List T.E114 → St El := fun (t1, t12, t13, o0) => ⟨.dead :: (.int .i64 t1) :: .dead :: .dead :: .dead :: .dead :: (.all 0 5) :: .dead :: .dead :: .dead :: .dead :: .dead :: (.int .i64 t12) :: (.int .i64 t13) :: .dead :: .dead :: .dead :: .dead :: .dead :: .dead :: .dead :: .dead :: .dead :: .dead :: .dead :: .dead :: .dead :: .dead :: .dead :: .dead :: .dead :: .dead :: .dead :: .dead :: .dead :: .dead :: .dead :: .dead :: .dead :: .dead :: .dead :: .dead :: .dead :: .dead :: .dead :: [], [(0, .arr 114 o0)], 1⟩
noncomputable def l0Xret : Bool → St El := fun t5 => ⟨.dead :: .dead :: .dead :: .dead :: .nilsl :: (.bool t5) :: .dead :: .dead :: .dead :: .dead :: .dead :: .dead :: .dead :: .dead :: .dead :: .dead :: .dead :: .dead :: .dead :: .dead :: .dead :: .dead :: .dead :: .dead :: .dead :: .dead :: .dead :: .dead :: .dead :: .dead :: .dead :: .dead :: .dead :: .dead :: .dead :: .dead :: .dead :: .dead :: .dead :: .dead :: .dead :: .dead :: .dead :: .dead :: .dead :: [], [], 0⟩
noncomputable def l0Xexit0 : List T.E114 → St El := fun o0 => ⟨.dead :: .dead :: .dead :: .dead :: .dead :: .dead :: (.all 0 5) :: .dead :: .dead :: .dead :: .dead :: .dead :: .dead :: .dead :: .dead :: .dead :: .dead :: .dead :: .dead :: .dead :: .dead :: .dead :: .dead :: .dead :: .dead :: .dead :: .dead :: .dead :: .dead :: .dead :: .dead :: .dead :: .dead :: .dead :: .dead :: .dead :: .dead :: .dead :: .dead :: .dead :: .dead :: .dead :: .dead :: .dead :: .dead :: [], [(0, .arr 114 o0)], 1⟩
noncomputable def tab (k : Nat) : Tab El := [(136, 0, Fn.f136.entry k), (170, 0, Fn.f170.entry k)]
noncomputable def env (R : Type) (k : Nat) : Env El R := envOf Go.Proofs.Tryd.prog (tab k) R (fun r => match r with | _ => false) (fun b => match b with | 0 => word 0 [] (kept [1, 6, 12, 13] 0 45) | _ => fun _ => none) (fun b e => match b, e with | 0, .exit 0 => word 0 [] (kept [6] 0 45) | 0, .ret => word 0 [] (kept [4, 5] 0 45) | _, _ => fun _ => none)
theorem tabOK (k : Nat) : TabOK Go.Proofs.Tryd.prog (tab k) := TabOK.cons (Fn.f136.ok k) Fn.f136.enter (TabOK.cons (Fn.f170.ok k) Fn.f170.enter (TabOK.nil))
theorem envOK (R : Type) (k : Nat) : EnvOK 0 (env R k) := envOf_ok (by kernel_rfl) (tabOK k) (by intro b; show WOK 0 (match b with | 0 => word 0 [] (kept [1, 6, 12, 13] 0 45) | _ => fun _ => none); split <;> first | exact word_ok _ _ _ | exact vword_ok (word_ok _ _ _) | exact none_ok _) (by intro b e; show WOK 0 (match b, e with | 0, .exit 0 => word 0 [] (kept [6] 0 45) | 0, .ret => word 0 [] (kept [4, 5] 0 45) | _, _ => fun _ => none); split <;> first | exact word_ok _ _ _ | exact none_ok _)
noncomputable def l0T {R : Type} (k : Nat) (ret : Bool → Option R) (exit0 : List T.E114 → Option R) (G : Int × Int × Int × List T.E114 → Option R) : Int × Int × Int × List T.E114 → Option R := fun (t1, t12, t13, o0) => cond (Decidable.decide (t13 < t12)) (if (0 ≤ t13) then (if (t13 < (↑(List.length o0) : Int)) then (Option.bind (o0[Int.toNat t13]?) fun y3 => Option.bind (o0[Int.toNat t13]?) fun y4 => Option.bind (o0[Int.toNat t13]?) fun y5 => Option.bind ((List.set o0 (Int.toNat t13) (T.E114.mk (T.E114.f0 y5) (Go.IntKind.wrap Go.IntKind.i64 (T.E114.f1 y3 + t1)) (T.E114.f2 y5) (T.E114.f3 y5) (T.E114.f4 y5)))[Int.toNat t13]?) fun y6 => Option.bind ((List.set (List.set o0 (Int.toNat t13) (T.E114.mk (T.E114.f0 y5) (Go.IntKind.wrap Go.IntKind.i64 (T.E114.f1 y3 + t1)) (T.E114.f2 y5) (T.E114.f3 y5) (T.E114.f4 y5))) (Int.toNat t13) (T.E114.mk (T.E114.f0 y6) (T.E114.f1 y6) (Go.IntKind.wrap Go.IntKind.i64 (T.E114.f2 y4 + t1)) (T.E114.f3 y6) (T.E114.f4 y6)))[Int.toNat t13]?) fun y7 => Option.bind (Fn.f136.F k (T.E114.f1 y7, T.E114.f2 y7)) fun y8 => cond (!y8) (ret Bool.false) (G (t1, t12, (Go.IntKind.wrap Go.IntKind.i64 (t13 + 1)), (List.set (List.set o0 (Int.toNat t13) (T.E114.mk (T.E114.f0 y5) (Go.IntKind.wrap Go.IntKind.i64 (T.E114.f1 y3 + t1)) (T.E114.f2 y5) (T.E114.f3 y5) (T.E114.f4 y5))) (Int.toNat t13) (T.E114.mk (T.E114.f0 y6) (T.E114.f1 y6) (Go.IntKind.wrap Go.IntKind.i64 (T.E114.f2 y4 + t1)) (T.E114.f3 y6) (T.E114.f4 y6)))))) else (none)) else (none)) (exit0 o0)
noncomputable def l0 {R : Type} (k : Nat) (ret : Bool → Option R) (exit0 : List T.E114 → Option R) : Nat → Int × Int × Int × List T.E114 → Option R
  | 0, _ => none
  | n + 1, p => l0T k ret exit0 (l0 k ret exit0 n) p
noncomputable def F (k : Nat) : List T.E114 × Int → Option (List T.E114 × Bool) := fun (a0, a1) => Option.bind (Fn.f170.F k a0) fun y0 => l0 k (fun t5 => some ([], t5)) (fun o0 => some (o0, Bool.true)) k (a1, ((↑(List.length y0) : Int)), 0, y0)
noncomputable def inH : SS := ⟨[(.o (.c (.frz 114))), (.o (.c (.int .i64)))], [], 0⟩
noncomputable def inS : List T.E114 × Int → St El := fun (a0, a1) => ⟨[(.frz 114 a0), (.int .i64 a1)], [], 0⟩
noncomputable def decA : List (D El) → List (Nat × MObj El) → Nat → Option (List T.E114 × Int) := decS inH (fun x => (x.1.1, x.1.2.1))
noncomputable def dec : Out El → Option (List T.E114 × Bool)
  | ⟨(.tup [(.frz 114 r_0), (.bool r_1)]), [], 0⟩ => some (r_0, r_1)
  | _ => none
noncomputable def outOf : List T.E114 × Bool → Out El := fun (r_0, r_1) => ⟨(.tup [(.frz 114 r_0), (.bool r_1)]), [], 0⟩
noncomputable def L (R : Type) (k : Nat) : LE El R := fun b x K st => match b with
  | 0 => ell (env R k) k 0 l0V (fun K n p => l0 k (fun q => K (.ret) (l0Xret q)) (fun q => K (.exit 0) (l0Xexit0 q)) n p) x K st
  | b => mexec (env R k) k b (.loop x) K st
theorem told0L (R : Type) (k : Nat) : Told (L R k) (env R k) k 0 (loopIn Go.Proofs.Tryd.f135 0) = [] := by kernel_rfl
theorem told0 (R : Type) (k : Nat) : ∀ K st, mexec (env R k) k 0 (.loop (loopIn Go.Proofs.Tryd.f135 0)) K st = L R k 0 (loopIn Go.Proofs.Tryd.f135 0) K st := ell_eq l0S (viewS_eq (fun x => by kernel_rfl)) (fun K G p => l0T k (fun q => K (.ret) (l0Xret q)) (fun q => K (.exit 0) (l0Xexit0 q)) G p) (fun _ _ => rfl) (fun _ _ _ => rfl) (by
  rintro K G ⟨t1, t12, t13, o0⟩
  refine (round_eq (L := L R k) (by rw [told0L]; exact trivial) _ _ _).trans ?_
  kernel_rfl)
theorem told (R : Type) (k : Nat) : Told (L R k) (env R k) k 0 ((Go.Proofs.Tryd.f135.body).getD .skip) = [∀ K st, mexec (env R k) k 0 (.loop (loopIn Go.Proofs.Tryd.f135 0)) K st = L R k 0 (loopIn Go.Proofs.Tryd.f135 0) K st] := by kernel_rfl
theorem run (k : Nat) (R : Type) (dec : Out El → Option R) st : mexec (env R k) k 0 ((Go.Proofs.Tryd.f135.body).getD .skip) (mend Go.Proofs.Tryd.prog [.tmp 4, .tmp 5] [.frz 114, .any] 0 dec) st = mexecG (L R k) (env R k) 0 ((Go.Proofs.Tryd.f135.body).getD .skip) (mend Go.Proofs.Tryd.prog [.tmp 4, .tmp 5] [.frz 114, .any] 0 dec) st := mexecG_eq _ (by rw [told]; exact ⟨told0 R k, trivial⟩) _ _
noncomputable def entry (k : Nat) : Entry El := ⟨[.frz 114, .any], 0, specOf decA (F k) outOf⟩
theorem ok (k : Nat) : FnOK Go.Proofs.Tryd.prog 135 0 (specOf decA (F k) outOf) := fnOK_of (fn := Go.Proofs.Tryd.f135) (c := (Go.Proofs.Tryd.f135.body).getD .skip) (by kernel_rfl) (by kernel_rfl) (envOK _ k) (by kernel_rfl) k [.frz 114, .any] (nt := 45) (by kernel_rfl) (rs := [.tmp 4, .tmp 5]) (by kernel_rfl) decA (F k) dec outOf
  (by intro out y h; unfold dec at h; split at h <;> cases h; rfl)
  (by intro ds objs next a h; obtain ⟨rfl, rfl, rfl⟩ := decS_eq (stc := inS) (fun x => by kernel_rfl) h; obtain ⟨a0, a1⟩ := a; exact (run k _ dec _).trans (by kernel_rfl))
theorem enter : ∀ args w, (callFunc 135 args).run Go.Proofs.Tryd.prog w = .ok (.enter 135 args) w := fun _ _ => by kernel_rfl
end Fn.f135

namespace Fn.f71
noncomputable def tab (k : Nat) : Tab El := [(74, 0, Fn.f74.entry k), (134, 0, Fn.f134.entry k), (135, 0, Fn.f135.entry k)]
noncomputable def env (R : Type) (k : Nat) : Env El R := envOf Go.Proofs.Tryd.prog (tab k) R (fun r => match r with | _ => false) (fun b => match b with | _ => fun _ => none) (fun b e => match b, e with | _, _ => fun _ => none)
theorem tabOK (k : Nat) : TabOK Go.Proofs.Tryd.prog (tab k) := TabOK.cons (Fn.f74.ok k) Fn.f74.enter (TabOK.cons (Fn.f134.ok k) Fn.f134.enter (TabOK.cons (Fn.f135.ok k) Fn.f135.enter (TabOK.nil)))
theorem envOK (R : Type) (k : Nat) : EnvOK 0 (env R k) := envOf_ok (by kernel_rfl) (tabOK k) (by intro b; show WOK 0 (match b with | _ => fun _ => none); split <;> first | exact word_ok _ _ _ | exact vword_ok (word_ok _ _ _) | exact none_ok _) (by intro b e; show WOK 0 (match b, e with | _, _ => fun _ => none); split <;> first | exact word_ok _ _ _ | exact none_ok _)
noncomputable def F (k : Nat) : List T.E114 × Int → Option (List T.E114 × Int) := fun (a0, a1) => Option.bind (Fn.f134.F k a0) fun y0 => cond (y0 != 0) (some ([], y0)) (Option.bind (Fn.f74.F k (a1, -127, 127)) fun y1 => cond y1 (some ([], 1)) (Option.bind (Fn.f135.F k (a0, a1)) fun y2 => cond (!y2.2) (some ([], 1)) (some (y2.1, 0))))
noncomputable def inH : SS := ⟨[(.o (.c (.frz 114))), (.o (.c (.int .i64)))], [], 0⟩
noncomputable def inS : List T.E114 × Int → St El := fun (a0, a1) => ⟨[(.frz 114 a0), (.int .i64 a1)], [], 0⟩
noncomputable def decA : List (D El) → List (Nat × MObj El) → Nat → Option (List T.E114 × Int) := decS inH (fun x => (x.1.1, x.1.2.1))
noncomputable def dec : Out El → Option (List T.E114 × Int)
  | ⟨(.tup [(.frz 114 r_0), (.int .i64 r_1)]), [], 0⟩ => some (r_0, r_1)
  | _ => none
noncomputable def outOf : List T.E114 × Int → Out El := fun (r_0, r_1) => ⟨(.tup [(.frz 114 r_0), (.int .i64 r_1)]), [], 0⟩
noncomputable def entry (k : Nat) : Entry El := ⟨[.frz 114, .any], 0, specOf decA (F k) outOf⟩
theorem ok (k : Nat) : FnOK Go.Proofs.Tryd.prog 71 0 (specOf decA (F k) outOf) := fnOK_of (fn := Go.Proofs.Tryd.f71) (c := (Go.Proofs.Tryd.f71.body).getD .skip) (by kernel_rfl) (by kernel_rfl) (envOK _ k) (by kernel_rfl) k [.frz 114, .any] (nt := 25) (by kernel_rfl) (rs := [.tmp 4, .tmp 5]) (by kernel_rfl) decA (F k) dec outOf
  (by intro out y h; unfold dec at h; split at h <;> cases h; rfl)
  (by intro ds objs next a h; obtain ⟨rfl, rfl, rfl⟩ := decS_eq (stc := inS) (fun x => by kernel_rfl) h; obtain ⟨a0, a1⟩ := a; kernel_rfl)
theorem enter : ∀ args w, (callFunc 71 args).run Go.Proofs.Tryd.prog w = .ok (.enter 71 args) w := fun _ _ => by kernel_rfl
end Fn.f71

namespace Fn.f137
noncomputable def tab (k : Nat) : Tab El := []
noncomputable def env (R : Type) (k : Nat) : Env El R := envOf Go.Proofs.Tryd.prog (tab k) R (fun r => match r with | _ => false) (fun b => match b with | _ => fun _ => none) (fun b e => match b, e with | _, _ => fun _ => none)
theorem tabOK (k : Nat) : TabOK Go.Proofs.Tryd.prog (tab k) := TabOK.nil
theorem envOK (R : Type) (k : Nat) : EnvOK 0 (env R k) := envOf_ok (by kernel_rfl) (tabOK k) (by intro b; show WOK 0 (match b with | _ => fun _ => none); split <;> first | exact word_ok _ _ _ | exact vword_ok (word_ok _ _ _) | exact none_ok _) (by intro b e; show WOK 0 (match b, e with | _, _ => fun _ => none); split <;> first | exact word_ok _ _ _ | exact none_ok _)
noncomputable def F (k : Nat) : Int × Int × Int × Int → Option (Int) := fun (a0_0, a0_1, a1_0, a1_1) => some (if Go.IntKind.wrap Go.IntKind.i64 (a0_1 - a1_1) < Go.IntKind.wrap Go.IntKind.i64 (a1_0 - a0_0) then Go.IntKind.wrap Go.IntKind.i64 (a0_1 - a1_1) else Go.IntKind.wrap Go.IntKind.i64 (a1_0 - a0_0))
noncomputable def inH : SS := ⟨[(.o (.agg [(.int .i64), (.int .i64)])), (.o (.agg [(.int .i64), (.int .i64)]))], [], 0⟩
noncomputable def inS : Int × Int × Int × Int → St El := fun (a0_0, a0_1, a1_0, a1_1) => ⟨[(.agg [(.int .i64 a0_0), (.int .i64 a0_1)]), (.agg [(.int .i64 a1_0), (.int .i64 a1_1)])], [], 0⟩
noncomputable def decA : List (D El) → List (Nat × MObj El) → Nat → Option (Int × Int × Int × Int) := decS inH (fun x => (x.1.1.1, x.1.1.2.1, x.1.2.1.1, x.1.2.1.2.1))
noncomputable def dec : Out El → Option (Int)
  | ⟨(.int .i64 r), [], 0⟩ => some r
  | _ => none
noncomputable def outOf : Int → Out El := fun r => ⟨(.int .i64 r), [], 0⟩
noncomputable def entry (k : Nat) : Entry El := ⟨[.any, .any], 0, specOf decA (F k) outOf⟩
theorem ok (k : Nat) : FnOK Go.Proofs.Tryd.prog 137 0 (specOf decA (F k) outOf) := fnOK_of (fn := Go.Proofs.Tryd.f137) (c := (Go.Proofs.Tryd.f137.body).getD .skip) (by kernel_rfl) (by kernel_rfl) (envOK _ k) (by kernel_rfl) k [.any] (nt := 16) (by kernel_rfl) (rs := [.tmp 4]) (by kernel_rfl) decA (F k) dec outOf
  (by intro out y h; unfold dec at h; split at h <;> cases h; rfl)
  (by intro ds objs next a h; obtain ⟨rfl, rfl, rfl⟩ := decS_eq (stc := inS) (fun x => by kernel_rfl) h; obtain ⟨a0_0, a0_1, a1_0, a1_1⟩ := a; kernel_rfl)
theorem enter : ∀ args w, (callFunc 137 args).run Go.Proofs.Tryd.prog w = .ok (.enter 137 args) w := fun _ _ => by kernel_rfl
end Fn.f137

namespace Fn.f72
noncomputable def l100002H : SS := ⟨[(.o (.c .dead)), (.o (.c .dead)), (.o (.c (.ptr0 0 0))), (.o (.c (.ptr0 1 0))), (.o (.c .dead)), (.o (.c .dead)), (.o (.c .dead)), (.o (.c .dead)), (.o (.c .dead)), (.o (.c .dead)), (.o (.c .dead)), (.o (.c .dead)), (.o (.c .dead)), (.o (.c .dead)), (.o (.c .dead)), (.o (.c .bool)), (.o (.c .dead)), (.o (.c .dead)), (.o (.c .dead)), (.o (.c .dead)), (.o (.c .dead)), (.o (.c .dead)), (.o (.c .dead))], [(0, .box 110 [(.int .i64), (.int .i64)]), (1, .box 110 [(.int .i64), (.int .i64)])], 2⟩
noncomputable def l100002V : St El → Option (Bool × Int × Int × Int × Int) := viewS l100002H (fun x => (x.1.2.2.2.2.2.2.2.2.2.2.2.2.2.2.2.1, x.2.1.1, x.2.1.2.1, x.2.2.1.1, x.2.2.1.2.1))
noncomputable def l100002S : Bool × Int × Int × Int × Int → St El := fun (t15, b0_0, b0_1, b1_0, b1_1) => ⟨.dead :: .dead :: (.ptr 0 0 0 0) :: (.ptr 1 0 0 0) :: .dead :: .dead :: .dead :: .dead :: .dead :: .dead :: .dead :: .dead :: .dead :: .dead :: .dead :: (.bool t15) :: .dead :: .dead :: .dead :: .dead :: .dead :: .dead :: .dead :: [], [(0, .box 110 [(.int .i64 b0_0), (.int .i64 b0_1)]), (1, .box 110 [(.int .i64 b1_0), (.int .i64 b1_1)])], 2⟩
noncomputable def l100002Xret : Int × Bool × Int → St El := fun (t4, t5, t6) => ⟨.dead :: .dead :: .dead :: .dead :: (.int .i64 t4) :: (.bool t5) :: (.int .i64 t6) :: .dead :: .dead :: .dead :: .dead :: .dead :: .dead :: .dead :: .dead :: .dead :: .dead :: .dead :: .dead :: .dead :: .dead :: .dead :: .dead :: [], [], 0⟩
noncomputable def l100002Xnorm : Int × Int × Int × Int → St El := fun (b0_0, b0_1, b1_0, b1_1) => ⟨.dead :: .dead :: (.ptr 0 0 0 0) :: (.ptr 1 0 0 0) :: .dead :: .dead :: .dead :: .dead :: .dead :: .dead :: .dead :: .dead :: .dead :: .dead :: .dead :: .dead :: .dead :: .dead :: .dead :: .dead :: .dead :: .dead :: .dead :: [], [(0, .box 110 [(.int .i64 b0_0), (.int .i64 b0_1)]), (1, .box 110 [(.int .i64 b1_0), (.int .i64 b1_1)])], 2⟩
noncomputable def l100003H : SS := ⟨[(.o (.c .dead)), (.o (.c .dead)), (.o (.c (.ptr0 0 0))), (.o (.c (.ptr0 1 0))), (.o (.c .dead)), (.o (.c .dead)), (.o (.c .dead)), (.o (.c .dead)), (.o (.c .dead)), (.o (.c .dead)), (.o (.c .dead)), (.o (.c .dead)), (.o (.c .dead)), (.o (.c .dead)), (.o (.c .dead)), (.o (.c .dead)), (.o (.c .dead)), (.o (.c .dead)), (.o (.c .dead)), (.o (.c .dead)), (.o (.c .dead)), (.o (.c .dead)), (.o (.c .dead))], [(0, .box 110 [(.int .i64), (.int .i64)]), (1, .box 110 [(.int .i64), (.int .i64)])], 2⟩
noncomputable def l100003V : St El → Option (Int × Int × Int × Int) := viewS l100003H (fun x => (x.2.1.1, x.2.1.2.1, x.2.2.1.1, x.2.2.1.2.1))
noncomputable def l100003S : Int × Int × Int × Int → St El := fun (b0_0, b0_1, b1_0, b1_1) => ⟨.dead :: .dead :: (.ptr 0 0 0 0) :: (.ptr 1 0 0 0) :: .dead :: .dead :: .dead :: .dead :: .dead :: .dead :: .dead :: .dead :: .dead :: .dead :: .dead :: .dead :: .dead :: .dead :: .dead :: .dead :: .dead :: .dead :: .dead :: [], [(0, .box 110 [(.int .i64 b0_0), (.int .i64 b0_1)]), (1, .box 110 [(.int .i64 b1_0), (.int .i64 b1_1)])], 2⟩
noncomputable def l100003Xret : Int × Bool × Int → St El := fun (t4, t5, t6) => ⟨.dead :: .dead :: .dead :: .dead :: (.int .i64 t4) :: (.bool t5) :: (.int .i64 t6) :: .dead :: .dead :: .dead :: .dead :: .dead :: .dead :: .dead :: .dead :: .dead :: .dead :: .dead :: .dead :: .dead :: .dead :: .dead :: .dead :: [], [], 0⟩
noncomputable def tab (k : Nat) : Tab El := [(136, 0, Fn.f136.entry k), (137, 0, Fn.f137.entry k)]
noncomputable def env (R : Type) (k : Nat) : Env El R := envOf Go.Proofs.Tryd.prog (tab k) R (fun r => match r with | 3 => true | 2 => true | _ => false) (fun b => match b with | 100003 => vword l100003V (word 0 [] (kept [2, 3] 0 23)) | 100002 => vword l100002V (word 0 [] (kept [2, 3, 15] 0 23)) | _ => fun _ => none) (fun b e => match b, e with | 100003, .ret => word 0 [] (kept [4, 5, 6] 0 23) | 100003, .norm => word 0 [] (kept [4, 5, 6] 0 23) | 100002, .ret => word 0 [] (kept [4, 5, 6] 0 23) | 100002, .norm => word 0 [] (kept [2, 3] 0 23) | _, _ => fun _ => none)
theorem tabOK (k : Nat) : TabOK Go.Proofs.Tryd.prog (tab k) := TabOK.cons (Fn.f136.ok k) Fn.f136.enter (TabOK.cons (Fn.f137.ok k) Fn.f137.enter (TabOK.nil))
theorem envOK (R : Type) (k : Nat) : EnvOK 0 (env R k) := envOf_ok (by kernel_rfl) (tabOK k) (by intro b; show WOK 0 (match b with | 100003 => vword l100003V (word 0 [] (kept [2, 3] 0 23)) | 100002 => vword l100002V (word 0 [] (kept [2, 3, 15] 0 23)) | _ => fun _ => none); split <;> first | exact word_ok _ _ _ | exact vword_ok (word_ok _ _ _) | exact none_ok _) (by intro b e; show WOK 0 (match b, e with | 100003, .ret => word 0 [] (kept [4, 5, 6] 0 23) | 100003, .norm => word 0 [] (kept [4, 5, 6] 0 23) | 100002, .ret => word 0 [] (kept [4, 5, 6] 0 23) | 100002, .norm => word 0 [] (kept [2, 3] 0 23) | _, _ => fun _ => none); split <;> first | exact word_ok _ _ _ | exact none_ok _)
noncomputable def l100002 {R : Type} (k : Nat) (ret : Int × Bool × Int → Option R) (norm : Int × Int × Int × Int → Option R) : Bool × Int × Int × Int × Int → Option R := fun (t15, b0_0, b0_1, b1_0, b1_1) => cond t15 (ret (0, Bool.false, 1)) (norm (b0_0, b0_1, b1_0, b1_1))
noncomputable def l100003 {R : Type} (k : Nat) (ret : Int × Bool × Int → Option R) : Int × Int × Int × Int → Option R := fun (b0_0, b0_1, b1_0, b1_1) => ret ((if 0 > if Go.IntKind.wrap Go.IntKind.i64 (b0_1 - b1_1) < Go.IntKind.wrap Go.IntKind.i64 (b1_0 - b0_0) then Go.IntKind.wrap Go.IntKind.i64 (b0_1 - b1_1) else Go.IntKind.wrap Go.IntKind.i64 (b1_0 - b0_0) then 0 else if Go.IntKind.wrap Go.IntKind.i64 (b0_1 - b1_1) < Go.IntKind.wrap Go.IntKind.i64 (b1_0 - b0_0) then Go.IntKind.wrap Go.IntKind.i64 (b0_1 - b1_1) else Go.IntKind.wrap Go.IntKind.i64 (b1_0 - b0_0)), (Decidable.decide ((if Go.IntKind.wrap Go.IntKind.i64 (b0_1 - b1_1) < Go.IntKind.wrap Go.IntKind.i64 (b1_0 - b0_0) then Go.IntKind.wrap Go.IntKind.i64 (b0_1 - b1_1) else Go.IntKind.wrap Go.IntKind.i64 (b1_0 - b0_0)) ≥ 0)), 0)
noncomputable def F (k : Nat) : Int × Int × Int × Int → Option (Int × Bool × Int) := fun (a0_0, a0_1, a1_0, a1_1) => Option.bind (Fn.f136.F k (a0_0, a0_1)) fun y0 => cond (!y0) (l100002 k (fun (t4, t5, t6) => some (t4, t5, t6)) (fun (b0_0, b0_1, b1_0, b1_1) => l100003 k (fun (t4, t5, t6) => some (t4, t5, t6)) (b0_0, b0_1, b1_0, b1_1)) (Bool.true, a0_0, a0_1, a1_0, a1_1)) (Option.bind (Fn.f136.F k (a1_0, a1_1)) fun y1 => l100002 k (fun (t4, t5, t6) => some (t4, t5, t6)) (fun (b0_0, b0_1, b1_0, b1_1) => l100003 k (fun (t4, t5, t6) => some (t4, t5, t6)) (b0_0, b0_1, b1_0, b1_1)) ((!y1), a0_0, a0_1, a1_0, a1_1))
noncomputable def inH : SS := ⟨[(.o (.agg [(.int .i64), (.int .i64)])), (.o (.agg [(.int .i64), (.int .i64)]))], [], 0⟩
noncomputable def inS : Int × Int × Int × Int → St El := fun (a0_0, a0_1, a1_0, a1_1) => ⟨[(.agg [(.int .i64 a0_0), (.int .i64 a0_1)]), (.agg [(.int .i64 a1_0), (.int .i64 a1_1)])], [], 0⟩
noncomputable def decA : List (D El) → List (Nat × MObj El) → Nat → Option (Int × Int × Int × Int) := decS inH (fun x => (x.1.1.1, x.1.1.2.1, x.1.2.1.1, x.1.2.1.2.1))
noncomputable def dec : Out El → Option (Int × Bool × Int)
  | ⟨(.tup [(.int .i64 r_0), (.bool r_1), (.int .i64 r_2)]), [], 0⟩ => some (r_0, r_1, r_2)
  | _ => none
noncomputable def outOf : Int × Bool × Int → Out El := fun (r_0, r_1, r_2) => ⟨(.tup [(.int .i64 r_0), (.bool r_1), (.int .i64 r_2)]), [], 0⟩
noncomputable def L (R : Type) (k : Nat) : LE El R := fun b x K st => match b with
  | 100003 => jell (env R k) k 0 100003 l100003V (fun K p => l100003 k (fun q => K (.ret) (l100003Xret q)) p) x K st
  | 100002 => jell (env R k) k 0 100002 l100002V (fun K p => l100002 k (fun q => K (.ret) (l100002Xret q)) (fun q => K (.norm) (l100002Xnorm q)) p) x K st
  | b => mexec (env R k) k b (.loop x) K st
theorem told100003L (R : Type) (k : Nat) : Told (L R k) (env R k) k 0 (joinIn Go.Proofs.Tryd.f72 3) = [] := by kernel_rfl
theorem told100003 (R : Type) (k : Nat) : ∀ K st, mexec (env R k) k 0 (joinIn Go.Proofs.Tryd.f72 3) (Env.wrap (env R k) 100003 K) st = L R k 100003 (joinIn Go.Proofs.Tryd.f72 3) K st := jell_eq (lk := fun K p => l100003 k (fun q => K (.ret) (l100003Xret q)) p) l100003S (viewS_eq (fun x => by kernel_rfl)) (by
  rintro K ⟨b0_0, b0_1, b1_0, b1_1⟩
  refine (mexecG_eq (L := L R k) _ (by rw [told100003L]; exact trivial) _ _).trans ?_
  kernel_rfl)
theorem told100002L (R : Type) (k : Nat) : Told (L R k) (env R k) k 0 (joinIn Go.Proofs.Tryd.f72 2) = [] := by kernel_rfl
theorem told100002 (R : Type) (k : Nat) : ∀ K st, mexec (env R k) k 0 (joinIn Go.Proofs.Tryd.f72 2) (Env.wrap (env R k) 100002 K) st = L R k 100002 (joinIn Go.Proofs.Tryd.f72 2) K st := jell_eq (lk := fun K p => l100002 k (fun q => K (.ret) (l100002Xret q)) (fun q => K (.norm) (l100002Xnorm q)) p) l100002S (viewS_eq (fun x => by kernel_rfl)) (by
  rintro K ⟨t15, b0_0, b0_1, b1_0, b1_1⟩
  refine (mexecG_eq (L := L R k) _ (by rw [told100002L]; exact trivial) _ _).trans ?_
  kernel_rfl)
theorem told (R : Type) (k : Nat) : Told (L R k) (env R k) k 0 ((Go.Proofs.Tryd.f72.body).getD .skip) = [∀ K st, mexec (env R k) k 0 (joinIn Go.Proofs.Tryd.f72 2) (Env.wrap (env R k) 100002 K) st = L R k 100002 (joinIn Go.Proofs.Tryd.f72 2) K st, ∀ K st, mexec (env R k) k 0 (joinIn Go.Proofs.Tryd.f72 3) (Env.wrap (env R k) 100003 K) st = L R k 100003 (joinIn Go.Proofs.Tryd.f72 3) K st] := by kernel_rfl
theorem run (k : Nat) (R : Type) (dec : Out El → Option R) st : mexec (env R k) k 0 ((Go.Proofs.Tryd.f72.body).getD .skip) (mend Go.Proofs.Tryd.prog [.tmp 4, .tmp 5, .tmp 6] [.any, .any, .any] 0 dec) st = mexecG (L R k) (env R k) 0 ((Go.Proofs.Tryd.f72.body).getD .skip) (mend Go.Proofs.Tryd.prog [.tmp 4, .tmp 5, .tmp 6] [.any, .any, .any] 0 dec) st := mexecG_eq _ (by rw [told]; exact ⟨told100002 R k, told100003 R k, trivial⟩) _ _
noncomputable def entry (k : Nat) : Entry El := ⟨[.any, .any], 0, specOf decA (F k) outOf⟩
theorem ok (k : Nat) : FnOK Go.Proofs.Tryd.prog 72 0 (specOf decA (F k) outOf) := fnOK_of (fn := Go.Proofs.Tryd.f72) (c := (Go.Proofs.Tryd.f72.body).getD .skip) (by kernel_rfl) (by kernel_rfl) (envOK _ k) (by kernel_rfl) k [.any, .any, .any] (nt := 23) (by kernel_rfl) (rs := [.tmp 4, .tmp 5, .tmp 6]) (by kernel_rfl) decA (F k) dec outOf
  (by intro out y h; unfold dec at h; split at h <;> cases h; rfl)
  (by intro ds objs next a h; obtain ⟨rfl, rfl, rfl⟩ := decS_eq (stc := inS) (fun x => by kernel_rfl) h; obtain ⟨a0_0, a0_1, a1_0, a1_1⟩ := a; exact (run k _ dec _).trans (by kernel_rfl))
theorem enter : ∀ args w, (callFunc 72 args).run Go.Proofs.Tryd.prog w = .ok (.enter 72 args) w := fun _ _ => by kernel_rfl
end Fn.f72

