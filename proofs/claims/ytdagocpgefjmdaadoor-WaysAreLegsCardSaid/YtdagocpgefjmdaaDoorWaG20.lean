/-
  Functions given by hand: what they compute, out of the contracts of the shelf or of walks. Conditions: in each contract.
-/
import Derived.Test.YtdagocpgefjmdaaDoorWaF10
import Derived.Test.YtdagocpgefjmdaaDoorShelfB
import Derived.Below
import Derived.Deep.Draws
import Derived.Deep.AppendLies
import Derived.Maps.AppendAt
import Derived.OwnWalk
import Derived.Laws.BytesArg
import Derived.Laws.MakeOwn
import Derived.Laws.OwnMore
import Derived.Deep.OwnRows
import Derived.Deep.RegionWith
import Derived.Deep.QuietTactic
import Derived.BigQuiet
import Derived.WideMake
import Derived.Tactics
import Derived.Lib.ConvBytes
import Derived.Laws.Slices
import Derived.WalkKit
import Derived.KernelRfl
import Derived.RowKit3
import Derived.Deep.LoopGhost
import Derived.WideLaws
import Derived.Deep.DeepCutAuto
import Derived.Deep.CutBlock
import Derived.Deep.RegionHeld3
import Derived.Laws.Rows
import Derived.Lib.AppendStr
import Derived.ArgAppend
import Derived.Laws.IdiomCopy
import Derived.RowKit
set_option linter.unusedVariables false
set_option linter.unusedSectionVars false
set_option linter.unusedSimpArgs false
open Go Go.M Go.Proofs Go.RowKit T
set_option linter.unusedVariables false
set_option maxRecDepth 100000
set_option maxHeartbeats 4000000
namespace Fn.f32
structure Aside0 (p : Prop) : Prop where mk :: (out : p)
theorem below_alloc {w W : World} (h : Below w.heap.size w W) (o : Obj) : Below w.heap.size w (W.alloc o) := h.alloc h.size o
theorem pw_below_drewN {B : Nat} {w W : World} (h : Below B w W) (n : Nat) : Below B w (W.drewN n) := ⟨h.os, h.tape, h.output, h.size, h.block⟩
theorem below_then {B : Nat} {w w1 w2 : World} (h : Below B w w1) (hB : B ≤ w1.heap.size) (k : Below w1.heap.size w1 w2) : Below B w w2 :=
  h.trans ⟨k.os, k.tape, k.output, k.size, fun i hi => k.block i (Nat.lt_of_lt_of_le hi hB)⟩
theorem pw_below_grown {B : Nat} {w w1 : World} (h : Below B w w1) (row : Option Nat) (hB : B ≤ w1.heap.size) {w2 : World} (hg : w1.grownBy w2 row) (hr : ∀ k, row = some k → B ≤ k) : Below B w w2 := h.grown hg hB hr
theorem blk_lt {w : World} {g : Nat} {o : Obj} (h : w.heap[g]? = some o) : g < w.heap.size := (Array.getElem?_eq_some_iff.1 h).1
theorem blk_cell {w : World} {g : Nat} {t : TypeId} {cs : Array Value} (h : w.heap[g]? = some (.cells cs t (0, 0))) (i : Nat) : w.cell? ⟨g, i, none⟩ = cs[i]? := cell_of_row w g i cs t (0, 0) h
theorem blk_grown {w w1 : World} {g : Nat} {o : Obj} {row : Option Nat} (h : w.heap[g]? = some o) (hg : w.grownBy w1 row) (hne : some g ≠ row) : w1.heap[g]? = some o := (hg.block g (blk_lt h) hne).trans h
theorem blk_alloc {w : World} {g : Nat} {o : Obj} (h : w.heap[g]? = some o) (o' : Obj) : (w.alloc o').heap[g]? = some o := (Below.heap_alloc w o' g (blk_lt h)).trans h
theorem blk_drewN {w : World} {g : Nat} {o : Obj} (h : w.heap[g]? = some o) (n : Nat) : (w.drewN n).heap[g]? = some o := h
theorem blk_below {w w1 : World} {g : Nat} {o : Obj} (h : w.heap[g]? = some o) (hb : Below w.heap.size w w1) : w1.heap[g]? = some o := (hb.block g (blk_lt h)).trans h
theorem below_size {w W : World} (h : Below w.heap.size w W) : w.heap.size ≤ W.heap.size := h.size
theorem below_step {w W w2 : World} (h : Below w.heap.size w W) (k : Below W.heap.size W w2) : Below w.heap.size w w2 := below_then h h.size k

def smallL : List UInt8 := [97, 98, 99, 100, 101, 102, 103, 104, 105, 106, 107, 108, 109, 110, 111, 112, 113, 114, 115, 116, 117, 118, 119, 120, 121, 122]
def cutL : List UInt8 := smallL ++ [48, 49, 50, 51, 52, 53, 54, 55, 56, 57, 45, 95]
theorem cut_ascii : ∀ b ∈ cutL, b.toNat < 128 := by decide
theorem trim_any (s : ByteArray) (w : World) (hs : s.size ≤ 9223372036854775807) :
    Calls Tryd.prog 140 #[.string s, .string ⟨cutL.toArray⟩] w fun e w' => e = .returned (.string ⟨(Lib.trimS s.data.toList cutL).toArray⟩) ∧ Below w.heap.size w w' :=
  Go.Proofs.Any.strings_Trim_laid Tryd.lays160 (by kernel_rfl) s ⟨cutL.toArray⟩ w hs (by decide) (fun j b h => cut_ascii b (List.mem_of_getElem? h))
def headB (s : ByteArray) : UInt8 := s.data.toList.headD 0
def keyB (s : ByteArray) : Bool := if s.toList = [] then false else if (s.size : Int) ≤ 40 then (if 0 ≤ Lib.indexByte smallL (headB s) then (!s.toList.isEmpty && (Lib.trimS s.data.toList cutL).isEmpty) else false) else false
theorem headB_get (s : ByteArray) (h : 0 < s.size) : s[0] = headB s := by
  unfold headB
  have : s.data.toList ≠ [] := by
    intro e
    have : s.data.toList.length = 0 := by rw [e]; rfl
    simp at this
    simp [ByteArray.size, this] at h
  rcases s with ⟨⟨l⟩⟩
  cases l with
  | nil => exact absurd rfl this
  | cons a l => rfl
theorem nil_size (s : ByteArray) (h : ¬ 0 < s.size) : s.toList = [] := by
  obtain ⟨⟨l⟩⟩ := s
  cases l with
  | nil => simp
  | cons a l => exact absurd (by simp [ByteArray.size]) h
set_option maxRecDepth 100000 in
theorem key_walk (s : ByteArray) (w : World) (hs : s.size ≤ 9223372036854775807) : Calls Tryd.prog 95 #[.string s] w fun e w' => e = .returned (.bool (keyB s)) ∧ Below w.heap.size w w' := by
  go_enter Tryd.func95, Tryd.ntmps95
  go_wp2_with (first | (go_at_call 129; refine (Tryd.strings_IndexByte ⟨smallL.toArray⟩ _ _).mono ?_; rintro e w' ⟨rfl, rfl⟩) | (go_at_call 140; refine (trim_any s _ hs).mono ?_; rintro e w' ⟨rfl, hb⟩))
  all_goals (try go_ret)
  · exact ⟨by unfold keyB; rw [if_pos (by assumption)]; rfl, Below.refl _ _⟩
  · rename_i h1 h2 h3 _ h4
    rw [headB_get s h3] at h4
    exact ⟨by unfold keyB; rw [if_neg h1, if_pos h2, if_pos h4]; rfl, hb⟩
  · rename_i h1 h2 h3 h4
    rw [headB_get s h3] at h4
    exact ⟨by unfold keyB; rw [if_neg h1, if_pos h2, if_neg (by omega)]; rfl, Below.refl _ _⟩
  · rename_i h1 h2 _ _ h3
    exact absurd (nil_size s h3) h1
  · rename_i h1 h2
    exact ⟨by unfold keyB; rw [if_neg h1, if_neg (by omega)]; rfl, Below.refl _ _⟩

abbrev sA : ByteArray := ⟨#[97]⟩
abbrev sB : ByteArray := ⟨#[98]⟩
abbrev sC : ByteArray := ⟨#[99]⟩
theorem keyA : keyB sA = true := by decide +kernel
theorem keyBb : keyB sB = true := by decide +kernel
theorem keyC : keyB sC = true := by decide +kernel
theorem key_abc (s : ByteArray) (w : World) (h : s = sA ∨ s = sB ∨ s = sC) : Calls Tryd.prog 95 #[.string s] w fun e w' => e = .returned (.bool true) ∧ Below w.heap.size w w' := by
  have hz : s.size ≤ 9223372036854775807 := by rcases h with rfl | rfl | rfl <;> decide
  have hk : keyB s = true := by rcases h with rfl | rfl | rfl <;> first | exact keyA | exact keyBb | exact keyC
  exact (key_walk s w hz).mono fun e w' ⟨h1, h2⟩ => ⟨by rw [h1, hk], h2⟩
abbrev abc : Obj := .cells #[.string sA, .string sB, .string sC] 9 (0, 0)
theorem leBA (w : World) : Sem.run Tryd.prog (binOp BinOp.leq 9 (.string sB) (.string sA)) w = .ok (.bool false) w := by kernel_rfl
theorem leCB (w : World) : Sem.run Tryd.prog (binOp BinOp.leq 9 (.string sC) (.string sB)) w = .ok (.bool false) w := by kernel_rfl
set_option maxRecDepth 100000 in
theorem for_walk (g : Nat) (w : World) (hg : w.heap[g]? = some abc) : Calls Tryd.prog 181 #[.slice (some ⟨g, 0, none⟩) 3 3] w fun e w' => e = .returned (.int .i64 0) ∧ Below w.heap.size w w' := by
  have c0 : w.cell? ⟨g, 0, none⟩ = some (.string sA) := (blk_cell hg 0).trans rfl
  have c1 : w.cell? ⟨g, 1, none⟩ = some (.string sB) := (blk_cell hg 1).trans rfl
  have c2 : w.cell? ⟨g, 2, none⟩ = some (.string sC) := (blk_cell hg 2).trans rfl
  have G := Aside0.mk hg
  have HB := Aside0.mk (Below.refl w.heap.size w)
  clear hg
  have l1 := leBA
  have l2 := leCB
  go_enter Tryd.func181, Tryd.ntmps181
  go_wp2
  refine wp_loop_rounds 4 ?_
  rw [rounds_succ]
  go_wp2_with (first | (go_at_call 95; refine (key_abc _ _ (by first | exact .inl rfl | exact .inr (.inl rfl) | exact .inr (.inr rfl))).mono ?_; rintro e w' ⟨rfl, hb⟩; have n0 := blk_below G.out hb; have n1 := below_step HB.out hb; clear G HB c0 c1 c2 hb; have G := Aside0.mk n0; have HB := Aside0.mk n1; have c0 : w'.cell? ⟨g, 0, none⟩ = some (.string sA) := (blk_cell n0 0).trans rfl; have c1 : w'.cell? ⟨g, 1, none⟩ = some (.string sB) := (blk_cell n0 1).trans rfl; have c2 : w'.cell? ⟨g, 2, none⟩ = some (.string sC) := (blk_cell n0 2).trans rfl; clear n0 n1))
  rw [rounds_succ]
  go_wp2_with (first | (go_at_call 95; refine (key_abc _ _ (by first | exact .inl rfl | exact .inr (.inl rfl) | exact .inr (.inr rfl))).mono ?_; rintro e w' ⟨rfl, hb⟩; have n0 := blk_below G.out hb; have n1 := below_step HB.out hb; clear G HB c0 c1 c2 hb; have G := Aside0.mk n0; have HB := Aside0.mk n1; have c0 : w'.cell? ⟨g, 0, none⟩ = some (.string sA) := (blk_cell n0 0).trans rfl; have c1 : w'.cell? ⟨g, 1, none⟩ = some (.string sB) := (blk_cell n0 1).trans rfl; have c2 : w'.cell? ⟨g, 2, none⟩ = some (.string sC) := (blk_cell n0 2).trans rfl; clear n0 n1))
  rw [rounds_succ]
  go_wp2_with (first | (go_at_call 95; refine (key_abc _ _ (by first | exact .inl rfl | exact .inr (.inl rfl) | exact .inr (.inr rfl))).mono ?_; rintro e w' ⟨rfl, hb⟩; have n0 := blk_below G.out hb; have n1 := below_step HB.out hb; clear G HB c0 c1 c2 hb; have G := Aside0.mk n0; have HB := Aside0.mk n1; have c0 : w'.cell? ⟨g, 0, none⟩ = some (.string sA) := (blk_cell n0 0).trans rfl; have c1 : w'.cell? ⟨g, 1, none⟩ = some (.string sB) := (blk_cell n0 1).trans rfl; have c2 : w'.cell? ⟨g, 2, none⟩ = some (.string sC) := (blk_cell n0 2).trans rfl; clear n0 n1))
  rw [rounds_succ]
  go_wp2_with (first | (go_at_call 95; refine (key_abc _ _ (by first | exact .inl rfl | exact .inr (.inl rfl) | exact .inr (.inr rfl))).mono ?_; rintro e w' ⟨rfl, hb⟩; have n0 := blk_below G.out hb; have n1 := below_step HB.out hb; clear G HB c0 c1 c2 hb; have G := Aside0.mk n0; have HB := Aside0.mk n1; have c0 : w'.cell? ⟨g, 0, none⟩ = some (.string sA) := (blk_cell n0 0).trans rfl; have c1 : w'.cell? ⟨g, 1, none⟩ = some (.string sB) := (blk_cell n0 1).trans rfl; have c2 : w'.cell? ⟨g, 2, none⟩ = some (.string sC) := (blk_cell n0 2).trans rfl; clear n0 n1))
  go_ret
  exact ⟨rfl, HB.out⟩
theorem moment_walk (w : World) : Calls Tryd.prog 180 #[.int .i64 0] w fun e w' => e = .returned (.bool true) ∧ Below w.heap.size w w' := by
  go_enter Tryd.func180, Tryd.ntmps180
  go_wp2
  go_ret
  exact ⟨rfl, Below.refl _ _⟩
theorem cents_walk (w : World) : Calls Tryd.prog 74 #[.int .i64 100, .int .i64 1, .int .i64 100000000] w fun e w' => e = .returned (.bool false) ∧ Below w.heap.size w w' := by
  go_enter Tryd.func74, Tryd.ntmps74
  go_wp2
  go_ret
  exact ⟨rfl, Below.refl _ _⟩
theorem look_first {P : Program} (w : World) (mty kt et : TypeId) (r clock : Nat) (s : ByteArray) (z : Value) (hm : P.underlying mty = some (.map kt et)) (hk : P.underlying kt = some .string) (hb : w.heap[r]? = some (.map #[] clock)) (hz : (zeroValue et).run P w = .ok z w) :
    (Instr.lookup mty (.map (some r)) (.string s) false).run P w = .ok z w := by
  have hf : Instr.findNow .string (.string s) ([] : List MapEntry) 0 = some none := rfl
  have hc : (Instr.checkKey true 10000 kt (.string s)).run P w = .ok () w := MapKept.run_checkKey (k := .string s) hk (by simp [MapKept.IsKey]) true 9999
  simp [Instr.lookup, run_underlying hm, MapKept.run_getObj_map hb, hc, MapKept.run_findKey hk hf, hz, Result.andThen]
theorem below_obj {B : Nat} {w W : World} (h : Below B w W) (r : Nat) (o : Obj) (hr : B ≤ r) : Below B w { W with heap := W.heap.setIfInBounds r o } :=
  ⟨h.os, h.tape, h.output, by simpa using h.size, fun g hg => by
    show (W.heap.setIfInBounds r o)[g]? = w.heap[g]?
    rw [Array.getElem?_setIfInBounds_ne (by omega)]
    exact h.block g hg⟩
abbrev paid (g : Nat) : Obj := .cells #[.string sB, .string sA, .int .i64 0, .int .i64 100, .slice (some ⟨g, 0, none⟩) 3 3] 138 (0, 0)
set_option maxRecDepth 100000 in
theorem check_walk (g h : Nat) (w : World) (hg : w.heap[g]? = some abc) (hh : w.heap[h]? = some (paid g)) : Calls Tryd.prog 142 #[.slice (some ⟨h, 0, none⟩) 1 1] w fun e w' => e = .returned (.int .i64 0) ∧ Below w.heap.size w w' := by
  have c0 : w.cell? ⟨h, 0, none⟩ = some (.string sB) := (blk_cell hh 0).trans rfl
  have c1 : w.cell? ⟨h, 1, none⟩ = some (.string sA) := (blk_cell hh 1).trans rfl
  have c2 : w.cell? ⟨h, 2, none⟩ = some (.int .i64 0) := (blk_cell hh 2).trans rfl
  have c3 : w.cell? ⟨h, 3, none⟩ = some (.int .i64 100) := (blk_cell hh 3).trans rfl
  have c4 : w.cell? ⟨h, 4, none⟩ = some (.slice (some ⟨g, 0, none⟩) 3 3) := (blk_cell hh 4).trans rfl
  have G := Aside0.mk hg
  have H := Aside0.mk hh
  have HB := Aside0.mk (Below.refl w.heap.size w)
  clear hg hh
  go_enter Tryd.func142, Tryd.ntmps142
  go_wp2
  refine wp_loop_rounds 2 ?_
  rw [rounds_succ]
  go_wp2_with ((first | (go_at_call 95; refine (key_abc _ _ (by first | exact .inl rfl | exact .inr (.inl rfl) | exact .inr (.inr rfl))).mono ?_) | (go_at_call 180; refine (moment_walk _).mono ?_) | (go_at_call 74; refine (cents_walk _).mono ?_) | (go_at_call 181; refine (for_walk g _ (by first | exact G.out | exact blk_alloc G.out _)).mono ?_)); rintro e w' ⟨rfl, hb⟩; first | (have n3 := blk_below X.out hb; have n0 := blk_below G.out hb; have n1 := blk_below H.out hb; have n2 := below_step HB.out hb; clear G H HB X c0 c1 c2 c3 c4 x0 x1 x2 x3 x4 hb; have G := Aside0.mk n0; have H := Aside0.mk n1; have HB := Aside0.mk n2; have X := Aside0.mk n3; have c0 : w'.cell? ⟨h, 0, none⟩ = some (.string sB) := (blk_cell n1 0).trans rfl; have c1 : w'.cell? ⟨h, 1, none⟩ = some (.string sA) := (blk_cell n1 1).trans rfl; have c2 : w'.cell? ⟨h, 2, none⟩ = some (.int .i64 0) := (blk_cell n1 2).trans rfl; have c3 : w'.cell? ⟨h, 3, none⟩ = some (.int .i64 100) := (blk_cell n1 3).trans rfl; have c4 : w'.cell? ⟨h, 4, none⟩ = some (.slice (some ⟨g, 0, none⟩) 3 3) := (blk_cell n1 4).trans rfl; have x0 : w'.cell? ⟨_, 0, none⟩ = some (.string sB) := (blk_cell n3 0).trans rfl; have x1 : w'.cell? ⟨_, 1, none⟩ = some (.string sA) := (blk_cell n3 1).trans rfl; have x2 : w'.cell? ⟨_, 2, none⟩ = some (.int .i64 0) := (blk_cell n3 2).trans rfl; have x3 : w'.cell? ⟨_, 3, none⟩ = some (.int .i64 100) := (blk_cell n3 3).trans rfl; have x4 : w'.cell? ⟨_, 4, none⟩ = some (.slice (some ⟨g, 0, none⟩) 3 3) := (blk_cell n3 4).trans rfl; clear n0 n1 n2 n3) | (have n3 := blk_below (heap_alloc_new _ _) hb; have n0 := blk_below (blk_alloc G.out _) hb; have n1 := blk_below (blk_alloc H.out _) hb; have n2 := below_step (below_alloc HB.out _) hb; clear G H HB c0 c1 c2 c3 c4 hb; have G := Aside0.mk n0; have H := Aside0.mk n1; have HB := Aside0.mk n2; have X := Aside0.mk n3; have c0 : w'.cell? ⟨h, 0, none⟩ = some (.string sB) := (blk_cell n1 0).trans rfl; have c1 : w'.cell? ⟨h, 1, none⟩ = some (.string sA) := (blk_cell n1 1).trans rfl; have c2 : w'.cell? ⟨h, 2, none⟩ = some (.int .i64 0) := (blk_cell n1 2).trans rfl; have c3 : w'.cell? ⟨h, 3, none⟩ = some (.int .i64 100) := (blk_cell n1 3).trans rfl; have c4 : w'.cell? ⟨h, 4, none⟩ = some (.slice (some ⟨g, 0, none⟩) 3 3) := (blk_cell n1 4).trans rfl; have x0 : w'.cell? ⟨_, 0, none⟩ = some (.string sB) := (blk_cell n3 0).trans rfl; have x1 : w'.cell? ⟨_, 1, none⟩ = some (.string sA) := (blk_cell n3 1).trans rfl; have x2 : w'.cell? ⟨_, 2, none⟩ = some (.int .i64 0) := (blk_cell n3 2).trans rfl; have x3 : w'.cell? ⟨_, 3, none⟩ = some (.int .i64 100) := (blk_cell n3 3).trans rfl; have x4 : w'.cell? ⟨_, 4, none⟩ = some (.slice (some ⟨g, 0, none⟩) 3 3) := (blk_cell n3 4).trans rfl; clear n0 n1 n2 n3))
  go_quiet (fail)
  go_wp2
  rename_i nq _ _
  have hsz : w.heap.size ≤ w'.heap.size := below_size HB.out
  obtain ⟨W2, hW2⟩ : ∃ W2, W2 = (w'.drewN nq).alloc (Obj.map #[] 0) := ⟨_, rfl⟩
  have hmm : (Instr.makeMap 232 none).run Tryd.prog (w'.drewN nq) = .ok (.map (some w'.heap.size)) W2 := by rw [hW2]; rfl
  have n0 : W2.heap[g]? = some abc := by rw [hW2]; exact blk_alloc (blk_drewN G.out nq) _
  have n1 : W2.heap[h]? = some (paid g) := by rw [hW2]; exact blk_alloc (blk_drewN H.out nq) _
  have n2 : Below w.heap.size w W2 := by rw [hW2]; exact below_alloc (pw_below_drewN HB.out nq) _
  have n3 : W2.heap[w'.heap.size]? = some (Obj.map #[] 0) := by rw [hW2]; exact heap_alloc_new (w'.drewN nq) _
  have s2 : w'.heap.size < W2.heap.size := blk_lt n3
  clear G H HB X c0 c1 c2 c3 c4 x0 x1 x2 x3 x4 hW2
  have c0 : W2.cell? ⟨h, 0, none⟩ = some (.string sB) := (blk_cell n1 0).trans rfl
  have c1 : W2.cell? ⟨h, 1, none⟩ = some (.string sA) := (blk_cell n1 1).trans rfl
  have c2 : W2.cell? ⟨h, 2, none⟩ = some (.int .i64 0) := (blk_cell n1 2).trans rfl
  have c3 : W2.cell? ⟨h, 3, none⟩ = some (.int .i64 100) := (blk_cell n1 3).trans rfl
  have c4 : W2.cell? ⟨h, 4, none⟩ = some (.slice (some ⟨g, 0, none⟩) 3 3) := (blk_cell n1 4).trans rfl
  have N0 := Aside0.mk n0
  have N1 := Aside0.mk n1
  have N2 := Aside0.mk n2
  have N3 := Aside0.mk n3
  have S2 := Aside0.mk s2
  obtain ⟨W3, hW3⟩ : ∃ W3, W3 = W2.alloc (paid g) := ⟨_, rfl⟩
  obtain ⟨W4, hW4⟩ : ∃ W4 : World, W4 = { W3 with heap := W3.heap.setIfInBounds w'.heap.size (.map #[{ key := .string sB, val := .bool true, born := 0 }] (0 + 1)) } := ⟨_, rfl⟩
  have n4 : W3.heap[w'.heap.size]? = some (Obj.map #[] 0) := by rw [hW3]; exact blk_alloc n3 _
  have q1 : (Instr.lookup 232 (.map (some w'.heap.size)) (.string sB) false).run Tryd.prog (W2.alloc (paid g)) = .ok (.bool false) (W2.alloc (paid g)) := by
    rw [← hW3]
    exact look_first W3 232 9 4 _ 0 sB _ (by kernel_rfl) (by kernel_rfl) n4 (by first | rfl | kernel_rfl | simp)
  have q2 : (Instr.mapUpdate 232 (.map (some w'.heap.size)) (.string sB) (.bool true)).run Tryd.prog (W2.alloc (paid g)) = .ok () W4 := by
    rw [← hW3, hW4]
    exact run_mapUpdate_first W3 232 9 4 _ 0 sB _ (by kernel_rfl) (by kernel_rfl) n4
  have n5 : Below w.heap.size w W4 := by
    rw [hW4, hW3]
    exact below_obj (below_alloc n2 _) _ _ hsz
  have N5 := Aside0.mk n5
  clear n0 n1 n2 n3 s2 n4 n5 hW3 hW4
  rw [rounds_succ]
  go_wp2
  refine wp_loop_rounds 2 ?_
  rw [rounds_succ]
  go_wp2
  rw [rounds_succ]
  go_wp2
  go_ret
  exact ⟨rfl, N5.out⟩
abbrev paidV (g : Nat) : Value := .agg #[.string sB, .string sA, .int .i64 0, .int .i64 100, .slice (some ⟨g, 0, none⟩) 3 3]
set_option maxRecDepth 100000 in
theorem share_walk (g : Nat) (w : World) (i r : Int) (h : (i = 0 ∧ r = 34) ∨ (i = 1 ∧ r = 33) ∨ (i = 2 ∧ r = 33)) : Calls Tryd.prog 143 #[paidV g, .int .i64 i] w fun e w' => e = .returned (.int .i64 r) ∧ Below w.heap.size w w' := by
  rcases h with ⟨rfl, rfl⟩ | ⟨rfl, rfl⟩ | ⟨rfl, rfl⟩
  all_goals go_enter Tryd.func143, Tryd.ntmps143
  all_goals go_wp2
  all_goals go_ret
  all_goals exact ⟨rfl, below_alloc (Below.refl _ _) _⟩
abbrev s34 : ByteArray := ⟨#[51, 52]⟩
abbrev s33 : ByteArray := ⟨#[51, 51]⟩
theorem d34 : (Lib.decDigits 34).toArray = #[51, 52] := by decide +kernel
theorem d33 : (Lib.decDigits 33).toArray = #[51, 51] := by decide +kernel
theorem itoa34 (w : World) : Calls Tryd.prog 99 #[.int .i64 34] w fun e w' => e = .returned (.string s34) ∧ w' = w :=
  (Tryd.strconv_Itoa_small 34 (by decide) w).mono fun e w' ⟨h1, h2⟩ => ⟨h1.trans (by rw [d34]), h2⟩
theorem itoa33 (w : World) : Calls Tryd.prog 99 #[.int .i64 33] w fun e w' => e = .returned (.string s33) ∧ w' = w :=
  (Tryd.strconv_Itoa_small 33 (by decide) w).mono fun e w' ⟨h1, h2⟩ => ⟨h1.trans (by rw [d33]), h2⟩
theorem own_below {w w1 : World} {base : Nat} {e : TypeId} {size : Nat} {v : Value} {n : Nat} {xs : List Value} (h : w.ownsRow base e size v n xs) (hb : Below w.heap.size w w1) : w1.ownsRow base e size v n xs :=
  h.kept (row := none) ⟨hb.os, hb.tape, hb.output, hb.size, fun i hi _ => hb.block i hi⟩ (by cases hv : v.ownBlock with | none => exact .inl rfl | some k => exact .inr (by simp))
theorem lit_cells (w : World) (a b : Value) : ∀ j u, [a, b][j]? = some u → (w.alloc (.cells #[a, b] 140)).cell? ((⟨w.heap.size, 0, none⟩ : Addr).add j) = some u := by
  intro j u h
  match j, h with
  | 0, h => simp at h; subst h; simp [Addr.add]
  | 1, h => simp at h; subst h; simp [Addr.add]
  | j + 2, h => simp at h
def shareL : List Value := [.string sA, .string s34, .string sB, .string s33, .string sC, .string s33]
set_option maxRecDepth 100000 in
theorem shares_walk (g : Nat) (w : World) (hg : w.heap[g]? = some abc) : Calls Tryd.prog 93 #[paidV g] w fun e w' => ∃ r c, e = .returned (.tuple #[.slice (some ⟨r, 0, none⟩) 3 c, .int .i64 0]) ∧ Below w.heap.size w w' ∧ ∀ j u, shareL[j]? = some u → w'.cell? ⟨r, j, none⟩ = some u := by
  go_enter Tryd.func93, Tryd.ntmps93
  have hn : ((w.alloc (paid g)).alloc (paid g)).heap[w.heap.size + 1]? = some (paid g) := by
    have h := heap_alloc_new (w.alloc (paid g)) (paid g)
    rwa [show (w.alloc (paid g)).heap.size = w.heap.size + 1 from by simp] at h
  have ha := blk_alloc (blk_alloc hg (paid g)) (paid g)
  have hx := blk_alloc (heap_alloc_new w (paid g)) (paid g)
  have hB := below_alloc (below_alloc (Below.refl w.heap.size w) (paid g)) (paid g)
  have GL0 := Aside0.mk (blk_lt hg)
  have G := Aside0.mk ha
  have N := Aside0.mk hn
  have X := Aside0.mk hx
  have HB := Aside0.mk hB
  clear hg hn ha hx hB
  go_wp2_with (go_at_call 142; refine (check_walk g (w.heap.size + 1) _ G.out N.out).mono ?_; rintro e w1 ⟨rfl, hb⟩; have n0 := blk_below G.out hb; have n1 := blk_below X.out hb; have n2 := below_step HB.out hb; clear G N X HB hb; have G := Aside0.mk n0; have X := Aside0.mk n1; have HB := Aside0.mk n2; have x0 : w1.cell? ⟨w.heap.size, 0, none⟩ = some (.string sB) := (blk_cell n1 0).trans rfl; have x1 : w1.cell? ⟨w.heap.size, 1, none⟩ = some (.string sA) := (blk_cell n1 1).trans rfl; have x2 : w1.cell? ⟨w.heap.size, 2, none⟩ = some (.int .i64 0) := (blk_cell n1 2).trans rfl; have x3 : w1.cell? ⟨w.heap.size, 3, none⟩ = some (.int .i64 100) := (blk_cell n1 3).trans rfl; have x4 : w1.cell? ⟨w.heap.size, 4, none⟩ = some (.slice (some ⟨g, 0, none⟩) 3 3) := (blk_cell n1 4).trans rfl; have c0 : w1.cell? ⟨g, 0, none⟩ = some (.string sA) := (blk_cell n0 0).trans rfl; have c1 : w1.cell? ⟨g, 1, none⟩ = some (.string sB) := (blk_cell n0 1).trans rfl; have c2 : w1.cell? ⟨g, 2, none⟩ = some (.string sC) := (blk_cell n0 2).trans rfl; clear n0 n1 n2)
  have GL := Aside0.mk (Nat.lt_of_lt_of_le GL0.out (below_size HB.out))
  have XL := Aside0.mk (blk_lt X.out)
  have OW := Aside0.mk (World.ownsRow_nil w1 w1.heap.size 140 2)
  have HS := Aside0.mk (Below.refl w1.heap.size w1)
  refine wp_loop_rounds 4 ?_
  rw [rounds_succ]
  go_wp2_with (first
    | (go_at_call 143; refine (share_walk g _ _ _ (by first | exact .inl ⟨rfl, rfl⟩ | exact .inr (.inl ⟨rfl, rfl⟩) | exact .inr (.inr ⟨rfl, rfl⟩))).mono ?_; rintro e w' ⟨rfl, hb⟩; have n0 := blk_below G.out hb; have n1 := blk_below X.out hb; have n2 := below_step HB.out hb; have n3 := own_below OW.out hb; have n4 := below_step HS.out hb; clear G X HB HS OW c0 c1 c2 x0 x1 x2 x3 x4; have G := Aside0.mk n0; have X := Aside0.mk n1; have HB := Aside0.mk n2; have OW := Aside0.mk n3; have HS := Aside0.mk n4; have x0 : w'.cell? ⟨w.heap.size, 0, none⟩ = some (.string sB) := (blk_cell n1 0).trans rfl; have x1 : w'.cell? ⟨w.heap.size, 1, none⟩ = some (.string sA) := (blk_cell n1 1).trans rfl; have x2 : w'.cell? ⟨w.heap.size, 2, none⟩ = some (.int .i64 0) := (blk_cell n1 2).trans rfl; have x3 : w'.cell? ⟨w.heap.size, 3, none⟩ = some (.int .i64 100) := (blk_cell n1 3).trans rfl; have x4 : w'.cell? ⟨w.heap.size, 4, none⟩ = some (.slice (some ⟨g, 0, none⟩) 3 3) := (blk_cell n1 4).trans rfl; have c0 : w'.cell? ⟨g, 0, none⟩ = some (.string sA) := (blk_cell n0 0).trans rfl; have c1 : w'.cell? ⟨g, 1, none⟩ = some (.string sB) := (blk_cell n0 1).trans rfl; have c2 : w'.cell? ⟨g, 2, none⟩ = some (.string sC) := (blk_cell n0 2).trans rfl; clear n0 n1 n2 n3 n4 hb)
    | (go_at_call 99; refine (itoa34 _).mono ?_; rintro e w' ⟨rfl, rfl⟩)
    | (go_at_call 99; refine (itoa33 _).mono ?_; rintro e w' ⟨rfl, rfl⟩)
    | (at_builtin; go_loud (refine wpList_append_own_at _ rfl _ _ 134 rfl w1.heap.size 140 Tryd.t140 (.agg #[.string ⟨#[]⟩, .string ⟨#[]⟩]) 2 32 Tryd.underlying134 (by kernel_rfl) rfl rfl rfl rfl (by decide) _ _ _ rfl (OW.out.alloc _) ⟨_, 0, none⟩ 1 1 [_, _] rfl rfl (lit_cells _ _ _) (by intro u hu; simp at hu; rcases hu with rfl | rfl <;> rfl) (by decide) (by decide) (below_size (below_alloc HS.out _)) ?_; intro v' w2 hown' hgrow _ _; have n0 := blk_grown (blk_alloc G.out _) hgrow (fun e => absurd (OW.out.lt _ e.symm).1 (Nat.not_le.2 GL.out)); have n1 := blk_grown (blk_alloc X.out _) hgrow (fun e => absurd (OW.out.lt _ e.symm).1 (Nat.not_le.2 XL.out)); have n2 := pw_below_grown (below_alloc HB.out _) _ (below_size (below_alloc HB.out _)) hgrow (fun k e => Nat.le_trans (Nat.le_of_lt XL.out) (OW.out.lt k e).1); have n3 := hown'; have n4 := pw_below_grown (below_alloc HS.out _) _ (below_size (below_alloc HS.out _)) hgrow (fun k e => (OW.out.lt k e).1); clear G X HB HS OW c0 c1 c2 x0 x1 x2 x3 x4; have G := Aside0.mk n0; have X := Aside0.mk n1; have HB := Aside0.mk n2; have OW := Aside0.mk n3; have HS := Aside0.mk n4; have x0 : w2.cell? ⟨w.heap.size, 0, none⟩ = some (.string sB) := (blk_cell n1 0).trans rfl; have x1 : w2.cell? ⟨w.heap.size, 1, none⟩ = some (.string sA) := (blk_cell n1 1).trans rfl; have x2 : w2.cell? ⟨w.heap.size, 2, none⟩ = some (.int .i64 0) := (blk_cell n1 2).trans rfl; have x3 : w2.cell? ⟨w.heap.size, 3, none⟩ = some (.int .i64 100) := (blk_cell n1 3).trans rfl; have x4 : w2.cell? ⟨w.heap.size, 4, none⟩ = some (.slice (some ⟨g, 0, none⟩) 3 3) := (blk_cell n1 4).trans rfl; have c0 : w2.cell? ⟨g, 0, none⟩ = some (.string sA) := (blk_cell n0 0).trans rfl; have c1 : w2.cell? ⟨g, 1, none⟩ = some (.string sB) := (blk_cell n0 1).trans rfl; have c2 : w2.cell? ⟨g, 2, none⟩ = some (.string sC) := (blk_cell n0 2).trans rfl; clear n0 n1 n2 n3 n4 hown' hgrow)))
  rw [rounds_succ]
  go_wp2_with (first
    | (go_at_call 143; refine (share_walk g _ _ _ (by first | exact .inl ⟨rfl, rfl⟩ | exact .inr (.inl ⟨rfl, rfl⟩) | exact .inr (.inr ⟨rfl, rfl⟩))).mono ?_; rintro e w' ⟨rfl, hb⟩; have n0 := blk_below G.out hb; have n1 := blk_below X.out hb; have n2 := below_step HB.out hb; have n3 := own_below OW.out hb; have n4 := below_step HS.out hb; clear G X HB HS OW c0 c1 c2 x0 x1 x2 x3 x4; have G := Aside0.mk n0; have X := Aside0.mk n1; have HB := Aside0.mk n2; have OW := Aside0.mk n3; have HS := Aside0.mk n4; have x0 : w'.cell? ⟨w.heap.size, 0, none⟩ = some (.string sB) := (blk_cell n1 0).trans rfl; have x1 : w'.cell? ⟨w.heap.size, 1, none⟩ = some (.string sA) := (blk_cell n1 1).trans rfl; have x2 : w'.cell? ⟨w.heap.size, 2, none⟩ = some (.int .i64 0) := (blk_cell n1 2).trans rfl; have x3 : w'.cell? ⟨w.heap.size, 3, none⟩ = some (.int .i64 100) := (blk_cell n1 3).trans rfl; have x4 : w'.cell? ⟨w.heap.size, 4, none⟩ = some (.slice (some ⟨g, 0, none⟩) 3 3) := (blk_cell n1 4).trans rfl; have c0 : w'.cell? ⟨g, 0, none⟩ = some (.string sA) := (blk_cell n0 0).trans rfl; have c1 : w'.cell? ⟨g, 1, none⟩ = some (.string sB) := (blk_cell n0 1).trans rfl; have c2 : w'.cell? ⟨g, 2, none⟩ = some (.string sC) := (blk_cell n0 2).trans rfl; clear n0 n1 n2 n3 n4 hb)
    | (go_at_call 99; refine (itoa34 _).mono ?_; rintro e w' ⟨rfl, rfl⟩)
    | (go_at_call 99; refine (itoa33 _).mono ?_; rintro e w' ⟨rfl, rfl⟩)
    | (at_builtin; go_loud (refine wpList_append_own_at _ rfl _ _ 134 rfl w1.heap.size 140 Tryd.t140 (.agg #[.string ⟨#[]⟩, .string ⟨#[]⟩]) 2 32 Tryd.underlying134 (by kernel_rfl) rfl rfl rfl rfl (by decide) _ _ _ rfl (OW.out.alloc _) ⟨_, 0, none⟩ 1 1 [_, _] rfl rfl (lit_cells _ _ _) (by intro u hu; simp at hu; rcases hu with rfl | rfl <;> rfl) (by decide) (by decide) (below_size (below_alloc HS.out _)) ?_; intro v' w2 hown' hgrow _ _; have n0 := blk_grown (blk_alloc G.out _) hgrow (fun e => absurd (OW.out.lt _ e.symm).1 (Nat.not_le.2 GL.out)); have n1 := blk_grown (blk_alloc X.out _) hgrow (fun e => absurd (OW.out.lt _ e.symm).1 (Nat.not_le.2 XL.out)); have n2 := pw_below_grown (below_alloc HB.out _) _ (below_size (below_alloc HB.out _)) hgrow (fun k e => Nat.le_trans (Nat.le_of_lt XL.out) (OW.out.lt k e).1); have n3 := hown'; have n4 := pw_below_grown (below_alloc HS.out _) _ (below_size (below_alloc HS.out _)) hgrow (fun k e => (OW.out.lt k e).1); clear G X HB HS OW c0 c1 c2 x0 x1 x2 x3 x4; have G := Aside0.mk n0; have X := Aside0.mk n1; have HB := Aside0.mk n2; have OW := Aside0.mk n3; have HS := Aside0.mk n4; have x0 : w2.cell? ⟨w.heap.size, 0, none⟩ = some (.string sB) := (blk_cell n1 0).trans rfl; have x1 : w2.cell? ⟨w.heap.size, 1, none⟩ = some (.string sA) := (blk_cell n1 1).trans rfl; have x2 : w2.cell? ⟨w.heap.size, 2, none⟩ = some (.int .i64 0) := (blk_cell n1 2).trans rfl; have x3 : w2.cell? ⟨w.heap.size, 3, none⟩ = some (.int .i64 100) := (blk_cell n1 3).trans rfl; have x4 : w2.cell? ⟨w.heap.size, 4, none⟩ = some (.slice (some ⟨g, 0, none⟩) 3 3) := (blk_cell n1 4).trans rfl; have c0 : w2.cell? ⟨g, 0, none⟩ = some (.string sA) := (blk_cell n0 0).trans rfl; have c1 : w2.cell? ⟨g, 1, none⟩ = some (.string sB) := (blk_cell n0 1).trans rfl; have c2 : w2.cell? ⟨g, 2, none⟩ = some (.string sC) := (blk_cell n0 2).trans rfl; clear n0 n1 n2 n3 n4 hown' hgrow)))
  rw [rounds_succ]
  go_wp2_with (first
    | (go_at_call 143; refine (share_walk g _ _ _ (by first | exact .inl ⟨rfl, rfl⟩ | exact .inr (.inl ⟨rfl, rfl⟩) | exact .inr (.inr ⟨rfl, rfl⟩))).mono ?_; rintro e w' ⟨rfl, hb⟩; have n0 := blk_below G.out hb; have n1 := blk_below X.out hb; have n2 := below_step HB.out hb; have n3 := own_below OW.out hb; have n4 := below_step HS.out hb; clear G X HB HS OW c0 c1 c2 x0 x1 x2 x3 x4; have G := Aside0.mk n0; have X := Aside0.mk n1; have HB := Aside0.mk n2; have OW := Aside0.mk n3; have HS := Aside0.mk n4; have x0 : w'.cell? ⟨w.heap.size, 0, none⟩ = some (.string sB) := (blk_cell n1 0).trans rfl; have x1 : w'.cell? ⟨w.heap.size, 1, none⟩ = some (.string sA) := (blk_cell n1 1).trans rfl; have x2 : w'.cell? ⟨w.heap.size, 2, none⟩ = some (.int .i64 0) := (blk_cell n1 2).trans rfl; have x3 : w'.cell? ⟨w.heap.size, 3, none⟩ = some (.int .i64 100) := (blk_cell n1 3).trans rfl; have x4 : w'.cell? ⟨w.heap.size, 4, none⟩ = some (.slice (some ⟨g, 0, none⟩) 3 3) := (blk_cell n1 4).trans rfl; have c0 : w'.cell? ⟨g, 0, none⟩ = some (.string sA) := (blk_cell n0 0).trans rfl; have c1 : w'.cell? ⟨g, 1, none⟩ = some (.string sB) := (blk_cell n0 1).trans rfl; have c2 : w'.cell? ⟨g, 2, none⟩ = some (.string sC) := (blk_cell n0 2).trans rfl; clear n0 n1 n2 n3 n4 hb)
    | (go_at_call 99; refine (itoa34 _).mono ?_; rintro e w' ⟨rfl, rfl⟩)
    | (go_at_call 99; refine (itoa33 _).mono ?_; rintro e w' ⟨rfl, rfl⟩)
    | (at_builtin; go_loud (refine wpList_append_own_at _ rfl _ _ 134 rfl w1.heap.size 140 Tryd.t140 (.agg #[.string ⟨#[]⟩, .string ⟨#[]⟩]) 2 32 Tryd.underlying134 (by kernel_rfl) rfl rfl rfl rfl (by decide) _ _ _ rfl (OW.out.alloc _) ⟨_, 0, none⟩ 1 1 [_, _] rfl rfl (lit_cells _ _ _) (by intro u hu; simp at hu; rcases hu with rfl | rfl <;> rfl) (by decide) (by decide) (below_size (below_alloc HS.out _)) ?_; intro v' w2 hown' hgrow _ _; have n0 := blk_grown (blk_alloc G.out _) hgrow (fun e => absurd (OW.out.lt _ e.symm).1 (Nat.not_le.2 GL.out)); have n1 := blk_grown (blk_alloc X.out _) hgrow (fun e => absurd (OW.out.lt _ e.symm).1 (Nat.not_le.2 XL.out)); have n2 := pw_below_grown (below_alloc HB.out _) _ (below_size (below_alloc HB.out _)) hgrow (fun k e => Nat.le_trans (Nat.le_of_lt XL.out) (OW.out.lt k e).1); have n3 := hown'; have n4 := pw_below_grown (below_alloc HS.out _) _ (below_size (below_alloc HS.out _)) hgrow (fun k e => (OW.out.lt k e).1); clear G X HB HS OW c0 c1 c2 x0 x1 x2 x3 x4; have G := Aside0.mk n0; have X := Aside0.mk n1; have HB := Aside0.mk n2; have OW := Aside0.mk n3; have HS := Aside0.mk n4; have x0 : w2.cell? ⟨w.heap.size, 0, none⟩ = some (.string sB) := (blk_cell n1 0).trans rfl; have x1 : w2.cell? ⟨w.heap.size, 1, none⟩ = some (.string sA) := (blk_cell n1 1).trans rfl; have x2 : w2.cell? ⟨w.heap.size, 2, none⟩ = some (.int .i64 0) := (blk_cell n1 2).trans rfl; have x3 : w2.cell? ⟨w.heap.size, 3, none⟩ = some (.int .i64 100) := (blk_cell n1 3).trans rfl; have x4 : w2.cell? ⟨w.heap.size, 4, none⟩ = some (.slice (some ⟨g, 0, none⟩) 3 3) := (blk_cell n1 4).trans rfl; have c0 : w2.cell? ⟨g, 0, none⟩ = some (.string sA) := (blk_cell n0 0).trans rfl; have c1 : w2.cell? ⟨g, 1, none⟩ = some (.string sB) := (blk_cell n0 1).trans rfl; have c2 : w2.cell? ⟨g, 2, none⟩ = some (.string sC) := (blk_cell n0 2).trans rfl; clear n0 n1 n2 n3 n4 hown' hgrow)))
  rw [rounds_succ]
  go_wp2
  go_ret2
  have hO := OW.out
  clear OW
  obtain ⟨r, c, rfl, _, _⟩ := hO.form (by decide)
  exact ⟨r, c, rfl, HB.out, fun j u h => by
    have q := hO.cells rfl j u h
    by_cases hj : j = 0
    · subst hj
      simpa [Addr.add] using q
    · simpa [Addr.add, hj] using q⟩
theorem agg2 {w : World} {S : Nat → Prop} {β : Beta} (x y : Int) : VRel w S β (.agg #[.int .i64 x, .int .i64 y]) (.agg [.int .i64 x, .int .i64 y] : D El) := by
  refine .agg _ _ rfl (fun i v d p q => ?_) (fun d hd => ?_)
  · rcases i with _ | _ | i <;> simp at p q <;> subst p <;> subst q <;> constructor
  · simp only [List.mem_cons, List.not_mem_nil, or_false] at hd
    rcases hd with rfl | rfl <;> rfl
theorem tup3 {w : World} {S : Nat → Prop} {β : Beta} {x z : Int} {b : Bool} {v : Value} (h : VRel w S β v (.tup [.int .i64 x, .bool b, .int .i64 z] : D El)) : v = .tuple #[.int .i64 x, .bool b, .int .i64 z] := by
  cases h with
  | tup vs _ h1 h2 =>
    have e : toVals ([.int .i64 x, .bool b, .int .i64 z] : List (D El)) = some [.int .i64 x, .bool b, .int .i64 z] := rfl
    have := toVals_rel (w := w) (S := S) (β := β) e (vs := vs.toList) ⟨by simpa using h1, fun i v d p q => h2 i v d (by simpa using p) q⟩
    rw [← Array.toArray_toList (xs := vs), this]
theorem tup2 {w : World} {S : Nat → Prop} {β : Beta} {s : ByteArray} {z : Int} {v : Value} (h : VRel w S β v (.tup [.str s, .int .i64 z] : D El)) : v = .tuple #[.string s, .int .i64 z] := by
  cases h with
  | tup vs _ h1 h2 =>
    have e : toVals ([.str s, .int .i64 z] : List (D El)) = some [.string s, .int .i64 z] := rfl
    have := toVals_rel (w := w) (S := S) (β := β) e (vs := vs.toList) ⟨by simpa using h1, fun i v d p q => h2 i v d (by simpa using p) q⟩
    rw [← Array.toArray_toList (xs := vs), this]
theorem comfort_c (w : World) (hL : LaidAt El w (fun r => r < w.heap.size)) : Calls Tryd.prog 72 #[.agg #[.int .i64 48, .int .i64 67], .agg #[.int .i64 50, .int .i64 64]] w fun e w' => e = .returned (.tuple #[.int .i64 2, .bool true, .int .i64 0]) ∧ Below w.heap.size w w' :=
  (Fn.f72.ok 0).plain (ds := [.agg [.int .i64 48, .int .i64 67], .agg [.int .i64 50, .int .i64 64]]) (a := (48, 67, 50, 64)) (y := (2, true, 0)) rfl (by kernel_rfl)
    (fun w S β => PtL.cons (agg2 _ _) (PtL.cons (agg2 _ _) ⟨rfl, fun i v d p q => by simp at q⟩))
    (fun w S β v' h => tup3 h) hL
theorem name_c (w : World) (hL : LaidAt El w (fun r => r < w.heap.size)) : Calls Tryd.prog 66 #[.int .i64 61] w fun e w' => e = .returned (.tuple #[.string ⟨#[99, 35, 52]⟩, .int .i64 0]) ∧ Below w.heap.size w w' :=
  (Fn.f66.ok 0).plain (ds := [.int .i64 61]) (a := 61) (y := (⟨#[99, 35, 52]⟩, 0)) rfl (by kernel_rfl)
    (fun w S β => PtL.cons (.int _ _) ⟨rfl, fun i v d p q => by simp at q⟩)
    (fun w S β v' h => tup2 h) hL
set_option maxRecDepth 100000 in
theorem ready_walk (w : World) (hL : LaidAt El w (fun r => r < w.heap.size)) : Calls Tryd.prog 32 #[] w fun e w' => e = .returned (.bool true) ∧ Below w.heap.size w w' := by
  have HB := Aside0.mk (Below.refl w.heap.size w)
  have LL := Aside0.mk hL
  clear hL
  go_enter Tryd.func32, Tryd.ntmps32
  go_wp2_with (first | (go_at_call 72; refine (comfort_c _ LL.out).mono ?_; rintro e w' ⟨rfl, hb⟩; have m0 := LaidAt.below LL.out hb; have n0 := below_step HB.out hb; clear HB LL hb; have HB := Aside0.mk n0; have LL := Aside0.mk m0; clear n0 m0) | (go_at_call 66; refine (name_c _ LL.out).mono ?_; rintro e w' ⟨rfl, hb⟩; have m0 := LaidAt.below LL.out hb; have n0 := below_step HB.out hb; clear HB LL hb; have HB := Aside0.mk n0; have LL := Aside0.mk m0; clear n0 m0) | (go_at_call 93; refine (shares_walk _ _ (heap_alloc_new _ _)).mono ?_; rintro e w' ⟨r, c, rfl, hb, hc⟩; have n0 := below_step (below_alloc HB.out _) hb; clear HB hb; have HB := Aside0.mk n0; clear n0; have c0 : w'.cell? ⟨r, 0, none⟩ = some (.string sA) := hc 0 _ rfl; have c1 : w'.cell? ⟨r, 1, none⟩ = some (.string s34) := hc 1 _ rfl; clear hc))
  go_ret
  exact ⟨rfl, HB.out⟩

noncomputable def F (k : Nat) : Unit → Option Bool := fun _ => some true
noncomputable def decA : List (D El) → List (Nat × MObj El) → Nat → Option Unit
  | [], [], 0 => some ()
  | _, _, _ => none
noncomputable def outOf (b : Bool) : Out El := ⟨.bool b, [], 0⟩
noncomputable def entry (k : Nat) : Entry El := ⟨[], 0, specOf decA (F k) outOf⟩
theorem ok (k : Nat) : FnOK Tryd.prog 32 0 (specOf decA (F k) outOf) :=
  fnOK_plainL decA (F k) outOf (fun s => []) (fun b => .bool b) (by intro ds objs next a h; unfold decA at h; split at h <;> cases h; exact ⟨rfl, rfl⟩) (fun y => ⟨rfl, rfl, fun w S β => .bool y⟩) (fun a y w hL h => by cases h; exact ready_walk w hL)
theorem enter : ∀ args w, (callFunc 32 args).run Tryd.prog w = .ok (.enter 32 args) w := fun _ _ => by kernel_rfl
end Fn.f32

