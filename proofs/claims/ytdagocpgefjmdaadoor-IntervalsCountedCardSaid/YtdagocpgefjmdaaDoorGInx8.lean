import Derived.Test.YtdagocpgefjmdaaDoorGInx0
import Derived.Test.YtdagocpgefjmdaaDoorGInx4
import Derived.Test.YtdagocpgefjmdaaDoorGInx7
namespace Go.Proofs.YtdagocpgefjmdaaDoor.PIntervalsCounted
open Go.RowKit Go.Proofs.YtdagocpgefjmdaaDoorW.PrintWords Go.Proofs.YtdagocpgefjmdaaDoorW.PrintLast Go.Proofs.YtdagocpgefjmdaaDoorW.PrintMore
attribute [local go_sem] max2_int min2_int max_two min_two max_three min_three max_four min_four   -- for this text's walks alone
set_option linter.unusedVariables false
set_option linter.unusedSimpArgs false

/-! ### gleeref1_IntervalOf: function 18 -/
mutual
def gleeref1_IntervalOf.j0 : Nat → Bool → Int → Int → Option (Int × Int × Int × Int × Int)
 | 0, _, _, _ => none
 | k + 1, x11, x224000, x224001 => if x11 = true then (some (0, 0, 0, 0, 1)) else ((gleeref1_divisor.f k x224000 x224001).bind fun t225 => (if t225 = 1 then ((some (([2, 3, 5, 7] : List Int) : List Int)).bind fun y227 => (gleeref1_IntervalOf.l0 k x224000 x224001 y227 (y227.length : Int) 0 0 0 0 0)) else (some (0, 0, 0, 0, 3))))
def gleeref1_IntervalOf.l0 : Nat → Int → Int → List Int → Int → Int → Int → Int → Int → Int → Option (Int × Int × Int × Int × Int)
 | 0, _, _, _, _, _, _, _, _, _ => none
 | k + 1, x4, x5, x33, x34, x35, x227000, x227001, x227002, x227003 => if x35 < x34 then (if 0 ≤ x35 then (if x35 < (x33.length : Int) then (gleeref1_IntervalOf.l1 k x4 x5 x35 (rd x33 x35) x33 x34 x35 x227000 x227001 x227002 x227003) else (none)) else (none)) else (if x4 = 1 then (gleeref1_IntervalOf.j4 k (x5 != 1) x227000 x227001 x227002 x227003) else (gleeref1_IntervalOf.j4 k true x227000 x227001 x227002 x227003))
def gleeref1_IntervalOf.l1 : Nat → Int → Int → Int → Int → List Int → Int → Int → Int → Int → Int → Int → Option (Int × Int × Int × Int × Int)
 | 0, _, _, _, _, _, _, _, _, _, _, _ => none
 | k + 1, x4, x5, x7, x8, x33, x34, x35, x227000, x227001, x227002, x227003 => if x8 = 0 then (none) else (if (Int.tmod x4 x8) = 0 then (if 0 ≤ x7 then (if x7 < 4 then (if x7 = 0 then (gleeref1_IntervalOf.l1 k (wrap64 (Int.tdiv x4 x8)) x5 x7 x8 x33 x34 x35 (wrap64 (x227000 + 1)) x227001 x227002 x227003) else (if x7 = 1 then (gleeref1_IntervalOf.l1 k (wrap64 (Int.tdiv x4 x8)) x5 x7 x8 x33 x34 x35 x227000 (wrap64 (x227001 + 1)) x227002 x227003) else (if x7 = 2 then (gleeref1_IntervalOf.l1 k (wrap64 (Int.tdiv x4 x8)) x5 x7 x8 x33 x34 x35 x227000 x227001 (wrap64 (x227002 + 1)) x227003) else (if x7 = 3 then (gleeref1_IntervalOf.l1 k (wrap64 (Int.tdiv x4 x8)) x5 x7 x8 x33 x34 x35 x227000 x227001 x227002 (wrap64 (x227003 + 1))) else (none))))) else (none)) else (none)) else (gleeref1_IntervalOf.l2 k x4 x5 x7 x8 x33 x34 x35 x227000 x227001 x227002 x227003))
def gleeref1_IntervalOf.l2 : Nat → Int → Int → Int → Int → List Int → Int → Int → Int → Int → Int → Int → Option (Int × Int × Int × Int × Int)
 | 0, _, _, _, _, _, _, _, _, _, _, _ => none
 | k + 1, x4, x5, x7, x8, x33, x34, x35, x227000, x227001, x227002, x227003 => if x8 = 0 then (none) else (if (Int.tmod x5 x8) = 0 then (if 0 ≤ x7 then (if x7 < 4 then (if x7 = 0 then (gleeref1_IntervalOf.l2 k x4 (wrap64 (Int.tdiv x5 x8)) x7 x8 x33 x34 x35 (wrap64 (x227000 - 1)) x227001 x227002 x227003) else (if x7 = 1 then (gleeref1_IntervalOf.l2 k x4 (wrap64 (Int.tdiv x5 x8)) x7 x8 x33 x34 x35 x227000 (wrap64 (x227001 - 1)) x227002 x227003) else (if x7 = 2 then (gleeref1_IntervalOf.l2 k x4 (wrap64 (Int.tdiv x5 x8)) x7 x8 x33 x34 x35 x227000 x227001 (wrap64 (x227002 - 1)) x227003) else (if x7 = 3 then (gleeref1_IntervalOf.l2 k x4 (wrap64 (Int.tdiv x5 x8)) x7 x8 x33 x34 x35 x227000 x227001 x227002 (wrap64 (x227003 - 1))) else (none))))) else (none)) else (none)) else (gleeref1_IntervalOf.l0 k x4 x5 x33 x34 (wrap64 (x35 + 1)) x227000 x227001 x227002 x227003))
def gleeref1_IntervalOf.j4 : Nat → Bool → Int → Int → Int → Int → Option (Int × Int × Int × Int × Int)
 | 0, _, _, _, _, _ => none
 | k + 1, x70, x227000, x227001, x227002, x227003 => if x70 = true then (some (0, 0, 0, 0, 16)) else ((gleeref1_IntervalFault.f k x227000 x227001 x227002 x227003).bind fun t232 => (if t232 = 0 then (some (x227000, x227001, x227002, x227003, 0)) else (some (0, 0, 0, 0, t232))))
end
def gleeref1_IntervalOf.f (k : Nat) (a0_0 : Int) (a0_1 : Int) : Option (Int × Int × Int × Int × Int) := if a0_0 < 1 then (gleeref1_IntervalOf.j0 k true a0_0 a0_1) else (gleeref1_IntervalOf.j0 k (decide (a0_1 < 1)) a0_0 a0_1)
theorem gleeref1_IntervalOf.mono_l : ∀ k, (∀ y0 y1 y2, LeO (gleeref1_IntervalOf.j0 k y0 y1 y2) (gleeref1_IntervalOf.j0 (k + 1) y0 y1 y2)) ∧ (∀ y0 y1 y2 y3 y4 y5 y6 y7 y8, LeO (gleeref1_IntervalOf.l0 k y0 y1 y2 y3 y4 y5 y6 y7 y8) (gleeref1_IntervalOf.l0 (k + 1) y0 y1 y2 y3 y4 y5 y6 y7 y8)) ∧ (∀ y0 y1 y2 y3 y4 y5 y6 y7 y8 y9 y10, LeO (gleeref1_IntervalOf.l1 k y0 y1 y2 y3 y4 y5 y6 y7 y8 y9 y10) (gleeref1_IntervalOf.l1 (k + 1) y0 y1 y2 y3 y4 y5 y6 y7 y8 y9 y10)) ∧ (∀ y0 y1 y2 y3 y4 y5 y6 y7 y8 y9 y10, LeO (gleeref1_IntervalOf.l2 k y0 y1 y2 y3 y4 y5 y6 y7 y8 y9 y10) (gleeref1_IntervalOf.l2 (k + 1) y0 y1 y2 y3 y4 y5 y6 y7 y8 y9 y10)) ∧ (∀ y0 y1 y2 y3 y4, LeO (gleeref1_IntervalOf.j4 k y0 y1 y2 y3 y4) (gleeref1_IntervalOf.j4 (k + 1) y0 y1 y2 y3 y4))
 | 0 => ⟨fun _ _ _ r h => by simp [gleeref1_IntervalOf.j0] at h, fun _ _ _ _ _ _ _ _ _ r h => by simp [gleeref1_IntervalOf.l0] at h, fun _ _ _ _ _ _ _ _ _ _ _ r h => by simp [gleeref1_IntervalOf.l1] at h, fun _ _ _ _ _ _ _ _ _ _ _ r h => by simp [gleeref1_IntervalOf.l2] at h, fun _ _ _ _ _ r h => by simp [gleeref1_IntervalOf.j4] at h⟩
 | k + 1 => by
  obtain ⟨ih0, ih1, ih2, ih3, ih4⟩ := gleeref1_IntervalOf.mono_l k
  refine ⟨?_, ?_, ?_, ?_, ?_⟩
  ·
   intro y0 y1 y2
   unfold gleeref1_IntervalOf.j0
   repeat' first
   | (with_reducible exact ih0 _ _ _)
   | (with_reducible exact ih1 _ _ _ _ _ _ _ _ _)
   | (with_reducible exact ih2 _ _ _ _ _ _ _ _ _ _ _)
   | (with_reducible exact ih3 _ _ _ _ _ _ _ _ _ _ _)
   | (with_reducible exact ih4 _ _ _ _ _)
   | (with_reducible exact gleeref1_IntervalFault.mono _ _ _ _ _)
   | (with_reducible exact gleeref1_divisor.mono _ _ _)
   | (with_reducible exact LeO.refl _)
   | (with_reducible exact LeO.none _)
   | (with_reducible refine LeO.ite ?_ ?_)
   | (with_reducible refine LeO.bind ?_ (fun _ => ?_))
   | exact ih0 _ _ _
   | exact ih1 _ _ _ _ _ _ _ _ _
   | exact ih2 _ _ _ _ _ _ _ _ _ _ _
   | exact ih3 _ _ _ _ _ _ _ _ _ _ _
   | exact ih4 _ _ _ _ _
   | exact gleeref1_IntervalFault.mono _ _ _ _ _
   | exact gleeref1_divisor.mono _ _ _
   | exact LeO.none _
   | refine LeO.ite ?_ ?_
   | refine LeO.bind ?_ (fun _ => ?_)
  ·
   intro y0 y1 y2 y3 y4 y5 y6 y7 y8
   unfold gleeref1_IntervalOf.l0
   repeat' first
   | (with_reducible exact ih0 _ _ _)
   | (with_reducible exact ih1 _ _ _ _ _ _ _ _ _)
   | (with_reducible exact ih2 _ _ _ _ _ _ _ _ _ _ _)
   | (with_reducible exact ih3 _ _ _ _ _ _ _ _ _ _ _)
   | (with_reducible exact ih4 _ _ _ _ _)
   | (with_reducible exact gleeref1_IntervalFault.mono _ _ _ _ _)
   | (with_reducible exact gleeref1_divisor.mono _ _ _)
   | (with_reducible exact LeO.refl _)
   | (with_reducible exact LeO.none _)
   | (with_reducible refine LeO.ite ?_ ?_)
   | (with_reducible refine LeO.bind ?_ (fun _ => ?_))
   | exact ih0 _ _ _
   | exact ih1 _ _ _ _ _ _ _ _ _
   | exact ih2 _ _ _ _ _ _ _ _ _ _ _
   | exact ih3 _ _ _ _ _ _ _ _ _ _ _
   | exact ih4 _ _ _ _ _
   | exact gleeref1_IntervalFault.mono _ _ _ _ _
   | exact gleeref1_divisor.mono _ _ _
   | exact LeO.none _
   | refine LeO.ite ?_ ?_
   | refine LeO.bind ?_ (fun _ => ?_)
  ·
   intro y0 y1 y2 y3 y4 y5 y6 y7 y8 y9 y10
   unfold gleeref1_IntervalOf.l1
   repeat' first
   | (with_reducible exact ih0 _ _ _)
   | (with_reducible exact ih1 _ _ _ _ _ _ _ _ _)
   | (with_reducible exact ih2 _ _ _ _ _ _ _ _ _ _ _)
   | (with_reducible exact ih3 _ _ _ _ _ _ _ _ _ _ _)
   | (with_reducible exact ih4 _ _ _ _ _)
   | (with_reducible exact gleeref1_IntervalFault.mono _ _ _ _ _)
   | (with_reducible exact gleeref1_divisor.mono _ _ _)
   | (with_reducible exact LeO.refl _)
   | (with_reducible exact LeO.none _)
   | (with_reducible refine LeO.ite ?_ ?_)
   | (with_reducible refine LeO.bind ?_ (fun _ => ?_))
   | exact ih0 _ _ _
   | exact ih1 _ _ _ _ _ _ _ _ _
   | exact ih2 _ _ _ _ _ _ _ _ _ _ _
   | exact ih3 _ _ _ _ _ _ _ _ _ _ _
   | exact ih4 _ _ _ _ _
   | exact gleeref1_IntervalFault.mono _ _ _ _ _
   | exact gleeref1_divisor.mono _ _ _
   | exact LeO.none _
   | refine LeO.ite ?_ ?_
   | refine LeO.bind ?_ (fun _ => ?_)
  ·
   intro y0 y1 y2 y3 y4 y5 y6 y7 y8 y9 y10
   unfold gleeref1_IntervalOf.l2
   repeat' first
   | (with_reducible exact ih0 _ _ _)
   | (with_reducible exact ih1 _ _ _ _ _ _ _ _ _)
   | (with_reducible exact ih2 _ _ _ _ _ _ _ _ _ _ _)
   | (with_reducible exact ih3 _ _ _ _ _ _ _ _ _ _ _)
   | (with_reducible exact ih4 _ _ _ _ _)
   | (with_reducible exact gleeref1_IntervalFault.mono _ _ _ _ _)
   | (with_reducible exact gleeref1_divisor.mono _ _ _)
   | (with_reducible exact LeO.refl _)
   | (with_reducible exact LeO.none _)
   | (with_reducible refine LeO.ite ?_ ?_)
   | (with_reducible refine LeO.bind ?_ (fun _ => ?_))
   | exact ih0 _ _ _
   | exact ih1 _ _ _ _ _ _ _ _ _
   | exact ih2 _ _ _ _ _ _ _ _ _ _ _
   | exact ih3 _ _ _ _ _ _ _ _ _ _ _
   | exact ih4 _ _ _ _ _
   | exact gleeref1_IntervalFault.mono _ _ _ _ _
   | exact gleeref1_divisor.mono _ _ _
   | exact LeO.none _
   | refine LeO.ite ?_ ?_
   | refine LeO.bind ?_ (fun _ => ?_)
  ·
   intro y0 y1 y2 y3 y4
   unfold gleeref1_IntervalOf.j4
   repeat' first
   | (with_reducible exact ih0 _ _ _)
   | (with_reducible exact ih1 _ _ _ _ _ _ _ _ _)
   | (with_reducible exact ih2 _ _ _ _ _ _ _ _ _ _ _)
   | (with_reducible exact ih3 _ _ _ _ _ _ _ _ _ _ _)
   | (with_reducible exact ih4 _ _ _ _ _)
   | (with_reducible exact gleeref1_IntervalFault.mono _ _ _ _ _)
   | (with_reducible exact gleeref1_divisor.mono _ _ _)
   | (with_reducible exact LeO.refl _)
   | (with_reducible exact LeO.none _)
   | (with_reducible refine LeO.ite ?_ ?_)
   | (with_reducible refine LeO.bind ?_ (fun _ => ?_))
   | exact ih0 _ _ _
   | exact ih1 _ _ _ _ _ _ _ _ _
   | exact ih2 _ _ _ _ _ _ _ _ _ _ _
   | exact ih3 _ _ _ _ _ _ _ _ _ _ _
   | exact ih4 _ _ _ _ _
   | exact gleeref1_IntervalFault.mono _ _ _ _ _
   | exact gleeref1_divisor.mono _ _ _
   | exact LeO.none _
   | refine LeO.ite ?_ ?_
   | refine LeO.bind ?_ (fun _ => ?_)
theorem gleeref1_IntervalOf.mono : ∀ a0 a1 k, LeO (gleeref1_IntervalOf.f k a0 a1) (gleeref1_IntervalOf.f (k + 1) a0 a1) := by
 intro a0 a1 k
 obtain ⟨ih0, ih1, ih2, ih3, ih4⟩ := gleeref1_IntervalOf.mono_l k
 unfold gleeref1_IntervalOf.f
 repeat' first
   | (with_reducible exact ih0 _ _ _)
   | (with_reducible exact ih1 _ _ _ _ _ _ _ _ _)
   | (with_reducible exact ih2 _ _ _ _ _ _ _ _ _ _ _)
   | (with_reducible exact ih3 _ _ _ _ _ _ _ _ _ _ _)
   | (with_reducible exact ih4 _ _ _ _ _)
   | (with_reducible exact gleeref1_IntervalFault.mono _ _ _ _ _)
   | (with_reducible exact gleeref1_divisor.mono _ _ _)
   | (with_reducible exact LeO.refl _)
   | (with_reducible exact LeO.none _)
   | (with_reducible refine LeO.ite ?_ ?_)
   | (with_reducible refine LeO.bind ?_ (fun _ => ?_))
   | exact ih0 _ _ _
   | exact ih1 _ _ _ _ _ _ _ _ _
   | exact ih2 _ _ _ _ _ _ _ _ _ _ _
   | exact ih3 _ _ _ _ _ _ _ _ _ _ _
   | exact ih4 _ _ _ _ _
   | exact gleeref1_IntervalFault.mono _ _ _ _ _
   | exact gleeref1_divisor.mono _ _ _
   | exact LeO.none _
   | refine LeO.ite ?_ ?_
   | refine LeO.bind ?_ (fun _ => ?_)
set_option maxHeartbeats 8000000 in
set_option maxRecDepth 100000 in
theorem gleeref1_IntervalOf.calls (k : Nat) (a0_0 : Int) (a0_1 : Int) (r1 : Int) (r2 : Int) (r3 : Int) (r4 : Int) (r5 : Int) (w : World) (h : gleeref1_IntervalOf.f k a0_0 a0_1 = some (r1, r2, r3, r4, r5)) :
  Calls Tryd.prog 18 #[.agg #[.int .i64 a0_0, .int .i64 a0_1]] w fun e w' => e = .returned (.tuple #[.agg #[.int .i64 r1, .int .i64 r2, .int .i64 r3, .int .i64 r4], .int .i64 r5]) ∧ Below w.heap.size w w' := by
 have hu30 := Tryd.underlying30
 have hu27 := Tryd.underlying27
 have hu119 := Tryd.underlying119
 have HB := Ad.mk (Below.refl w.heap.size w)
 have H : (if a0_0 < 1 then (gleeref1_IntervalOf.j0 k true a0_0 a0_1) else (gleeref1_IntervalOf.j0 k (decide (a0_1 < 1)) a0_0 a0_1)) = some (r1, r2, r3, r4, r5) := h
 clear h
 have HC2 := Ad.mk H
 clear H
 go_enter Tryd.func18, Tryd.ntmps18
 go_upto_region 1 with (first | ((with_reducible refine qgd (N := 1) rfl ?_); refine qbe ?hg (N := 1) ?hd (cs := #[.int .i64 a0_0, .int .i64 a0_1]) (t := 30) ?hr ?_; (case hd => rfl); (case hg => rfl); (case hr => first | (go_simp; done) | (go_simp; rfl)); intro gb223 hg w3 hbox hb; have BK223 := Ad.mk (hbox); have GW223 := Ad.mk ((by rw [hg]; exact (qbz (by repeat (first | (with_reducible first | exact HB.out | apply qba | apply qbn | apply qb1) | exact HB.out))) : w.heap.size ≤ gb223)); have GE223 := Ad.mk ((by rw [hg]; exact (qbz (by repeat (first | (with_reducible first | exact HB.out | apply qba | apply qbn | apply qb1) | exact HB.out))) : w.heap.size ≤ gb223)); replace HB := Ad.mk (qbt (by repeat (first | (with_reducible first | exact HB.out | apply qba | apply qbn | apply qb1) | exact HB.out)) hb); clear hb hbox hg) | ((with_reducible refine qgd (N := 2) rfl ?_); refine qbe ?hg (N := 2) ?hd (cs := #[.int .i64 0, .int .i64 0, .int .i64 0, .int .i64 0]) (t := 27) ?hr ?_; (case hd => rfl); (case hg => rfl); (case hr => first | (go_simp; done) | (go_simp; rfl)); intro gb224 hg w4 hbox hb; have BK224 := Ad.mk (hbox); have GW224 := Ad.mk ((by rw [hg]; exact (qbz (by repeat (first | (with_reducible first | exact HB.out | apply qba | apply qbn | apply qb1 | refine qbs ?_ GE223.out) | exact HB.out))) : w.heap.size ≤ gb224)); have GE224 := Ad.mk ((by rw [hg]; exact (qbz (by repeat (first | (with_reducible first | exact HB.out | apply qba | apply qbn | apply qb1 | refine qbs ?_ GE223.out) | exact HB.out))) : w.heap.size ≤ gb224)); have NB223_224 := Ad.mk ((by rw [hg]; exact Nat.ne_of_lt (qkl (g := gb223) (o := .cells #[.int .i64 a0_0, .int .i64 a0_1] 30 (0, 0)) (by (with_reducible repeat (first | apply qkn | apply qkd | apply qka)); exact BK223.out)) : gb223 ≠ gb224)); have NB224_223 := Ad.mk ((by rw [hg]; exact Nat.ne_of_gt (qkl (g := gb223) (o := .cells #[.int .i64 a0_0, .int .i64 a0_1] 30 (0, 0)) (by (with_reducible repeat (first | apply qkn | apply qkd | apply qka)); exact BK223.out)) : gb224 ≠ gb223)); replace BK223 := Ad.mk (qkb (g := gb223) (o := .cells #[.int .i64 a0_0, .int .i64 a0_1] 30 (0, 0)) (by (with_reducible repeat (first | apply qkn | apply qkd | apply qka)); exact BK223.out) hb); replace HB := Ad.mk (qbt (by repeat (first | (with_reducible first | exact HB.out | apply qba | apply qbn | apply qb1 | refine qbs ?_ GE223.out) | exact HB.out)) hb); clear hb hbox hg))
 repeat (go_quiet (first | ((with_reducible refine qgd (N := 1) rfl ?_); refine qbe ?hg (N := 1) ?hd (cs := #[.int .i64 a0_0, .int .i64 a0_1]) (t := 30) ?hr ?_; (case hd => rfl); (case hg => rfl); (case hr => first | (go_simp; done) | (go_simp; rfl)); intro gb223 hg w3 hbox hb; have BK223 := Ad.mk (hbox); have GW223 := Ad.mk ((by rw [hg]; exact (qbz (by repeat (first | (with_reducible first | exact HB.out | apply qba | apply qbn | apply qb1) | exact HB.out))) : w.heap.size ≤ gb223)); have GE223 := Ad.mk ((by rw [hg]; exact (qbz (by repeat (first | (with_reducible first | exact HB.out | apply qba | apply qbn | apply qb1) | exact HB.out))) : w.heap.size ≤ gb223)); replace HB := Ad.mk (qbt (by repeat (first | (with_reducible first | exact HB.out | apply qba | apply qbn | apply qb1) | exact HB.out)) hb); clear hb hbox hg) | ((with_reducible refine qgd (N := 2) rfl ?_); refine qbe ?hg (N := 2) ?hd (cs := #[.int .i64 0, .int .i64 0, .int .i64 0, .int .i64 0]) (t := 27) ?hr ?_; (case hd => rfl); (case hg => rfl); (case hr => first | (go_simp; done) | (go_simp; rfl)); intro gb224 hg w4 hbox hb; have BK224 := Ad.mk (hbox); have GW224 := Ad.mk ((by rw [hg]; exact (qbz (by repeat (first | (with_reducible first | exact HB.out | apply qba | apply qbn | apply qb1 | refine qbs ?_ GE223.out) | exact HB.out))) : w.heap.size ≤ gb224)); have GE224 := Ad.mk ((by rw [hg]; exact (qbz (by repeat (first | (with_reducible first | exact HB.out | apply qba | apply qbn | apply qb1 | refine qbs ?_ GE223.out) | exact HB.out))) : w.heap.size ≤ gb224)); have NB223_224 := Ad.mk ((by rw [hg]; exact Nat.ne_of_lt (qkl (g := gb223) (o := .cells #[.int .i64 a0_0, .int .i64 a0_1] 30 (0, 0)) (by (with_reducible repeat (first | apply qkn | apply qkd | apply qka)); exact BK223.out)) : gb223 ≠ gb224)); have NB224_223 := Ad.mk ((by rw [hg]; exact Nat.ne_of_gt (qkl (g := gb223) (o := .cells #[.int .i64 a0_0, .int .i64 a0_1] 30 (0, 0)) (by (with_reducible repeat (first | apply qkn | apply qkd | apply qka)); exact BK223.out)) : gb224 ≠ gb223)); replace BK223 := Ad.mk (qkb (g := gb223) (o := .cells #[.int .i64 a0_0, .int .i64 a0_1] 30 (0, 0)) (by (with_reducible repeat (first | apply qkn | apply qkd | apply qka)); exact BK223.out) hb); replace HB := Ad.mk (qbt (by repeat (first | (with_reducible first | exact HB.out | apply qba | apply qbn | apply qb1 | refine qbs ?_ GE223.out) | exact HB.out)) hb); clear hb hbox hg)); go_upto_region 1 with (first | ((with_reducible refine qgd (N := 1) rfl ?_); refine qbe ?hg (N := 1) ?hd (cs := #[.int .i64 a0_0, .int .i64 a0_1]) (t := 30) ?hr ?_; (case hd => rfl); (case hg => rfl); (case hr => first | (go_simp; done) | (go_simp; rfl)); intro gb223 hg w3 hbox hb; have BK223 := Ad.mk (hbox); have GW223 := Ad.mk ((by rw [hg]; exact (qbz (by repeat (first | (with_reducible first | exact HB.out | apply qba | apply qbn | apply qb1) | exact HB.out))) : w.heap.size ≤ gb223)); have GE223 := Ad.mk ((by rw [hg]; exact (qbz (by repeat (first | (with_reducible first | exact HB.out | apply qba | apply qbn | apply qb1) | exact HB.out))) : w.heap.size ≤ gb223)); replace HB := Ad.mk (qbt (by repeat (first | (with_reducible first | exact HB.out | apply qba | apply qbn | apply qb1) | exact HB.out)) hb); clear hb hbox hg) | ((with_reducible refine qgd (N := 2) rfl ?_); refine qbe ?hg (N := 2) ?hd (cs := #[.int .i64 0, .int .i64 0, .int .i64 0, .int .i64 0]) (t := 27) ?hr ?_; (case hd => rfl); (case hg => rfl); (case hr => first | (go_simp; done) | (go_simp; rfl)); intro gb224 hg w4 hbox hb; have BK224 := Ad.mk (hbox); have GW224 := Ad.mk ((by rw [hg]; exact (qbz (by repeat (first | (with_reducible first | exact HB.out | apply qba | apply qbn | apply qb1 | refine qbs ?_ GE223.out) | exact HB.out))) : w.heap.size ≤ gb224)); have GE224 := Ad.mk ((by rw [hg]; exact (qbz (by repeat (first | (with_reducible first | exact HB.out | apply qba | apply qbn | apply qb1 | refine qbs ?_ GE223.out) | exact HB.out))) : w.heap.size ≤ gb224)); have NB223_224 := Ad.mk ((by rw [hg]; exact Nat.ne_of_lt (qkl (g := gb223) (o := .cells #[.int .i64 a0_0, .int .i64 a0_1] 30 (0, 0)) (by (with_reducible repeat (first | apply qkn | apply qkd | apply qka)); exact BK223.out)) : gb223 ≠ gb224)); have NB224_223 := Ad.mk ((by rw [hg]; exact Nat.ne_of_gt (qkl (g := gb223) (o := .cells #[.int .i64 a0_0, .int .i64 a0_1] 30 (0, 0)) (by (with_reducible repeat (first | apply qkn | apply qkd | apply qka)); exact BK223.out)) : gb224 ≠ gb223)); replace BK223 := Ad.mk (qkb (g := gb223) (o := .cells #[.int .i64 a0_0, .int .i64 a0_1] 30 (0, 0)) (by (with_reducible repeat (first | apply qkn | apply qkd | apply qka)); exact BK223.out) hb); replace HB := Ad.mk (qbt (by repeat (first | (with_reducible first | exact HB.out | apply qba | apply qbn | apply qb1 | refine qbs ?_ GE223.out) | exact HB.out)) hb); clear hb hbox hg)))
 (try simp only [Act.put, List.setIfInBounds_toArray, List.set_cons_zero, List.set_cons_succ])
 go_cut [11] (fun v11 wc => ∃ (kq : Nat) (x11_1 : Bool), v11 = .bool x11_1 ∧ Ad (gleeref1_IntervalOf.j0 kq x11_1 a0_0 a0_1 = some (r1, r2, r3, r4, r5)) ∧ Ad (kq ≤ k) ∧ Ad (wc.heap[gb223]? = some (.cells #[.int .i64 a0_0, .int .i64 a0_1] 30 (0, 0))) ∧ Ad (wc.heap[gb224]? = some (.cells #[.int .i64 0, .int .i64 0, .int .i64 0, .int .i64 0] 27 (0, 0))) ∧ Ad (Below w.heap.size w wc))
 case first =>
  have H := HC2.out
  clear HC2
  by_cases c5 : a0_0 < 1
  ·
   rw [if_pos c5] at H
   have c5b0 : decide (a0_0 < 1) = true := decide_eq_true c5
   clear c5
   (first | rw [c5b0] | (simp only [i64_w, i32_w]; rw [c5b0]) | skip)
   have H' := Ad.mk H
   clear H
   have hnb6 := NB223_224.out
   have hnc6 := NB224_223.out
   have hcz7_0 : w4.cell? ⟨gb223, 0, none⟩ = some (.int .i64 a0_0) := (qkc BK223.out 0).trans rfl
   have hcz7_1 : w4.cell? ⟨gb223, 1, none⟩ = some (.int .i64 a0_1) := (qkc BK223.out 1).trans rfl
   have hfz7_0 := qkz BK223.out 0
   have hfz7_1 := qkz BK223.out 1
   go_wp2
   repeat (go_quiet (fail); try go_wp2)
   go_meet
   case rel => exact ⟨_, (true), (by first | rfl | (simp; done) | (simp [*]; done)), H', ⟨by first | omega | exact Nat.le_refl _⟩, ⟨by (with_reducible repeat (first | apply qkn | apply qkd | apply qka)); exact BK223.out⟩, ⟨by (with_reducible repeat (first | apply qkn | apply qkd | apply qka)); exact BK224.out⟩, ⟨by repeat (first | (with_reducible first | exact HB.out | apply qba | apply qbn | apply qb1 | refine qbs ?_ GE223.out | refine qbs ?_ GE224.out) | exact HB.out)⟩⟩
  ·
   rw [if_neg c5] at H
   have c5b0 : decide (a0_0 < 1) = false := decide_eq_false c5
   clear c5
   (first | rw [c5b0] | (simp only [i64_w, i32_w]; rw [c5b0]) | skip)
   have H' := Ad.mk H
   clear H
   have hnb8 := NB223_224.out
   have hnc8 := NB224_223.out
   have hcz9_0 : w4.cell? ⟨gb223, 0, none⟩ = some (.int .i64 a0_0) := (qkc BK223.out 0).trans rfl
   have hcz9_1 : w4.cell? ⟨gb223, 1, none⟩ = some (.int .i64 a0_1) := (qkc BK223.out 1).trans rfl
   have hfz9_0 := qkz BK223.out 0
   have hfz9_1 := qkz BK223.out 1
   go_wp2
   repeat (go_quiet (fail); try go_wp2)
   go_meet
   case rel => exact ⟨_, (decide (a0_1 < 1)), (by first | rfl | (simp; done) | (simp [*]; done)), H', ⟨by first | omega | exact Nat.le_refl _⟩, ⟨by (with_reducible repeat (first | apply qkn | apply qkd | apply qka)); exact BK223.out⟩, ⟨by (with_reducible repeat (first | apply qkn | apply qkd | apply qka)); exact BK224.out⟩, ⟨by repeat (first | (with_reducible first | exact HB.out | apply qba | apply qbn | apply qb1 | refine qbs ?_ GE223.out | refine qbs ?_ GE224.out) | exact HB.out)⟩⟩
 case rest =>
  clear HC2
  try clear c1
  try clear p2
  try clear c5
  try clear c5b0
  try clear c6
  try clear c8
  try clear hcz7_0
  try clear hcz7_1
  try clear hcz9_0
  try clear hcz9_1
  try clear hfz7_0
  try clear hfz7_1
  try clear hfz9_0
  try clear hfz9_1
  obtain ⟨kq, x11_1, rfl, HA, HJ1, BK223, BK224, HB⟩ := hcut
  cases kq with
  | zero => exact absurd HA.out (by simp [gleeref1_IntervalOf.j0])
  | succ kj1 =>
   have H := HA.out
   clear HA
   simp only [gleeref1_IntervalOf.j0] at H
   by_cases c10 : x11_1 = true
   ·
    subst c10
    have H1 : (some (0, 0, 0, 0, 1)) = some (r1, r2, r3, r4, r5) := by rw [if_pos rfl] at H; exact H
    clear H
    have H := H1
    clear H1
    simp only [Option.some.injEq, Prod.mk.injEq] at H
    obtain ⟨rfl, rfl, rfl, rfl, rfl⟩ := H
    have hnb11 := NB224_223.out
    have hnc11 := NB223_224.out
    have hcz12_0 : wc.cell? ⟨gb224, 0, none⟩ = some (.int .i64 0) := (qkc BK224.out 0).trans rfl
    have hcz12_1 : wc.cell? ⟨gb224, 1, none⟩ = some (.int .i64 0) := (qkc BK224.out 1).trans rfl
    have hcz12_2 : wc.cell? ⟨gb224, 2, none⟩ = some (.int .i64 0) := (qkc BK224.out 2).trans rfl
    have hcz12_3 : wc.cell? ⟨gb224, 3, none⟩ = some (.int .i64 0) := (qkc BK224.out 3).trans rfl
    have hfz12_0 := qkz BK224.out 0
    have hfz12_1 := qkz BK224.out 1
    have hfz12_2 := qkz BK224.out 2
    have hfz12_3 := qkz BK224.out 3
    go_wp2
    repeat (go_quiet (fail); try go_wp2)
    refine bodyPost_ret (results_ct rfl _ _ gb224 27 #[.int .i64 0, .int .i64 0, .int .i64 0, .int .i64 0] (0, 0) _ rfl (by (with_reducible repeat (first | apply qkn | apply qkd | apply qka)); refine qkp (cs := #[.int .i64 0, .int .i64 0, .int .i64 0, .int .i64 0]) ?_ 3 _ rfl; (with_reducible repeat (first | apply qkn | apply qkd | apply qka)); refine qkp (cs := #[.int .i64 0, .int .i64 0, .int .i64 0, .int .i64 0]) ?_ 2 _ rfl; (with_reducible repeat (first | apply qkn | apply qkd | apply qka)); refine qkp (cs := #[.int .i64 0, .int .i64 0, .int .i64 0, .int .i64 0]) ?_ 1 _ rfl; (with_reducible repeat (first | apply qkn | apply qkd | apply qka)); refine qkp (cs := #[.int .i64 0, .int .i64 0, .int .i64 0, .int .i64 0]) ?_ 0 _ rfl; (with_reducible repeat (first | apply qkn | apply qkd | apply qka)); exact BK224.out) Tryd.underlying27 rfl (by kernel_rfl)) rfl ?_
    exact ⟨by first | rfl | (simp [errW_none, errW_some] <;> rfl) | (simp [*, errW_none, errW_some] <;> rfl), by repeat (first | (with_reducible first | exact HB.out | apply qba | apply qbn | apply qb1 | refine qbs ?_ GE223.out | refine qbs ?_ GE224.out) | exact HB.out)⟩
   ·
    replace c10 := Bool.eq_false_iff.mpr c10
    subst c10
    have H1 : ((gleeref1_divisor.f kj1 a0_0 a0_1).bind fun t225 => (if t225 = 1 then ((some (([2, 3, 5, 7] : List Int) : List Int)).bind fun y227 => (gleeref1_IntervalOf.l0 kj1 a0_0 a0_1 y227 (y227.length : Int) 0 0 0 0 0)) else (some (0, 0, 0, 0, 3)))) = some (r1, r2, r3, r4, r5) := by rw [if_neg (show ¬ (false = true) by decide)] at H; exact H
    clear H
    have H := H1
    clear H1
    replace H := Option.bind_eq_some_iff.mp H
    obtain ⟨t225, A130, H⟩ := H
    replace H : (if t225 = 1 then ((some (([2, 3, 5, 7] : List Int) : List Int)).bind fun y227 => (gleeref1_IntervalOf.l0 kj1 a0_0 a0_1 y227 (y227.length : Int) 0 0 0 0 0)) else (some (0, 0, 0, 0, 3))) = some (r1, r2, r3, r4, r5) := H
    have A13 := Ad.mk A130
    clear A130
    by_cases c14 : t225 = 1
    ·
     rw [if_pos c14] at H
     have c14b0 : (t225 == 1) = true := beq_iff_eq.mpr c14
     have c14b1 : (t225 != 1) = false := bne_eq_false_iff_eq.mpr c14
     clear c14
     obtain ⟨y227, hy227⟩ : ∃ y_ : List Int, y_ = (([2, 3, 5, 7] : List Int)) := ⟨_, rfl⟩
     replace H : (gleeref1_IntervalOf.l0 kj1 a0_0 a0_1 y227 (y227.length : Int) 0 0 0 0 0) = some (r1, r2, r3, r4, r5) := by first | (rw [hy227]; with_reducible exact H) | (have H2_ := (Option.bind_some _ _).symm.trans H; rw [hy227]; with_reducible exact H2_) | (have H2_ := (Option.bind_some _ _).symm.trans H; with_reducible exact H2_) | with_reducible exact H | (rw [hy227]; exact H) | exact H
     have Ny227 := Ad.mk hy227
     clear hy227
     have H' := Ad.mk H
     clear H
     have hnb15 := NB223_224.out
     have hnc15 := NB224_223.out
     have hcz16_0 : wc.cell? ⟨gb223, 0, none⟩ = some (.int .i64 a0_0) := (qkc BK223.out 0).trans rfl
     have hcz16_1 : wc.cell? ⟨gb223, 1, none⟩ = some (.int .i64 a0_1) := (qkc BK223.out 1).trans rfl
     have hfz16_0 := qkz BK223.out 0
     have hfz16_1 := qkz BK223.out 1
     go_wp2_with (first | (go_at_call 78; (with_reducible refine (gleeref1_divisor.calls kj1 a0_0 a0_1 t225 _ A13.out).mono ?_); rintro e w' ⟨rfl, ⟨nd, rfl⟩⟩; (try first | exact ⟨rfl, _, World.drewN_drewN _ _ _⟩ | exact ⟨rfl, _, Eq.trans (World.drewN_drewN _ _ _) (congrArg (World.drewN _) (Nat.add_assoc _ _ _))⟩)) | ((with_reducible refine qgd (N := 6) rfl ?_); refine qbe ?hg (N := 6) ?hd (cs := #[.int .i64 0, .int .i64 0, .int .i64 0, .int .i64 0]) (t := 119) ?hr ?_; (case hd => rfl); (case hg => rfl); (case hr => first | (go_simp; done) | (go_simp; rfl)); intro gb226 hg w17 hbox hb; have BK226 := Ad.mk (hbox); have GW226 := Ad.mk ((by rw [hg]; exact (qbz (by repeat (first | (with_reducible first | exact HB.out | apply qba | apply qbn | apply qb1 | refine qbs ?_ GE223.out | refine qbs ?_ GE224.out) | exact HB.out))) : w.heap.size ≤ gb226)); have GE226 := Ad.mk ((by rw [hg]; exact (qbz (by repeat (first | (with_reducible first | exact HB.out | apply qba | apply qbn | apply qb1 | refine qbs ?_ GE223.out | refine qbs ?_ GE224.out) | exact HB.out))) : w.heap.size ≤ gb226)); have NB223_226 := Ad.mk ((by rw [hg]; exact Nat.ne_of_lt (qkl (g := gb223) (o := .cells #[.int .i64 a0_0, .int .i64 a0_1] 30 (0, 0)) (by (with_reducible repeat (first | apply qkn | apply qkd | apply qka)); exact BK223.out)) : gb223 ≠ gb226)); have NB226_223 := Ad.mk ((by rw [hg]; exact Nat.ne_of_gt (qkl (g := gb223) (o := .cells #[.int .i64 a0_0, .int .i64 a0_1] 30 (0, 0)) (by (with_reducible repeat (first | apply qkn | apply qkd | apply qka)); exact BK223.out)) : gb226 ≠ gb223)); have NB224_226 := Ad.mk ((by rw [hg]; exact Nat.ne_of_lt (qkl (g := gb224) (o := .cells #[.int .i64 0, .int .i64 0, .int .i64 0, .int .i64 0] 27 (0, 0)) (by (with_reducible repeat (first | apply qkn | apply qkd | apply qka)); exact BK224.out)) : gb224 ≠ gb226)); have NB226_224 := Ad.mk ((by rw [hg]; exact Nat.ne_of_gt (qkl (g := gb224) (o := .cells #[.int .i64 0, .int .i64 0, .int .i64 0, .int .i64 0] 27 (0, 0)) (by (with_reducible repeat (first | apply qkn | apply qkd | apply qka)); exact BK224.out)) : gb226 ≠ gb224)); replace BK223 := Ad.mk (qkb (g := gb223) (o := .cells #[.int .i64 a0_0, .int .i64 a0_1] 30 (0, 0)) (by (with_reducible repeat (first | apply qkn | apply qkd | apply qka)); exact BK223.out) hb); replace BK224 := Ad.mk (qkb (g := gb224) (o := .cells #[.int .i64 0, .int .i64 0, .int .i64 0, .int .i64 0] 27 (0, 0)) (by (with_reducible repeat (first | apply qkn | apply qkd | apply qka)); exact BK224.out) hb); replace HB := Ad.mk (qbt (by repeat (first | (with_reducible first | exact HB.out | apply qba | apply qbn | apply qb1 | refine qbs ?_ GE223.out | refine qbs ?_ GE224.out) | exact HB.out)) hb); clear hb hbox hg) | ((with_reducible refine qgd (N := 33) rfl ?_); refine Kd.R_lit (Kd.int .i64) _ 3 ?hg (N := 33) ?hd (xs := ([2, 3, 5, 7] : List Int)) (inner := [.int .i64 2, .int .i64 3, .int .i64 5, .int .i64 7]) (ok := fun _ => True) (okp := fun _ => True) ?hr ?hp (fun _ hk => hk) trivial (Below.refl _ _) (Nat.le_refl _) (by simp) ?_; (case hd => rfl); (case hg => rfl); (case hr => first | (go_simp; done) | (go_simp; rfl)); (case hp => exact (Reps.one (show Kd.M (Kd.int .i64) _ _ _ 2 [.int .i64 2] from rfl) (Reps.one (show Kd.M (Kd.int .i64) _ _ _ 3 [.int .i64 3] from rfl) (Reps.one (show Kd.M (Kd.int .i64) _ _ _ 5 [.int .i64 5] from rfl) (Reps.one (show Kd.M (Kd.int .i64) _ _ _ 7 [.int .i64 7] from rfl) (Reps.none _ _)))))); intro v228 w18 ho19 hb hg_ hnew_; clear hg_ hnew_; (first | rw [← Ny227.out] at ho19 | (simp only [Int.reduceToNat] at ho19; rw [← Ny227.out] at ho19)); have HO229 := Ad.mk (Kd.R_lower ho19 (qbz (by repeat (first | (with_reducible first | exact HB.out | apply qba | apply qbn | apply qb1 | refine qbs ?_ GE223.out | refine qbs ?_ GE224.out | refine qbs ?_ GE226.out) | exact HB.out)))); replace BK223 := Ad.mk (qkb (g := gb223) (o := .cells #[.int .i64 a0_0, .int .i64 a0_1] 30 (0, 0)) (by (with_reducible repeat (first | apply qkn | apply qkd | apply qka)); exact BK223.out) hb); replace BK224 := Ad.mk (qkb (g := gb224) (o := .cells #[.int .i64 0, .int .i64 0, .int .i64 0, .int .i64 0] 27 (0, 0)) (by (with_reducible repeat (first | apply qkn | apply qkd | apply qka)); exact BK224.out) hb); replace BK226 := Ad.mk (qkb (g := gb226) (o := .cells #[.int .i64 0, .int .i64 0, .int .i64 0, .int .i64 0] 119 (0, 0)) (by (with_reducible repeat (first | apply qkn | apply qkd | apply qka)); exact BK226.out) hb); replace HB := Ad.mk (qbt (by repeat (first | (with_reducible first | exact HB.out | apply qba | apply qbn | apply qb1 | refine qbs ?_ GE223.out | refine qbs ?_ GE224.out | refine qbs ?_ GE226.out) | exact HB.out)) hb); clear hb ho19; obtain ⟨Ao20, co20, eo20⟩ := Kd.R_slice HO229.out; subst eo20))
     repeat (go_quiet (first | (go_at_call 78; (with_reducible refine (gleeref1_divisor.calls kj1 a0_0 a0_1 t225 _ A13.out).mono ?_); rintro e w' ⟨rfl, ⟨nd, rfl⟩⟩; (try first | exact ⟨rfl, _, World.drewN_drewN _ _ _⟩ | exact ⟨rfl, _, Eq.trans (World.drewN_drewN _ _ _) (congrArg (World.drewN _) (Nat.add_assoc _ _ _))⟩)) | ((with_reducible refine qgd (N := 6) rfl ?_); refine qbe ?hg (N := 6) ?hd (cs := #[.int .i64 0, .int .i64 0, .int .i64 0, .int .i64 0]) (t := 119) ?hr ?_; (case hd => rfl); (case hg => rfl); (case hr => first | (go_simp; done) | (go_simp; rfl)); intro gb226 hg w17 hbox hb; have BK226 := Ad.mk (hbox); have GW226 := Ad.mk ((by rw [hg]; exact (qbz (by repeat (first | (with_reducible first | exact HB.out | apply qba | apply qbn | apply qb1 | refine qbs ?_ GE223.out | refine qbs ?_ GE224.out) | exact HB.out))) : w.heap.size ≤ gb226)); have GE226 := Ad.mk ((by rw [hg]; exact (qbz (by repeat (first | (with_reducible first | exact HB.out | apply qba | apply qbn | apply qb1 | refine qbs ?_ GE223.out | refine qbs ?_ GE224.out) | exact HB.out))) : w.heap.size ≤ gb226)); have NB223_226 := Ad.mk ((by rw [hg]; exact Nat.ne_of_lt (qkl (g := gb223) (o := .cells #[.int .i64 a0_0, .int .i64 a0_1] 30 (0, 0)) (by (with_reducible repeat (first | apply qkn | apply qkd | apply qka)); exact BK223.out)) : gb223 ≠ gb226)); have NB226_223 := Ad.mk ((by rw [hg]; exact Nat.ne_of_gt (qkl (g := gb223) (o := .cells #[.int .i64 a0_0, .int .i64 a0_1] 30 (0, 0)) (by (with_reducible repeat (first | apply qkn | apply qkd | apply qka)); exact BK223.out)) : gb226 ≠ gb223)); have NB224_226 := Ad.mk ((by rw [hg]; exact Nat.ne_of_lt (qkl (g := gb224) (o := .cells #[.int .i64 0, .int .i64 0, .int .i64 0, .int .i64 0] 27 (0, 0)) (by (with_reducible repeat (first | apply qkn | apply qkd | apply qka)); exact BK224.out)) : gb224 ≠ gb226)); have NB226_224 := Ad.mk ((by rw [hg]; exact Nat.ne_of_gt (qkl (g := gb224) (o := .cells #[.int .i64 0, .int .i64 0, .int .i64 0, .int .i64 0] 27 (0, 0)) (by (with_reducible repeat (first | apply qkn | apply qkd | apply qka)); exact BK224.out)) : gb226 ≠ gb224)); replace BK223 := Ad.mk (qkb (g := gb223) (o := .cells #[.int .i64 a0_0, .int .i64 a0_1] 30 (0, 0)) (by (with_reducible repeat (first | apply qkn | apply qkd | apply qka)); exact BK223.out) hb); replace BK224 := Ad.mk (qkb (g := gb224) (o := .cells #[.int .i64 0, .int .i64 0, .int .i64 0, .int .i64 0] 27 (0, 0)) (by (with_reducible repeat (first | apply qkn | apply qkd | apply qka)); exact BK224.out) hb); replace HB := Ad.mk (qbt (by repeat (first | (with_reducible first | exact HB.out | apply qba | apply qbn | apply qb1 | refine qbs ?_ GE223.out | refine qbs ?_ GE224.out) | exact HB.out)) hb); clear hb hbox hg) | ((with_reducible refine qgd (N := 33) rfl ?_); refine Kd.R_lit (Kd.int .i64) _ 3 ?hg (N := 33) ?hd (xs := ([2, 3, 5, 7] : List Int)) (inner := [.int .i64 2, .int .i64 3, .int .i64 5, .int .i64 7]) (ok := fun _ => True) (okp := fun _ => True) ?hr ?hp (fun _ hk => hk) trivial (Below.refl _ _) (Nat.le_refl _) (by simp) ?_; (case hd => rfl); (case hg => rfl); (case hr => first | (go_simp; done) | (go_simp; rfl)); (case hp => exact (Reps.one (show Kd.M (Kd.int .i64) _ _ _ 2 [.int .i64 2] from rfl) (Reps.one (show Kd.M (Kd.int .i64) _ _ _ 3 [.int .i64 3] from rfl) (Reps.one (show Kd.M (Kd.int .i64) _ _ _ 5 [.int .i64 5] from rfl) (Reps.one (show Kd.M (Kd.int .i64) _ _ _ 7 [.int .i64 7] from rfl) (Reps.none _ _)))))); intro v228 w18 ho19 hb hg_ hnew_; clear hg_ hnew_; (first | rw [← Ny227.out] at ho19 | (simp only [Int.reduceToNat] at ho19; rw [← Ny227.out] at ho19)); have HO229 := Ad.mk (Kd.R_lower ho19 (qbz (by repeat (first | (with_reducible first | exact HB.out | apply qba | apply qbn | apply qb1 | refine qbs ?_ GE223.out | refine qbs ?_ GE224.out | refine qbs ?_ GE226.out) | exact HB.out)))); replace BK223 := Ad.mk (qkb (g := gb223) (o := .cells #[.int .i64 a0_0, .int .i64 a0_1] 30 (0, 0)) (by (with_reducible repeat (first | apply qkn | apply qkd | apply qka)); exact BK223.out) hb); replace BK224 := Ad.mk (qkb (g := gb224) (o := .cells #[.int .i64 0, .int .i64 0, .int .i64 0, .int .i64 0] 27 (0, 0)) (by (with_reducible repeat (first | apply qkn | apply qkd | apply qka)); exact BK224.out) hb); replace BK226 := Ad.mk (qkb (g := gb226) (o := .cells #[.int .i64 0, .int .i64 0, .int .i64 0, .int .i64 0] 119 (0, 0)) (by (with_reducible repeat (first | apply qkn | apply qkd | apply qka)); exact BK226.out) hb); replace HB := Ad.mk (qbt (by repeat (first | (with_reducible first | exact HB.out | apply qba | apply qbn | apply qb1 | refine qbs ?_ GE223.out | refine qbs ?_ GE224.out | refine qbs ?_ GE226.out) | exact HB.out)) hb); clear hb ho19; obtain ⟨Ao20, co20, eo20⟩ := Kd.R_slice HO229.out; subst eo20)); try go_wp2_with (first | (go_at_call 78; (with_reducible refine (gleeref1_divisor.calls kj1 a0_0 a0_1 t225 _ A13.out).mono ?_); rintro e w' ⟨rfl, ⟨nd, rfl⟩⟩; (try first | exact ⟨rfl, _, World.drewN_drewN _ _ _⟩ | exact ⟨rfl, _, Eq.trans (World.drewN_drewN _ _ _) (congrArg (World.drewN _) (Nat.add_assoc _ _ _))⟩)) | ((with_reducible refine qgd (N := 6) rfl ?_); refine qbe ?hg (N := 6) ?hd (cs := #[.int .i64 0, .int .i64 0, .int .i64 0, .int .i64 0]) (t := 119) ?hr ?_; (case hd => rfl); (case hg => rfl); (case hr => first | (go_simp; done) | (go_simp; rfl)); intro gb226 hg w17 hbox hb; have BK226 := Ad.mk (hbox); have GW226 := Ad.mk ((by rw [hg]; exact (qbz (by repeat (first | (with_reducible first | exact HB.out | apply qba | apply qbn | apply qb1 | refine qbs ?_ GE223.out | refine qbs ?_ GE224.out) | exact HB.out))) : w.heap.size ≤ gb226)); have GE226 := Ad.mk ((by rw [hg]; exact (qbz (by repeat (first | (with_reducible first | exact HB.out | apply qba | apply qbn | apply qb1 | refine qbs ?_ GE223.out | refine qbs ?_ GE224.out) | exact HB.out))) : w.heap.size ≤ gb226)); have NB223_226 := Ad.mk ((by rw [hg]; exact Nat.ne_of_lt (qkl (g := gb223) (o := .cells #[.int .i64 a0_0, .int .i64 a0_1] 30 (0, 0)) (by (with_reducible repeat (first | apply qkn | apply qkd | apply qka)); exact BK223.out)) : gb223 ≠ gb226)); have NB226_223 := Ad.mk ((by rw [hg]; exact Nat.ne_of_gt (qkl (g := gb223) (o := .cells #[.int .i64 a0_0, .int .i64 a0_1] 30 (0, 0)) (by (with_reducible repeat (first | apply qkn | apply qkd | apply qka)); exact BK223.out)) : gb226 ≠ gb223)); have NB224_226 := Ad.mk ((by rw [hg]; exact Nat.ne_of_lt (qkl (g := gb224) (o := .cells #[.int .i64 0, .int .i64 0, .int .i64 0, .int .i64 0] 27 (0, 0)) (by (with_reducible repeat (first | apply qkn | apply qkd | apply qka)); exact BK224.out)) : gb224 ≠ gb226)); have NB226_224 := Ad.mk ((by rw [hg]; exact Nat.ne_of_gt (qkl (g := gb224) (o := .cells #[.int .i64 0, .int .i64 0, .int .i64 0, .int .i64 0] 27 (0, 0)) (by (with_reducible repeat (first | apply qkn | apply qkd | apply qka)); exact BK224.out)) : gb226 ≠ gb224)); replace BK223 := Ad.mk (qkb (g := gb223) (o := .cells #[.int .i64 a0_0, .int .i64 a0_1] 30 (0, 0)) (by (with_reducible repeat (first | apply qkn | apply qkd | apply qka)); exact BK223.out) hb); replace BK224 := Ad.mk (qkb (g := gb224) (o := .cells #[.int .i64 0, .int .i64 0, .int .i64 0, .int .i64 0] 27 (0, 0)) (by (with_reducible repeat (first | apply qkn | apply qkd | apply qka)); exact BK224.out) hb); replace HB := Ad.mk (qbt (by repeat (first | (with_reducible first | exact HB.out | apply qba | apply qbn | apply qb1 | refine qbs ?_ GE223.out | refine qbs ?_ GE224.out) | exact HB.out)) hb); clear hb hbox hg) | ((with_reducible refine qgd (N := 33) rfl ?_); refine Kd.R_lit (Kd.int .i64) _ 3 ?hg (N := 33) ?hd (xs := ([2, 3, 5, 7] : List Int)) (inner := [.int .i64 2, .int .i64 3, .int .i64 5, .int .i64 7]) (ok := fun _ => True) (okp := fun _ => True) ?hr ?hp (fun _ hk => hk) trivial (Below.refl _ _) (Nat.le_refl _) (by simp) ?_; (case hd => rfl); (case hg => rfl); (case hr => first | (go_simp; done) | (go_simp; rfl)); (case hp => exact (Reps.one (show Kd.M (Kd.int .i64) _ _ _ 2 [.int .i64 2] from rfl) (Reps.one (show Kd.M (Kd.int .i64) _ _ _ 3 [.int .i64 3] from rfl) (Reps.one (show Kd.M (Kd.int .i64) _ _ _ 5 [.int .i64 5] from rfl) (Reps.one (show Kd.M (Kd.int .i64) _ _ _ 7 [.int .i64 7] from rfl) (Reps.none _ _)))))); intro v228 w18 ho19 hb hg_ hnew_; clear hg_ hnew_; (first | rw [← Ny227.out] at ho19 | (simp only [Int.reduceToNat] at ho19; rw [← Ny227.out] at ho19)); have HO229 := Ad.mk (Kd.R_lower ho19 (qbz (by repeat (first | (with_reducible first | exact HB.out | apply qba | apply qbn | apply qb1 | refine qbs ?_ GE223.out | refine qbs ?_ GE224.out | refine qbs ?_ GE226.out) | exact HB.out)))); replace BK223 := Ad.mk (qkb (g := gb223) (o := .cells #[.int .i64 a0_0, .int .i64 a0_1] 30 (0, 0)) (by (with_reducible repeat (first | apply qkn | apply qkd | apply qka)); exact BK223.out) hb); replace BK224 := Ad.mk (qkb (g := gb224) (o := .cells #[.int .i64 0, .int .i64 0, .int .i64 0, .int .i64 0] 27 (0, 0)) (by (with_reducible repeat (first | apply qkn | apply qkd | apply qka)); exact BK224.out) hb); replace BK226 := Ad.mk (qkb (g := gb226) (o := .cells #[.int .i64 0, .int .i64 0, .int .i64 0, .int .i64 0] 119 (0, 0)) (by (with_reducible repeat (first | apply qkn | apply qkd | apply qka)); exact BK226.out) hb); replace HB := Ad.mk (qbt (by repeat (first | (with_reducible first | exact HB.out | apply qba | apply qbn | apply qb1 | refine qbs ?_ GE223.out | refine qbs ?_ GE224.out | refine qbs ?_ GE226.out) | exact HB.out)) hb); clear hb ho19; obtain ⟨Ao20, co20, eo20⟩ := Kd.R_slice HO229.out; subst eo20)))
     go_loopg [4, 5, 35] kj1 (fun kq v4 v5 v35 w' => ∃ (x4_2 : Int) (x5_2 : Int) (x35_2 : Int) (x227000_2 : Int) (x227001_2 : Int) (x227002_2 : Int) (x227003_2 : Int), v4 = .int .i64 x4_2 ∧ v5 = .int .i64 x5_2 ∧ v35 = .int .i64 x35_2 ∧ Ad (gleeref1_IntervalOf.l0 kq x4_2 x5_2 y227 (y227.length : Int) x35_2 x227000_2 x227001_2 x227002_2 x227003_2 = some (r1, r2, r3, r4, r5)) ∧ Ad (kq ≤ kj1) ∧ Ad (Kd.R (Kd.int .i64) 3 w' w.heap.size (fun _ => True) (.slice Ao20 y227.length co20) y227) ∧ Ad (w'.heap[gb223]? = some (.cells #[.int .i64 a0_0, .int .i64 a0_1] 30 (0, 0))) ∧ Ad (w'.heap[gb224]? = some (.cells #[.int .i64 0, .int .i64 0, .int .i64 0, .int .i64 0] 27 (0, 0))) ∧ Ad (w'.heap[gb226]? = some (.cells #[.int .i64 x227000_2, .int .i64 x227001_2, .int .i64 x227002_2, .int .i64 x227003_2] 119 (0, 0))) ∧ Ad (Below w.heap.size w w'))
     case atStart => exact ⟨(a0_0), (a0_1), (0), (0), (0), (0), (0), (by first | rfl | (simp; done) | (simp [*]; done)), (by first | rfl | (simp; done) | (simp [*]; done)), (by first | rfl | (simp; done) | (simp [*]; done)), H', ⟨Nat.le_refl _⟩, ⟨by (with_reducible repeat (first | apply Kd.R_alloc | apply Kd.R_drewN | apply Kd.R_drew)); exact HO229.out⟩, ⟨by (with_reducible repeat (first | apply qkn | apply qkd | apply qka)); exact BK223.out⟩, ⟨by (with_reducible repeat (first | apply qkn | apply qkd | apply qka)); exact BK224.out⟩, ⟨by (with_reducible repeat (first | apply qkn | apply qkd | apply qka)); exact BK226.out⟩, ⟨by repeat (first | (with_reducible first | exact HB.out | apply qba | apply qbn | apply qb1 | refine qbs ?_ GE223.out | refine qbs ?_ GE224.out | refine qbs ?_ GE226.out) | exact HB.out)⟩⟩
     case round =>
      clear H'
      try clear c1
      try clear p2
      try clear c5
      try clear c5b0
      try clear c6
      try clear c8
      try clear c10
      try clear c11
      try clear c14
      try clear c14b0
      try clear c14b1
      try clear c15
      try clear c18
      try clear hcz12_0
      try clear hcz12_1
      try clear hcz12_2
      try clear hcz12_3
      try clear hcz16_0
      try clear hcz16_1
      try clear hcz7_0
      try clear hcz7_1
      try clear hcz9_0
      try clear hcz9_1
      try clear hfz12_0
      try clear hfz12_1
      try clear hfz12_2
      try clear hfz12_3
      try clear hfz16_0
      try clear hfz16_1
      try clear hfz7_0
      try clear hfz7_1
      try clear hfz9_0
      try clear hfz9_1
      try clear p2
      obtain ⟨x4_2, x5_2, x35_2, x227000_2, x227001_2, x227002_2, x227003_2, rfl, rfl, rfl, HA, HK2, HO_33, BK223, BK224, BK226, HB⟩ := hrel
      cases gk with
      | zero => exact absurd HA.out (by simp [gleeref1_IntervalOf.l0])
      | succ k2 =>
       have H := HA.out
       clear HA
       simp only [gleeref1_IntervalOf.l0] at H
       by_cases c21 : x35_2 < (y227.length : Int)
       ·
        rw [if_pos c21] at H
        have c21b0 : decide (x35_2 < (y227.length : Int)) = true := decide_eq_true c21
        clear c21
        by_cases c22 : 0 ≤ x35_2
        ·
         rw [if_pos c22] at H
         have c22b0 : decide (0 ≤ x35_2) = true := decide_eq_true c22
         clear c22
         by_cases c23 : x35_2 < (y227.length : Int)
         ·
          rw [if_pos c23] at H
          have c23b0 : decide (x35_2 < (y227.length : Int)) = true := decide_eq_true c23
          clear c23
          have H' := Ad.mk H
          clear H
          have p230 : 0 ≤ (x35_2 : Int) := of_decide_eq_true (by first | (with_reducible assumption) | assumption)
          have q230 : x35_2 < (y227.length : Int) := of_decide_eq_true (by first | (with_reducible assumption) | assumption)
          obtain ⟨ad230, e230, hx230_0⟩ := Kd.at_int (Kd.R_reads' HO_33.out).2.2 x35_2 p230 q230
          cases e230
          replace p230 := eq_true p230
          replace q230 := eq_true q230
          go_wp2
          repeat (go_quiet (fail); try go_wp2)
          go_loopg [4] k2 (fun kq v4 w' => ∃ (x4_3 : Int) (x227000_3 : Int) (x227001_3 : Int) (x227002_3 : Int) (x227003_3 : Int), v4 = .int .i64 x4_3 ∧ Ad (gleeref1_IntervalOf.l1 kq x4_3 x5_2 x35_2 (rd y227 x35_2) y227 (y227.length : Int) x35_2 x227000_3 x227001_3 x227002_3 x227003_3 = some (r1, r2, r3, r4, r5)) ∧ Ad (kq ≤ k2) ∧ Ad (Kd.R (Kd.int .i64) 3 w' w.heap.size (fun _ => True) (.slice (some ad230) y227.length co20) y227) ∧ Ad (w'.heap[gb223]? = some (.cells #[.int .i64 a0_0, .int .i64 a0_1] 30 (0, 0))) ∧ Ad (w'.heap[gb224]? = some (.cells #[.int .i64 0, .int .i64 0, .int .i64 0, .int .i64 0] 27 (0, 0))) ∧ Ad (w'.heap[gb226]? = some (.cells #[.int .i64 x227000_3, .int .i64 x227001_3, .int .i64 x227002_3, .int .i64 x227003_3] 119 (0, 0))) ∧ Ad (Below w.heap.size w w'))
          case atStart => exact ⟨(x4_2), (x227000_2), (x227001_2), (x227002_2), (x227003_2), (by first | rfl | (simp; done) | (simp [*]; done)), H', ⟨Nat.le_refl _⟩, ⟨by (with_reducible repeat (first | apply Kd.R_alloc | apply Kd.R_drewN | apply Kd.R_drew)); exact HO_33.out⟩, ⟨by (with_reducible repeat (first | apply qkn | apply qkd | apply qka)); exact BK223.out⟩, ⟨by (with_reducible repeat (first | apply qkn | apply qkd | apply qka)); exact BK224.out⟩, ⟨by (with_reducible repeat (first | apply qkn | apply qkd | apply qka)); exact BK226.out⟩, ⟨by repeat (first | (with_reducible first | exact HB.out | apply qba | apply qbn | apply qb1 | refine qbs ?_ GE223.out | refine qbs ?_ GE224.out | refine qbs ?_ GE226.out) | exact HB.out)⟩⟩
          case round =>
           clear H'
           try clear c1
           try clear c2
           try clear p2
           try clear q2
           try clear hx2
           try clear c5
           try clear c5b0
           try clear c6
           try clear c8
           try clear c10
           try clear c11
           try clear c14
           try clear c14b0
           try clear c14b1
           try clear c15
           try clear c18
           try clear c21
           try clear c21b0
           try clear c22
           try clear c22b0
           try clear c23
           try clear c23b0
           try clear p23
           try clear q23
           try clear hx23
           try clear hcz12_0
           try clear hcz12_1
           try clear hcz12_2
           try clear hcz12_3
           try clear hcz16_0
           try clear hcz16_1
           try clear hcz7_0
           try clear hcz7_1
           try clear hcz9_0
           try clear hcz9_1
           try clear hfz12_0
           try clear hfz12_1
           try clear hfz12_2
           try clear hfz12_3
           try clear hfz16_0
           try clear hfz16_1
           try clear hfz7_0
           try clear hfz7_1
           try clear hfz9_0
           try clear hfz9_1
           try clear hx230_0
           try clear p2
           try clear p230
           try clear q230
           obtain ⟨x4_3, x227000_3, x227001_3, x227002_3, x227003_3, rfl, HA, HK3, HO_33, BK223, BK224, BK226, HB⟩ := hrel
           cases gk with
           | zero => exact absurd HA.out (by simp [gleeref1_IntervalOf.l1])
           | succ k3 =>
            have H := HA.out
            clear HA
            simp only [gleeref1_IntervalOf.l1] at H
            by_cases c24 : (rd y227 x35_2) = 0
            ·
             rw [if_pos c24] at H
             exact absurd H (by simp)
            ·
             rw [if_neg c24] at H
             have c24b0 : ((rd y227 x35_2) == 0) = false := beq_eq_false_iff_ne.mpr c24
             have c24b1 : ((rd y227 x35_2) != 0) = true := bne_iff_ne.mpr c24
             by_cases c25 : (Int.tmod x4_3 (rd y227 x35_2)) = 0
             ·
              rw [if_pos c25] at H
              have c25b0 : ((Int.tmod x4_3 (rd y227 x35_2)) == 0) = true := beq_iff_eq.mpr c25
              have c25b1 : ((Int.tmod x4_3 (rd y227 x35_2)) != 0) = false := bne_eq_false_iff_eq.mpr c25
              clear c25
              by_cases c26 : 0 ≤ x35_2
              ·
               rw [if_pos c26] at H
               have c26b0 : decide (0 ≤ x35_2) = true := decide_eq_true c26
               clear c26
               by_cases c27 : x35_2 < 4
               ·
                rw [if_pos c27] at H
                have c27b0 : decide (x35_2 < 4) = true := decide_eq_true c27
                clear c27
                by_cases c28 : x35_2 = 0
                ·
                 rw [if_pos c28] at H
                 have c28b0 : (x35_2 == 0) = true := beq_iff_eq.mpr c28
                 have c28b1 : (x35_2 != 0) = false := bne_eq_false_iff_eq.mpr c28
                 clear c28
                 have H' := Ad.mk H
                 clear H
                 have hx29 : ∀ (g_ : Nat) (w_ : World), (Instr.indexAt 119 (.pointer (some ⟨g_, 0, none⟩)) (.int .i64 x35_2)).run Tryd.prog w_ = .ok (.pointer (some ⟨g_, 0, none⟩)) w_ := fun g_ w_ => arr_addr_119_0 g_ w_ x35_2 (beq_iff_eq.mp (by first | (with_reducible assumption) | assumption))
                 have hnb31 := NB226_223.out
                 have hnc31 := NB223_226.out
                 have hnb32 := NB226_224.out
                 have hnc32 := NB224_226.out
                 have hcz33_0 : wr.cell? ⟨gb226, 0, none⟩ = some (.int .i64 x227000_3) := (qkc BK226.out 0).trans rfl
                 have hcz33_1 : wr.cell? ⟨gb226, 1, none⟩ = some (.int .i64 x227001_3) := (qkc BK226.out 1).trans rfl
                 have hcz33_2 : wr.cell? ⟨gb226, 2, none⟩ = some (.int .i64 x227002_3) := (qkc BK226.out 2).trans rfl
                 have hcz33_3 : wr.cell? ⟨gb226, 3, none⟩ = some (.int .i64 x227003_3) := (qkc BK226.out 3).trans rfl
                 have hfz33_0 := qkz BK226.out 0
                 have hfz33_1 := qkz BK226.out 1
                 have hfz33_2 := qkz BK226.out 2
                 have hfz33_3 := qkz BK226.out 3
                 have hx30 : ∀ (g_ : Nat) (w_ : World), (Instr.indexAt 119 (.pointer (some ⟨g_, 0, none⟩)) (.int .i64 x35_2)).run Tryd.prog w_ = .ok (.pointer (some ⟨g_, 0, none⟩)) w_ := fun g_ w_ => arr_addr_119_0 g_ w_ x35_2 (beq_iff_eq.mp (by first | (with_reducible assumption) | assumption))
                 go_wp2
                 repeat (go_quiet (fail); try go_wp2)
                 go_roundg k3
                 case measure => have := HJ1.out; have := HK2.out; have := HK3.out; omega
                 case rel => exact ⟨(wrap64 (Int.tdiv x4_3 (rd y227 x35_2))), (wrap64 (x227000_3 + 1)), (x227001_3), (x227002_3), (x227003_3), (by first | rfl | (simp; done) | (simp [*]; done)), H', ⟨by have := HJ1.out; have := HK2.out; have := HK3.out; omega⟩, ⟨by (with_reducible repeat (first | apply Kd.R_alloc | apply Kd.R_drewN | apply Kd.R_drew)); exact Kd.R_mono (Kd.R_far (p := ⟨gb226, 0, none⟩) (Kd.R_types HO_33.out BK226.out (by decide)) (fun _ hk => hk.2) (.int .i64 (wrap64 (x227000_3 + 1)))) (fun _ hk => trivial)⟩, ⟨by (with_reducible repeat (first | apply qkn | apply qkd | apply qka)); refine qkf ?_ NB223_226.out _; (with_reducible repeat (first | apply qkn | apply qkd | apply qka)); exact BK223.out⟩, ⟨by (with_reducible repeat (first | apply qkn | apply qkd | apply qka)); refine qkf ?_ NB224_226.out _; (with_reducible repeat (first | apply qkn | apply qkd | apply qka)); exact BK224.out⟩, ⟨by (with_reducible repeat (first | apply qkn | apply qkd | apply qka)); refine qkp (cs := #[.int .i64 x227000_3, .int .i64 x227001_3, .int .i64 x227002_3, .int .i64 x227003_3]) ?_ 0 _ rfl; (with_reducible repeat (first | apply qkn | apply qkd | apply qka)); exact BK226.out⟩, ⟨by repeat (first | (with_reducible first | exact HB.out | apply qba | apply qbn | apply qb1 | refine qbs ?_ GE223.out | refine qbs ?_ GE224.out | refine qbs ?_ GE226.out) | exact HB.out)⟩⟩
                ·
                 rw [if_neg c28] at H
                 have c28b0 : (x35_2 == 0) = false := beq_eq_false_iff_ne.mpr c28
                 have c28b1 : (x35_2 != 0) = true := bne_iff_ne.mpr c28
                 by_cases c34 : x35_2 = 1
                 ·
                  rw [if_pos c34] at H
                  have c34b0 : (x35_2 == 1) = true := beq_iff_eq.mpr c34
                  have c34b1 : (x35_2 != 1) = false := bne_eq_false_iff_eq.mpr c34
                  clear c34
                  have H' := Ad.mk H
                  clear H
                  have hx35 : ∀ (g_ : Nat) (w_ : World), (Instr.indexAt 119 (.pointer (some ⟨g_, 0, none⟩)) (.int .i64 x35_2)).run Tryd.prog w_ = .ok (.pointer (some ⟨g_, 1, none⟩)) w_ := fun g_ w_ => arr_addr_119_1 g_ w_ x35_2 (beq_iff_eq.mp (by first | (with_reducible assumption) | assumption))
                  have hnb37 := NB226_223.out
                  have hnc37 := NB223_226.out
                  have hnb38 := NB226_224.out
                  have hnc38 := NB224_226.out
                  have hcz39_0 : wr.cell? ⟨gb226, 0, none⟩ = some (.int .i64 x227000_3) := (qkc BK226.out 0).trans rfl
                  have hcz39_1 : wr.cell? ⟨gb226, 1, none⟩ = some (.int .i64 x227001_3) := (qkc BK226.out 1).trans rfl
                  have hcz39_2 : wr.cell? ⟨gb226, 2, none⟩ = some (.int .i64 x227002_3) := (qkc BK226.out 2).trans rfl
                  have hcz39_3 : wr.cell? ⟨gb226, 3, none⟩ = some (.int .i64 x227003_3) := (qkc BK226.out 3).trans rfl
                  have hfz39_0 := qkz BK226.out 0
                  have hfz39_1 := qkz BK226.out 1
                  have hfz39_2 := qkz BK226.out 2
                  have hfz39_3 := qkz BK226.out 3
                  have hx36 : ∀ (g_ : Nat) (w_ : World), (Instr.indexAt 119 (.pointer (some ⟨g_, 0, none⟩)) (.int .i64 x35_2)).run Tryd.prog w_ = .ok (.pointer (some ⟨g_, 1, none⟩)) w_ := fun g_ w_ => arr_addr_119_1 g_ w_ x35_2 (beq_iff_eq.mp (by first | (with_reducible assumption) | assumption))
                  go_wp2
                  repeat (go_quiet (fail); try go_wp2)
                  go_roundg k3
                  case measure => have := HJ1.out; have := HK2.out; have := HK3.out; omega
                  case rel => exact ⟨(wrap64 (Int.tdiv x4_3 (rd y227 x35_2))), (x227000_3), (wrap64 (x227001_3 + 1)), (x227002_3), (x227003_3), (by first | rfl | (simp; done) | (simp [*]; done)), H', ⟨by have := HJ1.out; have := HK2.out; have := HK3.out; omega⟩, ⟨by (with_reducible repeat (first | apply Kd.R_alloc | apply Kd.R_drewN | apply Kd.R_drew)); exact Kd.R_mono (Kd.R_far (p := ⟨gb226, 1, none⟩) (Kd.R_types HO_33.out BK226.out (by decide)) (fun _ hk => hk.2) (.int .i64 (wrap64 (x227001_3 + 1)))) (fun _ hk => trivial)⟩, ⟨by (with_reducible repeat (first | apply qkn | apply qkd | apply qka)); refine qkf ?_ NB223_226.out _; (with_reducible repeat (first | apply qkn | apply qkd | apply qka)); exact BK223.out⟩, ⟨by (with_reducible repeat (first | apply qkn | apply qkd | apply qka)); refine qkf ?_ NB224_226.out _; (with_reducible repeat (first | apply qkn | apply qkd | apply qka)); exact BK224.out⟩, ⟨by (with_reducible repeat (first | apply qkn | apply qkd | apply qka)); refine qkp (cs := #[.int .i64 x227000_3, .int .i64 x227001_3, .int .i64 x227002_3, .int .i64 x227003_3]) ?_ 1 _ rfl; (with_reducible repeat (first | apply qkn | apply qkd | apply qka)); exact BK226.out⟩, ⟨by repeat (first | (with_reducible first | exact HB.out | apply qba | apply qbn | apply qb1 | refine qbs ?_ GE223.out | refine qbs ?_ GE224.out | refine qbs ?_ GE226.out) | exact HB.out)⟩⟩
                 ·
                  rw [if_neg c34] at H
                  have c34b0 : (x35_2 == 1) = false := beq_eq_false_iff_ne.mpr c34
                  have c34b1 : (x35_2 != 1) = true := bne_iff_ne.mpr c34
                  by_cases c40 : x35_2 = 2
                  ·
                   rw [if_pos c40] at H
                   have c40b0 : (x35_2 == 2) = true := beq_iff_eq.mpr c40
                   have c40b1 : (x35_2 != 2) = false := bne_eq_false_iff_eq.mpr c40
                   clear c40
                   have H' := Ad.mk H
                   clear H
                   have hx41 : ∀ (g_ : Nat) (w_ : World), (Instr.indexAt 119 (.pointer (some ⟨g_, 0, none⟩)) (.int .i64 x35_2)).run Tryd.prog w_ = .ok (.pointer (some ⟨g_, 2, none⟩)) w_ := fun g_ w_ => arr_addr_119_2 g_ w_ x35_2 (beq_iff_eq.mp (by first | (with_reducible assumption) | assumption))
                   have hnb43 := NB226_223.out
                   have hnc43 := NB223_226.out
                   have hnb44 := NB226_224.out
                   have hnc44 := NB224_226.out
                   have hcz45_0 : wr.cell? ⟨gb226, 0, none⟩ = some (.int .i64 x227000_3) := (qkc BK226.out 0).trans rfl
                   have hcz45_1 : wr.cell? ⟨gb226, 1, none⟩ = some (.int .i64 x227001_3) := (qkc BK226.out 1).trans rfl
                   have hcz45_2 : wr.cell? ⟨gb226, 2, none⟩ = some (.int .i64 x227002_3) := (qkc BK226.out 2).trans rfl
                   have hcz45_3 : wr.cell? ⟨gb226, 3, none⟩ = some (.int .i64 x227003_3) := (qkc BK226.out 3).trans rfl
                   have hfz45_0 := qkz BK226.out 0
                   have hfz45_1 := qkz BK226.out 1
                   have hfz45_2 := qkz BK226.out 2
                   have hfz45_3 := qkz BK226.out 3
                   have hx42 : ∀ (g_ : Nat) (w_ : World), (Instr.indexAt 119 (.pointer (some ⟨g_, 0, none⟩)) (.int .i64 x35_2)).run Tryd.prog w_ = .ok (.pointer (some ⟨g_, 2, none⟩)) w_ := fun g_ w_ => arr_addr_119_2 g_ w_ x35_2 (beq_iff_eq.mp (by first | (with_reducible assumption) | assumption))
                   go_wp2
                   repeat (go_quiet (fail); try go_wp2)
                   go_roundg k3
                   case measure => have := HJ1.out; have := HK2.out; have := HK3.out; omega
                   case rel => exact ⟨(wrap64 (Int.tdiv x4_3 (rd y227 x35_2))), (x227000_3), (x227001_3), (wrap64 (x227002_3 + 1)), (x227003_3), (by first | rfl | (simp; done) | (simp [*]; done)), H', ⟨by have := HJ1.out; have := HK2.out; have := HK3.out; omega⟩, ⟨by (with_reducible repeat (first | apply Kd.R_alloc | apply Kd.R_drewN | apply Kd.R_drew)); exact Kd.R_mono (Kd.R_far (p := ⟨gb226, 2, none⟩) (Kd.R_types HO_33.out BK226.out (by decide)) (fun _ hk => hk.2) (.int .i64 (wrap64 (x227002_3 + 1)))) (fun _ hk => trivial)⟩, ⟨by (with_reducible repeat (first | apply qkn | apply qkd | apply qka)); refine qkf ?_ NB223_226.out _; (with_reducible repeat (first | apply qkn | apply qkd | apply qka)); exact BK223.out⟩, ⟨by (with_reducible repeat (first | apply qkn | apply qkd | apply qka)); refine qkf ?_ NB224_226.out _; (with_reducible repeat (first | apply qkn | apply qkd | apply qka)); exact BK224.out⟩, ⟨by (with_reducible repeat (first | apply qkn | apply qkd | apply qka)); refine qkp (cs := #[.int .i64 x227000_3, .int .i64 x227001_3, .int .i64 x227002_3, .int .i64 x227003_3]) ?_ 2 _ rfl; (with_reducible repeat (first | apply qkn | apply qkd | apply qka)); exact BK226.out⟩, ⟨by repeat (first | (with_reducible first | exact HB.out | apply qba | apply qbn | apply qb1 | refine qbs ?_ GE223.out | refine qbs ?_ GE224.out | refine qbs ?_ GE226.out) | exact HB.out)⟩⟩
                  ·
                   rw [if_neg c40] at H
                   have c40b0 : (x35_2 == 2) = false := beq_eq_false_iff_ne.mpr c40
                   have c40b1 : (x35_2 != 2) = true := bne_iff_ne.mpr c40
                   by_cases c46 : x35_2 = 3
                   ·
                    rw [if_pos c46] at H
                    have c46b0 : (x35_2 == 3) = true := beq_iff_eq.mpr c46
                    have c46b1 : (x35_2 != 3) = false := bne_eq_false_iff_eq.mpr c46
                    clear c46
                    have H' := Ad.mk H
                    clear H
                    have hx47 : ∀ (g_ : Nat) (w_ : World), (Instr.indexAt 119 (.pointer (some ⟨g_, 0, none⟩)) (.int .i64 x35_2)).run Tryd.prog w_ = .ok (.pointer (some ⟨g_, 3, none⟩)) w_ := fun g_ w_ => arr_addr_119_3 g_ w_ x35_2 (beq_iff_eq.mp (by first | (with_reducible assumption) | assumption))
                    have hnb49 := NB226_223.out
                    have hnc49 := NB223_226.out
                    have hnb50 := NB226_224.out
                    have hnc50 := NB224_226.out
                    have hcz51_0 : wr.cell? ⟨gb226, 0, none⟩ = some (.int .i64 x227000_3) := (qkc BK226.out 0).trans rfl
                    have hcz51_1 : wr.cell? ⟨gb226, 1, none⟩ = some (.int .i64 x227001_3) := (qkc BK226.out 1).trans rfl
                    have hcz51_2 : wr.cell? ⟨gb226, 2, none⟩ = some (.int .i64 x227002_3) := (qkc BK226.out 2).trans rfl
                    have hcz51_3 : wr.cell? ⟨gb226, 3, none⟩ = some (.int .i64 x227003_3) := (qkc BK226.out 3).trans rfl
                    have hfz51_0 := qkz BK226.out 0
                    have hfz51_1 := qkz BK226.out 1
                    have hfz51_2 := qkz BK226.out 2
                    have hfz51_3 := qkz BK226.out 3
                    have hx48 : ∀ (g_ : Nat) (w_ : World), (Instr.indexAt 119 (.pointer (some ⟨g_, 0, none⟩)) (.int .i64 x35_2)).run Tryd.prog w_ = .ok (.pointer (some ⟨g_, 3, none⟩)) w_ := fun g_ w_ => arr_addr_119_3 g_ w_ x35_2 (beq_iff_eq.mp (by first | (with_reducible assumption) | assumption))
                    go_wp2
                    repeat (go_quiet (fail); try go_wp2)
                    go_roundg k3
                    case measure => have := HJ1.out; have := HK2.out; have := HK3.out; omega
                    case rel => exact ⟨(wrap64 (Int.tdiv x4_3 (rd y227 x35_2))), (x227000_3), (x227001_3), (x227002_3), (wrap64 (x227003_3 + 1)), (by first | rfl | (simp; done) | (simp [*]; done)), H', ⟨by have := HJ1.out; have := HK2.out; have := HK3.out; omega⟩, ⟨by (with_reducible repeat (first | apply Kd.R_alloc | apply Kd.R_drewN | apply Kd.R_drew)); exact Kd.R_mono (Kd.R_far (p := ⟨gb226, 3, none⟩) (Kd.R_types HO_33.out BK226.out (by decide)) (fun _ hk => hk.2) (.int .i64 (wrap64 (x227003_3 + 1)))) (fun _ hk => trivial)⟩, ⟨by (with_reducible repeat (first | apply qkn | apply qkd | apply qka)); refine qkf ?_ NB223_226.out _; (with_reducible repeat (first | apply qkn | apply qkd | apply qka)); exact BK223.out⟩, ⟨by (with_reducible repeat (first | apply qkn | apply qkd | apply qka)); refine qkf ?_ NB224_226.out _; (with_reducible repeat (first | apply qkn | apply qkd | apply qka)); exact BK224.out⟩, ⟨by (with_reducible repeat (first | apply qkn | apply qkd | apply qka)); refine qkp (cs := #[.int .i64 x227000_3, .int .i64 x227001_3, .int .i64 x227002_3, .int .i64 x227003_3]) ?_ 3 _ rfl; (with_reducible repeat (first | apply qkn | apply qkd | apply qka)); exact BK226.out⟩, ⟨by repeat (first | (with_reducible first | exact HB.out | apply qba | apply qbn | apply qb1 | refine qbs ?_ GE223.out | refine qbs ?_ GE224.out | refine qbs ?_ GE226.out) | exact HB.out)⟩⟩
                   ·
                    rw [if_neg c46] at H
                    exact absurd H (by simp)
               ·
                rw [if_neg c27] at H
                exact absurd H (by simp)
              ·
               rw [if_neg c26] at H
               exact absurd H (by simp)
             ·
              rw [if_neg c25] at H
              have c25b0 : ((Int.tmod x4_3 (rd y227 x35_2)) == 0) = false := beq_eq_false_iff_ne.mpr c25
              have c25b1 : ((Int.tmod x4_3 (rd y227 x35_2)) != 0) = true := bne_iff_ne.mpr c25
              have H' := Ad.mk H
              clear H
              go_wp2
              repeat (go_quiet (fail); try go_wp2)
              go_loopg [5] k3 (fun kq v5 w' => ∃ (x5_4 : Int) (x227000_4 : Int) (x227001_4 : Int) (x227002_4 : Int) (x227003_4 : Int), v5 = .int .i64 x5_4 ∧ Ad (gleeref1_IntervalOf.l2 kq x4_3 x5_4 x35_2 (rd y227 x35_2) y227 (y227.length : Int) x35_2 x227000_4 x227001_4 x227002_4 x227003_4 = some (r1, r2, r3, r4, r5)) ∧ Ad (kq ≤ k3) ∧ Ad (Kd.R (Kd.int .i64) 3 w' w.heap.size (fun _ => True) (.slice (some ad230) y227.length co20) y227) ∧ Ad (w'.heap[gb223]? = some (.cells #[.int .i64 a0_0, .int .i64 a0_1] 30 (0, 0))) ∧ Ad (w'.heap[gb224]? = some (.cells #[.int .i64 0, .int .i64 0, .int .i64 0, .int .i64 0] 27 (0, 0))) ∧ Ad (w'.heap[gb226]? = some (.cells #[.int .i64 x227000_4, .int .i64 x227001_4, .int .i64 x227002_4, .int .i64 x227003_4] 119 (0, 0))) ∧ Ad (Below w.heap.size w w'))
              case atStart => exact ⟨(x5_2), (x227000_3), (x227001_3), (x227002_3), (x227003_3), (by first | rfl | (simp; done) | (simp [*]; done)), H', ⟨Nat.le_refl _⟩, ⟨by (with_reducible repeat (first | apply Kd.R_alloc | apply Kd.R_drewN | apply Kd.R_drew)); exact HO_33.out⟩, ⟨by (with_reducible repeat (first | apply qkn | apply qkd | apply qka)); exact BK223.out⟩, ⟨by (with_reducible repeat (first | apply qkn | apply qkd | apply qka)); exact BK224.out⟩, ⟨by (with_reducible repeat (first | apply qkn | apply qkd | apply qka)); exact BK226.out⟩, ⟨by repeat (first | (with_reducible first | exact HB.out | apply qba | apply qbn | apply qb1 | refine qbs ?_ GE223.out | refine qbs ?_ GE224.out | refine qbs ?_ GE226.out) | exact HB.out)⟩⟩
              case round =>
               clear H'
               try clear c1
               try clear c2
               try clear p2
               try clear q2
               try clear hx2
               try clear c3
               try clear hx3
               try clear c4
               try clear hx4
               try clear c5
               try clear c5b0
               try clear c6
               try clear p6
               try clear c8
               try clear c10
               try clear c11
               try clear c14
               try clear c14b0
               try clear c14b1
               try clear c15
               try clear c18
               try clear c21
               try clear c21b0
               try clear c22
               try clear c22b0
               try clear c23
               try clear c23b0
               try clear p23
               try clear q23
               try clear hx23
               try clear c24
               try clear c24b0
               try clear c24b1
               try clear c25
               try clear c25b0
               try clear c25b1
               try clear c26
               try clear c26b0
               try clear c27
               try clear c27b0
               try clear c28
               try clear c28b0
               try clear c28b1
               try clear hx29
               try clear hx30
               try clear c31
               try clear c32
               try clear c34
               try clear c34b0
               try clear c34b1
               try clear hx35
               try clear hx36
               try clear c37
               try clear c38
               try clear c40
               try clear c40b0
               try clear c40b1
               try clear hx41
               try clear hx42
               try clear c43
               try clear c44
               try clear c46
               try clear c46b0
               try clear c46b1
               try clear hx47
               try clear hx48
               try clear c49
               try clear c50
               try clear hcz12_0
               try clear hcz12_1
               try clear hcz12_2
               try clear hcz12_3
               try clear hcz16_0
               try clear hcz16_1
               try clear hcz33_0
               try clear hcz33_1
               try clear hcz33_2
               try clear hcz33_3
               try clear hcz39_0
               try clear hcz39_1
               try clear hcz39_2
               try clear hcz39_3
               try clear hcz45_0
               try clear hcz45_1
               try clear hcz45_2
               try clear hcz45_3
               try clear hcz51_0
               try clear hcz51_1
               try clear hcz51_2
               try clear hcz51_3
               try clear hcz7_0
               try clear hcz7_1
               try clear hcz9_0
               try clear hcz9_1
               try clear hfz12_0
               try clear hfz12_1
               try clear hfz12_2
               try clear hfz12_3
               try clear hfz16_0
               try clear hfz16_1
               try clear hfz33_0
               try clear hfz33_1
               try clear hfz33_2
               try clear hfz33_3
               try clear hfz39_0
               try clear hfz39_1
               try clear hfz39_2
               try clear hfz39_3
               try clear hfz45_0
               try clear hfz45_1
               try clear hfz45_2
               try clear hfz45_3
               try clear hfz51_0
               try clear hfz51_1
               try clear hfz51_2
               try clear hfz51_3
               try clear hfz7_0
               try clear hfz7_1
               try clear hfz9_0
               try clear hfz9_1
               try clear hx230_0
               try clear p2
               try clear p23
               try clear p230
               try clear q2
               try clear q23
               try clear q230
               obtain ⟨x5_4, x227000_4, x227001_4, x227002_4, x227003_4, rfl, HA, HK4, HO_33, BK223, BK224, BK226, HB⟩ := hrel
               cases gk with
               | zero => exact absurd HA.out (by simp [gleeref1_IntervalOf.l2])
               | succ k4 =>
                have H := HA.out
                clear HA
                simp only [gleeref1_IntervalOf.l2] at H
                by_cases c52 : (rd y227 x35_2) = 0
                ·
                 rw [if_pos c52] at H
                 exact absurd H (by simp)
                ·
                 rw [if_neg c52] at H
                 have c52b0 : ((rd y227 x35_2) == 0) = false := beq_eq_false_iff_ne.mpr c52
                 have c52b1 : ((rd y227 x35_2) != 0) = true := bne_iff_ne.mpr c52
                 by_cases c53 : (Int.tmod x5_4 (rd y227 x35_2)) = 0
                 ·
                  rw [if_pos c53] at H
                  have c53b0 : ((Int.tmod x5_4 (rd y227 x35_2)) == 0) = true := beq_iff_eq.mpr c53
                  have c53b1 : ((Int.tmod x5_4 (rd y227 x35_2)) != 0) = false := bne_eq_false_iff_eq.mpr c53
                  clear c53
                  by_cases c54 : 0 ≤ x35_2
                  ·
                   rw [if_pos c54] at H
                   have c54b0 : decide (0 ≤ x35_2) = true := decide_eq_true c54
                   clear c54
                   by_cases c55 : x35_2 < 4
                   ·
                    rw [if_pos c55] at H
                    have c55b0 : decide (x35_2 < 4) = true := decide_eq_true c55
                    clear c55
                    by_cases c56 : x35_2 = 0
                    ·
                     rw [if_pos c56] at H
                     have c56b0 : (x35_2 == 0) = true := beq_iff_eq.mpr c56
                     have c56b1 : (x35_2 != 0) = false := bne_eq_false_iff_eq.mpr c56
                     clear c56
                     have H' := Ad.mk H
                     clear H
                     have hx57 : ∀ (g_ : Nat) (w_ : World), (Instr.indexAt 119 (.pointer (some ⟨g_, 0, none⟩)) (.int .i64 x35_2)).run Tryd.prog w_ = .ok (.pointer (some ⟨g_, 0, none⟩)) w_ := fun g_ w_ => arr_addr_119_0 g_ w_ x35_2 (beq_iff_eq.mp (by first | (with_reducible assumption) | assumption))
                     have hnb59 := NB226_223.out
                     have hnc59 := NB223_226.out
                     have hnb60 := NB226_224.out
                     have hnc60 := NB224_226.out
                     have hcz61_0 : wr.cell? ⟨gb226, 0, none⟩ = some (.int .i64 x227000_4) := (qkc BK226.out 0).trans rfl
                     have hcz61_1 : wr.cell? ⟨gb226, 1, none⟩ = some (.int .i64 x227001_4) := (qkc BK226.out 1).trans rfl
                     have hcz61_2 : wr.cell? ⟨gb226, 2, none⟩ = some (.int .i64 x227002_4) := (qkc BK226.out 2).trans rfl
                     have hcz61_3 : wr.cell? ⟨gb226, 3, none⟩ = some (.int .i64 x227003_4) := (qkc BK226.out 3).trans rfl
                     have hfz61_0 := qkz BK226.out 0
                     have hfz61_1 := qkz BK226.out 1
                     have hfz61_2 := qkz BK226.out 2
                     have hfz61_3 := qkz BK226.out 3
                     have hx58 : ∀ (g_ : Nat) (w_ : World), (Instr.indexAt 119 (.pointer (some ⟨g_, 0, none⟩)) (.int .i64 x35_2)).run Tryd.prog w_ = .ok (.pointer (some ⟨g_, 0, none⟩)) w_ := fun g_ w_ => arr_addr_119_0 g_ w_ x35_2 (beq_iff_eq.mp (by first | (with_reducible assumption) | assumption))
                     go_wp2
                     repeat (go_quiet (fail); try go_wp2)
                     go_roundg k4
                     case measure => have := HJ1.out; have := HK2.out; have := HK3.out; have := HK4.out; omega
                     case rel => exact ⟨(wrap64 (Int.tdiv x5_4 (rd y227 x35_2))), (wrap64 (x227000_4 - 1)), (x227001_4), (x227002_4), (x227003_4), (by first | rfl | (simp; done) | (simp [*]; done)), H', ⟨by have := HJ1.out; have := HK2.out; have := HK3.out; have := HK4.out; omega⟩, ⟨by (with_reducible repeat (first | apply Kd.R_alloc | apply Kd.R_drewN | apply Kd.R_drew)); exact Kd.R_mono (Kd.R_far (p := ⟨gb226, 0, none⟩) (Kd.R_types HO_33.out BK226.out (by decide)) (fun _ hk => hk.2) (.int .i64 (wrap64 (x227000_4 - 1)))) (fun _ hk => trivial)⟩, ⟨by (with_reducible repeat (first | apply qkn | apply qkd | apply qka)); refine qkf ?_ NB223_226.out _; (with_reducible repeat (first | apply qkn | apply qkd | apply qka)); exact BK223.out⟩, ⟨by (with_reducible repeat (first | apply qkn | apply qkd | apply qka)); refine qkf ?_ NB224_226.out _; (with_reducible repeat (first | apply qkn | apply qkd | apply qka)); exact BK224.out⟩, ⟨by (with_reducible repeat (first | apply qkn | apply qkd | apply qka)); refine qkp (cs := #[.int .i64 x227000_4, .int .i64 x227001_4, .int .i64 x227002_4, .int .i64 x227003_4]) ?_ 0 _ rfl; (with_reducible repeat (first | apply qkn | apply qkd | apply qka)); exact BK226.out⟩, ⟨by repeat (first | (with_reducible first | exact HB.out | apply qba | apply qbn | apply qb1 | refine qbs ?_ GE223.out | refine qbs ?_ GE224.out | refine qbs ?_ GE226.out) | exact HB.out)⟩⟩
                    ·
                     rw [if_neg c56] at H
                     have c56b0 : (x35_2 == 0) = false := beq_eq_false_iff_ne.mpr c56
                     have c56b1 : (x35_2 != 0) = true := bne_iff_ne.mpr c56
                     by_cases c62 : x35_2 = 1
                     ·
                      rw [if_pos c62] at H
                      have c62b0 : (x35_2 == 1) = true := beq_iff_eq.mpr c62
                      have c62b1 : (x35_2 != 1) = false := bne_eq_false_iff_eq.mpr c62
                      clear c62
                      have H' := Ad.mk H
                      clear H
                      have hx63 : ∀ (g_ : Nat) (w_ : World), (Instr.indexAt 119 (.pointer (some ⟨g_, 0, none⟩)) (.int .i64 x35_2)).run Tryd.prog w_ = .ok (.pointer (some ⟨g_, 1, none⟩)) w_ := fun g_ w_ => arr_addr_119_1 g_ w_ x35_2 (beq_iff_eq.mp (by first | (with_reducible assumption) | assumption))
                      have hnb65 := NB226_223.out
                      have hnc65 := NB223_226.out
                      have hnb66 := NB226_224.out
                      have hnc66 := NB224_226.out
                      have hcz67_0 : wr.cell? ⟨gb226, 0, none⟩ = some (.int .i64 x227000_4) := (qkc BK226.out 0).trans rfl
                      have hcz67_1 : wr.cell? ⟨gb226, 1, none⟩ = some (.int .i64 x227001_4) := (qkc BK226.out 1).trans rfl
                      have hcz67_2 : wr.cell? ⟨gb226, 2, none⟩ = some (.int .i64 x227002_4) := (qkc BK226.out 2).trans rfl
                      have hcz67_3 : wr.cell? ⟨gb226, 3, none⟩ = some (.int .i64 x227003_4) := (qkc BK226.out 3).trans rfl
                      have hfz67_0 := qkz BK226.out 0
                      have hfz67_1 := qkz BK226.out 1
                      have hfz67_2 := qkz BK226.out 2
                      have hfz67_3 := qkz BK226.out 3
                      have hx64 : ∀ (g_ : Nat) (w_ : World), (Instr.indexAt 119 (.pointer (some ⟨g_, 0, none⟩)) (.int .i64 x35_2)).run Tryd.prog w_ = .ok (.pointer (some ⟨g_, 1, none⟩)) w_ := fun g_ w_ => arr_addr_119_1 g_ w_ x35_2 (beq_iff_eq.mp (by first | (with_reducible assumption) | assumption))
                      go_wp2
                      repeat (go_quiet (fail); try go_wp2)
                      go_roundg k4
                      case measure => have := HJ1.out; have := HK2.out; have := HK3.out; have := HK4.out; omega
                      case rel => exact ⟨(wrap64 (Int.tdiv x5_4 (rd y227 x35_2))), (x227000_4), (wrap64 (x227001_4 - 1)), (x227002_4), (x227003_4), (by first | rfl | (simp; done) | (simp [*]; done)), H', ⟨by have := HJ1.out; have := HK2.out; have := HK3.out; have := HK4.out; omega⟩, ⟨by (with_reducible repeat (first | apply Kd.R_alloc | apply Kd.R_drewN | apply Kd.R_drew)); exact Kd.R_mono (Kd.R_far (p := ⟨gb226, 1, none⟩) (Kd.R_types HO_33.out BK226.out (by decide)) (fun _ hk => hk.2) (.int .i64 (wrap64 (x227001_4 - 1)))) (fun _ hk => trivial)⟩, ⟨by (with_reducible repeat (first | apply qkn | apply qkd | apply qka)); refine qkf ?_ NB223_226.out _; (with_reducible repeat (first | apply qkn | apply qkd | apply qka)); exact BK223.out⟩, ⟨by (with_reducible repeat (first | apply qkn | apply qkd | apply qka)); refine qkf ?_ NB224_226.out _; (with_reducible repeat (first | apply qkn | apply qkd | apply qka)); exact BK224.out⟩, ⟨by (with_reducible repeat (first | apply qkn | apply qkd | apply qka)); refine qkp (cs := #[.int .i64 x227000_4, .int .i64 x227001_4, .int .i64 x227002_4, .int .i64 x227003_4]) ?_ 1 _ rfl; (with_reducible repeat (first | apply qkn | apply qkd | apply qka)); exact BK226.out⟩, ⟨by repeat (first | (with_reducible first | exact HB.out | apply qba | apply qbn | apply qb1 | refine qbs ?_ GE223.out | refine qbs ?_ GE224.out | refine qbs ?_ GE226.out) | exact HB.out)⟩⟩
                     ·
                      rw [if_neg c62] at H
                      have c62b0 : (x35_2 == 1) = false := beq_eq_false_iff_ne.mpr c62
                      have c62b1 : (x35_2 != 1) = true := bne_iff_ne.mpr c62
                      by_cases c68 : x35_2 = 2
                      ·
                       rw [if_pos c68] at H
                       have c68b0 : (x35_2 == 2) = true := beq_iff_eq.mpr c68
                       have c68b1 : (x35_2 != 2) = false := bne_eq_false_iff_eq.mpr c68
                       clear c68
                       have H' := Ad.mk H
                       clear H
                       have hx69 : ∀ (g_ : Nat) (w_ : World), (Instr.indexAt 119 (.pointer (some ⟨g_, 0, none⟩)) (.int .i64 x35_2)).run Tryd.prog w_ = .ok (.pointer (some ⟨g_, 2, none⟩)) w_ := fun g_ w_ => arr_addr_119_2 g_ w_ x35_2 (beq_iff_eq.mp (by first | (with_reducible assumption) | assumption))
                       have hnb71 := NB226_223.out
                       have hnc71 := NB223_226.out
                       have hnb72 := NB226_224.out
                       have hnc72 := NB224_226.out
                       have hcz73_0 : wr.cell? ⟨gb226, 0, none⟩ = some (.int .i64 x227000_4) := (qkc BK226.out 0).trans rfl
                       have hcz73_1 : wr.cell? ⟨gb226, 1, none⟩ = some (.int .i64 x227001_4) := (qkc BK226.out 1).trans rfl
                       have hcz73_2 : wr.cell? ⟨gb226, 2, none⟩ = some (.int .i64 x227002_4) := (qkc BK226.out 2).trans rfl
                       have hcz73_3 : wr.cell? ⟨gb226, 3, none⟩ = some (.int .i64 x227003_4) := (qkc BK226.out 3).trans rfl
                       have hfz73_0 := qkz BK226.out 0
                       have hfz73_1 := qkz BK226.out 1
                       have hfz73_2 := qkz BK226.out 2
                       have hfz73_3 := qkz BK226.out 3
                       have hx70 : ∀ (g_ : Nat) (w_ : World), (Instr.indexAt 119 (.pointer (some ⟨g_, 0, none⟩)) (.int .i64 x35_2)).run Tryd.prog w_ = .ok (.pointer (some ⟨g_, 2, none⟩)) w_ := fun g_ w_ => arr_addr_119_2 g_ w_ x35_2 (beq_iff_eq.mp (by first | (with_reducible assumption) | assumption))
                       go_wp2
                       repeat (go_quiet (fail); try go_wp2)
                       go_roundg k4
                       case measure => have := HJ1.out; have := HK2.out; have := HK3.out; have := HK4.out; omega
                       case rel => exact ⟨(wrap64 (Int.tdiv x5_4 (rd y227 x35_2))), (x227000_4), (x227001_4), (wrap64 (x227002_4 - 1)), (x227003_4), (by first | rfl | (simp; done) | (simp [*]; done)), H', ⟨by have := HJ1.out; have := HK2.out; have := HK3.out; have := HK4.out; omega⟩, ⟨by (with_reducible repeat (first | apply Kd.R_alloc | apply Kd.R_drewN | apply Kd.R_drew)); exact Kd.R_mono (Kd.R_far (p := ⟨gb226, 2, none⟩) (Kd.R_types HO_33.out BK226.out (by decide)) (fun _ hk => hk.2) (.int .i64 (wrap64 (x227002_4 - 1)))) (fun _ hk => trivial)⟩, ⟨by (with_reducible repeat (first | apply qkn | apply qkd | apply qka)); refine qkf ?_ NB223_226.out _; (with_reducible repeat (first | apply qkn | apply qkd | apply qka)); exact BK223.out⟩, ⟨by (with_reducible repeat (first | apply qkn | apply qkd | apply qka)); refine qkf ?_ NB224_226.out _; (with_reducible repeat (first | apply qkn | apply qkd | apply qka)); exact BK224.out⟩, ⟨by (with_reducible repeat (first | apply qkn | apply qkd | apply qka)); refine qkp (cs := #[.int .i64 x227000_4, .int .i64 x227001_4, .int .i64 x227002_4, .int .i64 x227003_4]) ?_ 2 _ rfl; (with_reducible repeat (first | apply qkn | apply qkd | apply qka)); exact BK226.out⟩, ⟨by repeat (first | (with_reducible first | exact HB.out | apply qba | apply qbn | apply qb1 | refine qbs ?_ GE223.out | refine qbs ?_ GE224.out | refine qbs ?_ GE226.out) | exact HB.out)⟩⟩
                      ·
                       rw [if_neg c68] at H
                       have c68b0 : (x35_2 == 2) = false := beq_eq_false_iff_ne.mpr c68
                       have c68b1 : (x35_2 != 2) = true := bne_iff_ne.mpr c68
                       by_cases c74 : x35_2 = 3
                       ·
                        rw [if_pos c74] at H
                        have c74b0 : (x35_2 == 3) = true := beq_iff_eq.mpr c74
                        have c74b1 : (x35_2 != 3) = false := bne_eq_false_iff_eq.mpr c74
                        clear c74
                        have H' := Ad.mk H
                        clear H
                        have hx75 : ∀ (g_ : Nat) (w_ : World), (Instr.indexAt 119 (.pointer (some ⟨g_, 0, none⟩)) (.int .i64 x35_2)).run Tryd.prog w_ = .ok (.pointer (some ⟨g_, 3, none⟩)) w_ := fun g_ w_ => arr_addr_119_3 g_ w_ x35_2 (beq_iff_eq.mp (by first | (with_reducible assumption) | assumption))
                        have hnb77 := NB226_223.out
                        have hnc77 := NB223_226.out
                        have hnb78 := NB226_224.out
                        have hnc78 := NB224_226.out
                        have hcz79_0 : wr.cell? ⟨gb226, 0, none⟩ = some (.int .i64 x227000_4) := (qkc BK226.out 0).trans rfl
                        have hcz79_1 : wr.cell? ⟨gb226, 1, none⟩ = some (.int .i64 x227001_4) := (qkc BK226.out 1).trans rfl
                        have hcz79_2 : wr.cell? ⟨gb226, 2, none⟩ = some (.int .i64 x227002_4) := (qkc BK226.out 2).trans rfl
                        have hcz79_3 : wr.cell? ⟨gb226, 3, none⟩ = some (.int .i64 x227003_4) := (qkc BK226.out 3).trans rfl
                        have hfz79_0 := qkz BK226.out 0
                        have hfz79_1 := qkz BK226.out 1
                        have hfz79_2 := qkz BK226.out 2
                        have hfz79_3 := qkz BK226.out 3
                        have hx76 : ∀ (g_ : Nat) (w_ : World), (Instr.indexAt 119 (.pointer (some ⟨g_, 0, none⟩)) (.int .i64 x35_2)).run Tryd.prog w_ = .ok (.pointer (some ⟨g_, 3, none⟩)) w_ := fun g_ w_ => arr_addr_119_3 g_ w_ x35_2 (beq_iff_eq.mp (by first | (with_reducible assumption) | assumption))
                        go_wp2
                        repeat (go_quiet (fail); try go_wp2)
                        go_roundg k4
                        case measure => have := HJ1.out; have := HK2.out; have := HK3.out; have := HK4.out; omega
                        case rel => exact ⟨(wrap64 (Int.tdiv x5_4 (rd y227 x35_2))), (x227000_4), (x227001_4), (x227002_4), (wrap64 (x227003_4 - 1)), (by first | rfl | (simp; done) | (simp [*]; done)), H', ⟨by have := HJ1.out; have := HK2.out; have := HK3.out; have := HK4.out; omega⟩, ⟨by (with_reducible repeat (first | apply Kd.R_alloc | apply Kd.R_drewN | apply Kd.R_drew)); exact Kd.R_mono (Kd.R_far (p := ⟨gb226, 3, none⟩) (Kd.R_types HO_33.out BK226.out (by decide)) (fun _ hk => hk.2) (.int .i64 (wrap64 (x227003_4 - 1)))) (fun _ hk => trivial)⟩, ⟨by (with_reducible repeat (first | apply qkn | apply qkd | apply qka)); refine qkf ?_ NB223_226.out _; (with_reducible repeat (first | apply qkn | apply qkd | apply qka)); exact BK223.out⟩, ⟨by (with_reducible repeat (first | apply qkn | apply qkd | apply qka)); refine qkf ?_ NB224_226.out _; (with_reducible repeat (first | apply qkn | apply qkd | apply qka)); exact BK224.out⟩, ⟨by (with_reducible repeat (first | apply qkn | apply qkd | apply qka)); refine qkp (cs := #[.int .i64 x227000_4, .int .i64 x227001_4, .int .i64 x227002_4, .int .i64 x227003_4]) ?_ 3 _ rfl; (with_reducible repeat (first | apply qkn | apply qkd | apply qka)); exact BK226.out⟩, ⟨by repeat (first | (with_reducible first | exact HB.out | apply qba | apply qbn | apply qb1 | refine qbs ?_ GE223.out | refine qbs ?_ GE224.out | refine qbs ?_ GE226.out) | exact HB.out)⟩⟩
                       ·
                        rw [if_neg c74] at H
                        exact absurd H (by simp)
                   ·
                    rw [if_neg c55] at H
                    exact absurd H (by simp)
                  ·
                   rw [if_neg c54] at H
                   exact absurd H (by simp)
                 ·
                  rw [if_neg c53] at H
                  have c53b0 : ((Int.tmod x5_4 (rd y227 x35_2)) == 0) = false := beq_eq_false_iff_ne.mpr c53
                  have c53b1 : ((Int.tmod x5_4 (rd y227 x35_2)) != 0) = true := bne_iff_ne.mpr c53
                  have H' := Ad.mk H
                  clear H
                  go_wp2
                  repeat (go_quiet (fail); try go_wp2)
                  go_roundg k4
                  case measure => have := HJ1.out; have := HK2.out; have := HK3.out; have := HK4.out; omega
                  case rel => exact ⟨(x4_3), (x5_4), (wrap64 (x35_2 + 1)), (x227000_4), (x227001_4), (x227002_4), (x227003_4), (by first | rfl | (simp; done) | (simp [*]; done)), (by first | rfl | (simp; done) | (simp [*]; done)), (by first | rfl | (simp; done) | (simp [*]; done)), H', ⟨by have := HJ1.out; have := HK2.out; have := HK3.out; have := HK4.out; omega⟩, ⟨by (with_reducible repeat (first | apply Kd.R_alloc | apply Kd.R_drewN | apply Kd.R_drew)); exact HO_33.out⟩, ⟨by (with_reducible repeat (first | apply qkn | apply qkd | apply qka)); exact BK223.out⟩, ⟨by (with_reducible repeat (first | apply qkn | apply qkd | apply qka)); exact BK224.out⟩, ⟨by (with_reducible repeat (first | apply qkn | apply qkd | apply qka)); exact BK226.out⟩, ⟨by repeat (first | (with_reducible first | exact HB.out | apply qba | apply qbn | apply qb1 | refine qbs ?_ GE223.out | refine qbs ?_ GE224.out | refine qbs ?_ GE226.out) | exact HB.out)⟩⟩
         ·
          rw [if_neg c23] at H
          exact absurd H (by simp)
        ·
         rw [if_neg c22] at H
         exact absurd H (by simp)
       ·
        rw [if_neg c21] at H
        have c21b0 : decide (x35_2 < (y227.length : Int)) = false := decide_eq_false c21
        clear c21
        have HC80 := Ad.mk H
        clear H
        go_upto_region 17 with (fail)
        repeat (go_quiet (fail); go_upto_region 17 with (fail))
        go_cut [70] (fun v70 wc => ∃ (kq : Nat) (x70_79 : Bool), v70 = .bool x70_79 ∧ Ad (gleeref1_IntervalOf.j4 kq x70_79 x227000_2 x227001_2 x227002_2 x227003_2 = some (r1, r2, r3, r4, r5)) ∧ Ad (kq ≤ k2) ∧ Ad (wc.heap[gb223]? = some (.cells #[.int .i64 a0_0, .int .i64 a0_1] 30 (0, 0))) ∧ Ad (wc.heap[gb224]? = some (.cells #[.int .i64 0, .int .i64 0, .int .i64 0, .int .i64 0] 27 (0, 0))) ∧ Ad (wc.heap[gb226]? = some (.cells #[.int .i64 x227000_2, .int .i64 x227001_2, .int .i64 x227002_2, .int .i64 x227003_2] 119 (0, 0))) ∧ Ad (Below w.heap.size w wc))
        case first =>
         have H := HC80.out
         clear HC80
         by_cases c81 : x4_2 = 1
         ·
          rw [if_pos c81] at H
          have c81b0 : (x4_2 == 1) = true := beq_iff_eq.mpr c81
          have c81b1 : (x4_2 != 1) = false := bne_eq_false_iff_eq.mpr c81
          clear c81
          (first | rw [c81b0] | (simp only [i64_w, i32_w]; rw [c81b0]) | skip)
          have H' := Ad.mk H
          clear H
          go_wp2
          repeat (go_quiet (fail); try go_wp2)
          go_meet
          case rel => exact ⟨_, ((x5_2 != 1)), (by first | rfl | (simp; done) | (simp [*]; done)), H', ⟨by have := HJ1.out; have := HK2.out; first | omega | exact Nat.le_refl _⟩, ⟨by (with_reducible repeat (first | apply qkn | apply qkd | apply qka)); exact BK223.out⟩, ⟨by (with_reducible repeat (first | apply qkn | apply qkd | apply qka)); exact BK224.out⟩, ⟨by (with_reducible repeat (first | apply qkn | apply qkd | apply qka)); exact BK226.out⟩, ⟨by repeat (first | (with_reducible first | exact HB.out | apply qba | apply qbn | apply qb1 | refine qbs ?_ GE223.out | refine qbs ?_ GE224.out | refine qbs ?_ GE226.out) | exact HB.out)⟩⟩
         ·
          rw [if_neg c81] at H
          have c81b0 : (x4_2 == 1) = false := beq_eq_false_iff_ne.mpr c81
          have c81b1 : (x4_2 != 1) = true := bne_iff_ne.mpr c81
          (first | rw [c81b0] | (simp only [i64_w, i32_w]; rw [c81b0]) | skip)
          have H' := Ad.mk H
          clear H
          go_wp2
          repeat (go_quiet (fail); try go_wp2)
          go_meet
          case rel => exact ⟨_, (true), (by first | rfl | (simp; done) | (simp [*]; done)), H', ⟨by have := HJ1.out; have := HK2.out; first | omega | exact Nat.le_refl _⟩, ⟨by (with_reducible repeat (first | apply qkn | apply qkd | apply qka)); exact BK223.out⟩, ⟨by (with_reducible repeat (first | apply qkn | apply qkd | apply qka)); exact BK224.out⟩, ⟨by (with_reducible repeat (first | apply qkn | apply qkd | apply qka)); exact BK226.out⟩, ⟨by repeat (first | (with_reducible first | exact HB.out | apply qba | apply qbn | apply qb1 | refine qbs ?_ GE223.out | refine qbs ?_ GE224.out | refine qbs ?_ GE226.out) | exact HB.out)⟩⟩
        case rest =>
         clear HC80
         try clear c1
         try clear c2
         try clear p2
         try clear q2
         try clear hx2
         try clear c3
         try clear hx3
         try clear c4
         try clear hx4
         try clear c5
         try clear c5b0
         try clear hx5
         try clear c6
         try clear p6
         try clear hx6
         try clear c7
         try clear hx7
         try clear c8
         try clear c10
         try clear c11
         try clear c14
         try clear c14b0
         try clear c14b1
         try clear c15
         try clear c18
         try clear c21
         try clear c21b0
         try clear c22
         try clear c22b0
         try clear c23
         try clear c23b0
         try clear p23
         try clear q23
         try clear hx23
         try clear c24
         try clear c24b0
         try clear c24b1
         try clear c25
         try clear c25b0
         try clear c25b1
         try clear c26
         try clear c26b0
         try clear c27
         try clear c27b0
         try clear c28
         try clear c28b0
         try clear c28b1
         try clear hx29
         try clear hx30
         try clear c31
         try clear c32
         try clear c34
         try clear c34b0
         try clear c34b1
         try clear hx35
         try clear hx36
         try clear c37
         try clear c38
         try clear c40
         try clear c40b0
         try clear c40b1
         try clear hx41
         try clear hx42
         try clear c43
         try clear c44
         try clear c46
         try clear c46b0
         try clear c46b1
         try clear hx47
         try clear hx48
         try clear c49
         try clear c50
         try clear c52
         try clear c52b0
         try clear c52b1
         try clear c53
         try clear c53b0
         try clear c53b1
         try clear c54
         try clear c54b0
         try clear c55
         try clear c55b0
         try clear c56
         try clear c56b0
         try clear c56b1
         try clear hx57
         try clear hx58
         try clear c59
         try clear c60
         try clear c62
         try clear c62b0
         try clear c62b1
         try clear hx63
         try clear p64
         try clear hx64
         try clear c65
         try clear c66
         try clear c68
         try clear c68b0
         try clear c68b1
         try clear hx69
         try clear hx70
         try clear c71
         try clear c72
         try clear c74
         try clear c74b0
         try clear c74b1
         try clear hx75
         try clear hx76
         try clear c77
         try clear c78
         try clear c81
         try clear c81b0
         try clear c81b1
         try clear hcz12_0
         try clear hcz12_1
         try clear hcz12_2
         try clear hcz12_3
         try clear hcz16_0
         try clear hcz16_1
         try clear hcz33_0
         try clear hcz33_1
         try clear hcz33_2
         try clear hcz33_3
         try clear hcz39_0
         try clear hcz39_1
         try clear hcz39_2
         try clear hcz39_3
         try clear hcz45_0
         try clear hcz45_1
         try clear hcz45_2
         try clear hcz45_3
         try clear hcz51_0
         try clear hcz51_1
         try clear hcz51_2
         try clear hcz51_3
         try clear hcz61_0
         try clear hcz61_1
         try clear hcz61_2
         try clear hcz61_3
         try clear hcz67_0
         try clear hcz67_1
         try clear hcz67_2
         try clear hcz67_3
         try clear hcz73_0
         try clear hcz73_1
         try clear hcz73_2
         try clear hcz73_3
         try clear hcz79_0
         try clear hcz79_1
         try clear hcz79_2
         try clear hcz79_3
         try clear hcz7_0
         try clear hcz7_1
         try clear hcz9_0
         try clear hcz9_1
         try clear hfz12_0
         try clear hfz12_1
         try clear hfz12_2
         try clear hfz12_3
         try clear hfz16_0
         try clear hfz16_1
         try clear hfz33_0
         try clear hfz33_1
         try clear hfz33_2
         try clear hfz33_3
         try clear hfz39_0
         try clear hfz39_1
         try clear hfz39_2
         try clear hfz39_3
         try clear hfz45_0
         try clear hfz45_1
         try clear hfz45_2
         try clear hfz45_3
         try clear hfz51_0
         try clear hfz51_1
         try clear hfz51_2
         try clear hfz51_3
         try clear hfz61_0
         try clear hfz61_1
         try clear hfz61_2
         try clear hfz61_3
         try clear hfz67_0
         try clear hfz67_1
         try clear hfz67_2
         try clear hfz67_3
         try clear hfz73_0
         try clear hfz73_1
         try clear hfz73_2
         try clear hfz73_3
         try clear hfz79_0
         try clear hfz79_1
         try clear hfz79_2
         try clear hfz79_3
         try clear hfz7_0
         try clear hfz7_1
         try clear hfz9_0
         try clear hfz9_1
         try clear hx230_0
         try clear p2
         try clear p23
         try clear p230
         try clear p6
         try clear q2
         try clear q23
         try clear q230
         obtain ⟨kq, x70_79, rfl, HA, HJ79, BK223, BK224, BK226, HB⟩ := hcut
         cases kq with
         | zero => exact absurd HA.out (by simp [gleeref1_IntervalOf.j4])
         | succ kj79 =>
          have H := HA.out
          clear HA
          simp only [gleeref1_IntervalOf.j4] at H
          by_cases c82 : x70_79 = true
          ·
           subst c82
           have H1 : (some (0, 0, 0, 0, 16)) = some (r1, r2, r3, r4, r5) := by rw [if_pos rfl] at H; exact H
           clear H
           have H := H1
           clear H1
           simp only [Option.some.injEq, Prod.mk.injEq] at H
           obtain ⟨rfl, rfl, rfl, rfl, rfl⟩ := H
           have hnb83 := NB224_223.out
           have hnc83 := NB223_224.out
           have hnb84 := NB224_226.out
           have hnc84 := NB226_224.out
           have hcz85_0 : wc.cell? ⟨gb224, 0, none⟩ = some (.int .i64 0) := (qkc BK224.out 0).trans rfl
           have hcz85_1 : wc.cell? ⟨gb224, 1, none⟩ = some (.int .i64 0) := (qkc BK224.out 1).trans rfl
           have hcz85_2 : wc.cell? ⟨gb224, 2, none⟩ = some (.int .i64 0) := (qkc BK224.out 2).trans rfl
           have hcz85_3 : wc.cell? ⟨gb224, 3, none⟩ = some (.int .i64 0) := (qkc BK224.out 3).trans rfl
           have hfz85_0 := qkz BK224.out 0
           have hfz85_1 := qkz BK224.out 1
           have hfz85_2 := qkz BK224.out 2
           have hfz85_3 := qkz BK224.out 3
           go_wp2
           repeat (go_quiet (fail); try go_wp2)
           refine bodyPost_ret (results_ct rfl _ _ gb224 27 #[.int .i64 0, .int .i64 0, .int .i64 0, .int .i64 0] (0, 0) _ rfl (by (with_reducible repeat (first | apply qkn | apply qkd | apply qka)); refine qkp (cs := #[.int .i64 0, .int .i64 0, .int .i64 0, .int .i64 0]) ?_ 3 _ rfl; (with_reducible repeat (first | apply qkn | apply qkd | apply qka)); refine qkp (cs := #[.int .i64 0, .int .i64 0, .int .i64 0, .int .i64 0]) ?_ 2 _ rfl; (with_reducible repeat (first | apply qkn | apply qkd | apply qka)); refine qkp (cs := #[.int .i64 0, .int .i64 0, .int .i64 0, .int .i64 0]) ?_ 1 _ rfl; (with_reducible repeat (first | apply qkn | apply qkd | apply qka)); refine qkp (cs := #[.int .i64 0, .int .i64 0, .int .i64 0, .int .i64 0]) ?_ 0 _ rfl; (with_reducible repeat (first | apply qkn | apply qkd | apply qka)); exact BK224.out) Tryd.underlying27 rfl (by kernel_rfl)) rfl ?_
           exact ⟨by first | rfl | (simp [errW_none, errW_some] <;> rfl) | (simp [*, errW_none, errW_some] <;> rfl), by repeat (first | (with_reducible first | exact HB.out | apply qba | apply qbn | apply qb1 | refine qbs ?_ GE223.out | refine qbs ?_ GE224.out | refine qbs ?_ GE226.out) | exact HB.out)⟩
          ·
           replace c82 := Bool.eq_false_iff.mpr c82
           subst c82
           have H1 : ((gleeref1_IntervalFault.f kj79 x227000_2 x227001_2 x227002_2 x227003_2).bind fun t232 => (if t232 = 0 then (some (x227000_2, x227001_2, x227002_2, x227003_2, 0)) else (some (0, 0, 0, 0, t232)))) = some (r1, r2, r3, r4, r5) := by rw [if_neg (show ¬ (false = true) by decide)] at H; exact H
           clear H
           have H := H1
           clear H1
           replace H := Option.bind_eq_some_iff.mp H
           obtain ⟨t232, A860, H⟩ := H
           replace H : (if t232 = 0 then (some (x227000_2, x227001_2, x227002_2, x227003_2, 0)) else (some (0, 0, 0, 0, t232))) = some (r1, r2, r3, r4, r5) := H
           have A86 := Ad.mk A860
           clear A860
           by_cases c87 : t232 = 0
           ·
            rw [if_pos c87] at H
            have c87b0 : (t232 == 0) = true := beq_iff_eq.mpr c87
            have c87b1 : (t232 != 0) = false := bne_eq_false_iff_eq.mpr c87
            clear c87
            simp only [Option.some.injEq, Prod.mk.injEq] at H
            obtain ⟨rfl, rfl, rfl, rfl, rfl⟩ := H
            have hnb88 := NB226_223.out
            have hnc88 := NB223_226.out
            have hnb89 := NB226_224.out
            have hnc89 := NB224_226.out
            have hcz90_0 : wc.cell? ⟨gb226, 0, none⟩ = some (.int .i64 x227000_2) := (qkc BK226.out 0).trans rfl
            have hcz90_1 : wc.cell? ⟨gb226, 1, none⟩ = some (.int .i64 x227001_2) := (qkc BK226.out 1).trans rfl
            have hcz90_2 : wc.cell? ⟨gb226, 2, none⟩ = some (.int .i64 x227002_2) := (qkc BK226.out 2).trans rfl
            have hcz90_3 : wc.cell? ⟨gb226, 3, none⟩ = some (.int .i64 x227003_2) := (qkc BK226.out 3).trans rfl
            have hfz90_0 := qkz BK226.out 0
            have hfz90_1 := qkz BK226.out 1
            have hfz90_2 := qkz BK226.out 2
            have hfz90_3 := qkz BK226.out 3
            go_wp2_with (first | ((with_reducible refine qgd (N := 9) rfl ?_); refine qbe ?hg (N := 9) ?hd (cs := #[.int .i64 0, .int .i64 0, .int .i64 0, .int .i64 0]) (t := 27) ?hr ?_; (case hd => rfl); (case hg => rfl); (case hr => first | (go_simp; done) | (go_simp; rfl)); intro gb231 hg w91 hbox hb; have BK231 := Ad.mk (hbox); have GW231 := Ad.mk ((by rw [hg]; exact (qbz (by repeat (first | (with_reducible first | exact HB.out | apply qba | apply qbn | apply qb1 | refine qbs ?_ GE223.out | refine qbs ?_ GE224.out | refine qbs ?_ GE226.out) | exact HB.out))) : w.heap.size ≤ gb231)); have GE231 := Ad.mk ((by rw [hg]; exact (qbz (by repeat (first | (with_reducible first | exact HB.out | apply qba | apply qbn | apply qb1 | refine qbs ?_ GE223.out | refine qbs ?_ GE224.out | refine qbs ?_ GE226.out) | exact HB.out))) : w.heap.size ≤ gb231)); have NB223_231 := Ad.mk ((by rw [hg]; exact Nat.ne_of_lt (qkl (g := gb223) (o := .cells #[.int .i64 a0_0, .int .i64 a0_1] 30 (0, 0)) (by (with_reducible repeat (first | apply qkn | apply qkd | apply qka)); exact BK223.out)) : gb223 ≠ gb231)); have NB231_223 := Ad.mk ((by rw [hg]; exact Nat.ne_of_gt (qkl (g := gb223) (o := .cells #[.int .i64 a0_0, .int .i64 a0_1] 30 (0, 0)) (by (with_reducible repeat (first | apply qkn | apply qkd | apply qka)); exact BK223.out)) : gb231 ≠ gb223)); have NB224_231 := Ad.mk ((by rw [hg]; exact Nat.ne_of_lt (qkl (g := gb224) (o := .cells #[.int .i64 0, .int .i64 0, .int .i64 0, .int .i64 0] 27 (0, 0)) (by (with_reducible repeat (first | apply qkn | apply qkd | apply qka)); exact BK224.out)) : gb224 ≠ gb231)); have NB231_224 := Ad.mk ((by rw [hg]; exact Nat.ne_of_gt (qkl (g := gb224) (o := .cells #[.int .i64 0, .int .i64 0, .int .i64 0, .int .i64 0] 27 (0, 0)) (by (with_reducible repeat (first | apply qkn | apply qkd | apply qka)); exact BK224.out)) : gb231 ≠ gb224)); have NB226_231 := Ad.mk ((by rw [hg]; exact Nat.ne_of_lt (qkl (g := gb226) (o := .cells #[.int .i64 x227000_2, .int .i64 x227001_2, .int .i64 x227002_2, .int .i64 x227003_2] 119 (0, 0)) (by (with_reducible repeat (first | apply qkn | apply qkd | apply qka)); exact BK226.out)) : gb226 ≠ gb231)); have NB231_226 := Ad.mk ((by rw [hg]; exact Nat.ne_of_gt (qkl (g := gb226) (o := .cells #[.int .i64 x227000_2, .int .i64 x227001_2, .int .i64 x227002_2, .int .i64 x227003_2] 119 (0, 0)) (by (with_reducible repeat (first | apply qkn | apply qkd | apply qka)); exact BK226.out)) : gb231 ≠ gb226)); replace BK223 := Ad.mk (qkb (g := gb223) (o := .cells #[.int .i64 a0_0, .int .i64 a0_1] 30 (0, 0)) (by (with_reducible repeat (first | apply qkn | apply qkd | apply qka)); exact BK223.out) hb); replace BK224 := Ad.mk (qkb (g := gb224) (o := .cells #[.int .i64 0, .int .i64 0, .int .i64 0, .int .i64 0] 27 (0, 0)) (by (with_reducible repeat (first | apply qkn | apply qkd | apply qka)); exact BK224.out) hb); replace BK226 := Ad.mk (qkb (g := gb226) (o := .cells #[.int .i64 x227000_2, .int .i64 x227001_2, .int .i64 x227002_2, .int .i64 x227003_2] 119 (0, 0)) (by (with_reducible repeat (first | apply qkn | apply qkd | apply qka)); exact BK226.out) hb); replace HB := Ad.mk (qbt (by repeat (first | (with_reducible first | exact HB.out | apply qba | apply qbn | apply qb1 | refine qbs ?_ GE223.out | refine qbs ?_ GE224.out | refine qbs ?_ GE226.out) | exact HB.out)) hb); clear hb hbox hg; have hnb92 := NB231_223.out; have hnc92 := NB223_231.out; have hnb93 := NB231_224.out; have hnc93 := NB224_231.out; have hnb94 := NB231_226.out; have hnc94 := NB226_231.out; have hcz95_0 : w91.cell? ⟨gb231, 0, none⟩ = some (.int .i64 0) := (qkc BK231.out 0).trans rfl; have hcz95_1 : w91.cell? ⟨gb231, 1, none⟩ = some (.int .i64 0) := (qkc BK231.out 1).trans rfl; have hcz95_2 : w91.cell? ⟨gb231, 2, none⟩ = some (.int .i64 0) := (qkc BK231.out 2).trans rfl; have hcz95_3 : w91.cell? ⟨gb231, 3, none⟩ = some (.int .i64 0) := (qkc BK231.out 3).trans rfl; have hfz95_0 := qkz BK231.out 0; have hfz95_1 := qkz BK231.out 1; have hfz95_2 := qkz BK231.out 2; have hfz95_3 := qkz BK231.out 3) | (go_at_call 14; (with_reducible refine (gleeref1_IntervalFault.calls kj79 x227000_2 x227001_2 x227002_2 x227003_2 t232 _ A86.out).mono ?_); rintro e w96 ⟨rfl, hb⟩; replace BK223 := Ad.mk (qkb (g := gb223) (o := .cells #[.int .i64 a0_0, .int .i64 a0_1] 30 (0, 0)) (by (with_reducible repeat (first | apply qkn | apply qkd | apply qka)); refine qkf ?_ NB223_231.out _; (with_reducible repeat (first | apply qkn | apply qkd | apply qka)); refine qkf ?_ NB223_231.out _; (with_reducible repeat (first | apply qkn | apply qkd | apply qka)); refine qkf ?_ NB223_231.out _; (with_reducible repeat (first | apply qkn | apply qkd | apply qka)); refine qkf ?_ NB223_231.out _; (with_reducible repeat (first | apply qkn | apply qkd | apply qka)); exact BK223.out) hb); replace BK224 := Ad.mk (qkb (g := gb224) (o := .cells #[.int .i64 0, .int .i64 0, .int .i64 0, .int .i64 0] 27 (0, 0)) (by (with_reducible repeat (first | apply qkn | apply qkd | apply qka)); refine qkf ?_ NB224_231.out _; (with_reducible repeat (first | apply qkn | apply qkd | apply qka)); refine qkf ?_ NB224_231.out _; (with_reducible repeat (first | apply qkn | apply qkd | apply qka)); refine qkf ?_ NB224_231.out _; (with_reducible repeat (first | apply qkn | apply qkd | apply qka)); refine qkf ?_ NB224_231.out _; (with_reducible repeat (first | apply qkn | apply qkd | apply qka)); exact BK224.out) hb); replace BK226 := Ad.mk (qkb (g := gb226) (o := .cells #[.int .i64 x227000_2, .int .i64 x227001_2, .int .i64 x227002_2, .int .i64 x227003_2] 119 (0, 0)) (by (with_reducible repeat (first | apply qkn | apply qkd | apply qka)); refine qkf ?_ NB226_231.out _; (with_reducible repeat (first | apply qkn | apply qkd | apply qka)); refine qkf ?_ NB226_231.out _; (with_reducible repeat (first | apply qkn | apply qkd | apply qka)); refine qkf ?_ NB226_231.out _; (with_reducible repeat (first | apply qkn | apply qkd | apply qka)); refine qkf ?_ NB226_231.out _; (with_reducible repeat (first | apply qkn | apply qkd | apply qka)); exact BK226.out) hb); replace BK231 := Ad.mk (qkb (g := gb231) (o := .cells #[.int .i64 x227000_2, .int .i64 x227001_2, .int .i64 x227002_2, .int .i64 x227003_2] 27 (0, 0)) (by (with_reducible repeat (first | apply qkn | apply qkd | apply qka)); refine qkp (cs := #[.int .i64 x227000_2, .int .i64 x227001_2, .int .i64 x227002_2, .int .i64 0]) ?_ 3 _ rfl; (with_reducible repeat (first | apply qkn | apply qkd | apply qka)); refine qkp (cs := #[.int .i64 x227000_2, .int .i64 x227001_2, .int .i64 0, .int .i64 0]) ?_ 2 _ rfl; (with_reducible repeat (first | apply qkn | apply qkd | apply qka)); refine qkp (cs := #[.int .i64 x227000_2, .int .i64 0, .int .i64 0, .int .i64 0]) ?_ 1 _ rfl; (with_reducible repeat (first | apply qkn | apply qkd | apply qka)); refine qkp (cs := #[.int .i64 0, .int .i64 0, .int .i64 0, .int .i64 0]) ?_ 0 _ rfl; (with_reducible repeat (first | apply qkn | apply qkd | apply qka)); exact BK231.out) hb); replace HB := Ad.mk (qbt (by repeat (first | (with_reducible first | exact HB.out | apply qba | apply qbn | apply qb1 | refine qbs ?_ GE223.out | refine qbs ?_ GE224.out | refine qbs ?_ GE226.out | refine qbs ?_ GE231.out) | exact HB.out)) hb); (try clear hb); have hcz97_0 : w96.cell? ⟨gb231, 0, none⟩ = some (.int .i64 x227000_2) := (qkc BK231.out 0).trans rfl; have hcz97_1 : w96.cell? ⟨gb231, 1, none⟩ = some (.int .i64 x227001_2) := (qkc BK231.out 1).trans rfl; have hcz97_2 : w96.cell? ⟨gb231, 2, none⟩ = some (.int .i64 x227002_2) := (qkc BK231.out 2).trans rfl; have hcz97_3 : w96.cell? ⟨gb231, 3, none⟩ = some (.int .i64 x227003_2) := (qkc BK231.out 3).trans rfl; have hfz97_0 := qkz BK231.out 0; have hfz97_1 := qkz BK231.out 1; have hfz97_2 := qkz BK231.out 2; have hfz97_3 := qkz BK231.out 3; have hnb98 := NB224_223.out; have hnc98 := NB223_224.out; have hcz99_0 : w96.cell? ⟨gb224, 0, none⟩ = some (.int .i64 0) := (qkc BK224.out 0).trans rfl; have hcz99_1 : w96.cell? ⟨gb224, 1, none⟩ = some (.int .i64 0) := (qkc BK224.out 1).trans rfl; have hcz99_2 : w96.cell? ⟨gb224, 2, none⟩ = some (.int .i64 0) := (qkc BK224.out 2).trans rfl; have hcz99_3 : w96.cell? ⟨gb224, 3, none⟩ = some (.int .i64 0) := (qkc BK224.out 3).trans rfl; have hfz99_0 := qkz BK224.out 0; have hfz99_1 := qkz BK224.out 1; have hfz99_2 := qkz BK224.out 2; have hfz99_3 := qkz BK224.out 3))
            repeat (go_quiet (first | ((with_reducible refine qgd (N := 9) rfl ?_); refine qbe ?hg (N := 9) ?hd (cs := #[.int .i64 0, .int .i64 0, .int .i64 0, .int .i64 0]) (t := 27) ?hr ?_; (case hd => rfl); (case hg => rfl); (case hr => first | (go_simp; done) | (go_simp; rfl)); intro gb231 hg w91 hbox hb; have BK231 := Ad.mk (hbox); have GW231 := Ad.mk ((by rw [hg]; exact (qbz (by repeat (first | (with_reducible first | exact HB.out | apply qba | apply qbn | apply qb1 | refine qbs ?_ GE223.out | refine qbs ?_ GE224.out | refine qbs ?_ GE226.out) | exact HB.out))) : w.heap.size ≤ gb231)); have GE231 := Ad.mk ((by rw [hg]; exact (qbz (by repeat (first | (with_reducible first | exact HB.out | apply qba | apply qbn | apply qb1 | refine qbs ?_ GE223.out | refine qbs ?_ GE224.out | refine qbs ?_ GE226.out) | exact HB.out))) : w.heap.size ≤ gb231)); have NB223_231 := Ad.mk ((by rw [hg]; exact Nat.ne_of_lt (qkl (g := gb223) (o := .cells #[.int .i64 a0_0, .int .i64 a0_1] 30 (0, 0)) (by (with_reducible repeat (first | apply qkn | apply qkd | apply qka)); exact BK223.out)) : gb223 ≠ gb231)); have NB231_223 := Ad.mk ((by rw [hg]; exact Nat.ne_of_gt (qkl (g := gb223) (o := .cells #[.int .i64 a0_0, .int .i64 a0_1] 30 (0, 0)) (by (with_reducible repeat (first | apply qkn | apply qkd | apply qka)); exact BK223.out)) : gb231 ≠ gb223)); have NB224_231 := Ad.mk ((by rw [hg]; exact Nat.ne_of_lt (qkl (g := gb224) (o := .cells #[.int .i64 0, .int .i64 0, .int .i64 0, .int .i64 0] 27 (0, 0)) (by (with_reducible repeat (first | apply qkn | apply qkd | apply qka)); exact BK224.out)) : gb224 ≠ gb231)); have NB231_224 := Ad.mk ((by rw [hg]; exact Nat.ne_of_gt (qkl (g := gb224) (o := .cells #[.int .i64 0, .int .i64 0, .int .i64 0, .int .i64 0] 27 (0, 0)) (by (with_reducible repeat (first | apply qkn | apply qkd | apply qka)); exact BK224.out)) : gb231 ≠ gb224)); have NB226_231 := Ad.mk ((by rw [hg]; exact Nat.ne_of_lt (qkl (g := gb226) (o := .cells #[.int .i64 x227000_2, .int .i64 x227001_2, .int .i64 x227002_2, .int .i64 x227003_2] 119 (0, 0)) (by (with_reducible repeat (first | apply qkn | apply qkd | apply qka)); exact BK226.out)) : gb226 ≠ gb231)); have NB231_226 := Ad.mk ((by rw [hg]; exact Nat.ne_of_gt (qkl (g := gb226) (o := .cells #[.int .i64 x227000_2, .int .i64 x227001_2, .int .i64 x227002_2, .int .i64 x227003_2] 119 (0, 0)) (by (with_reducible repeat (first | apply qkn | apply qkd | apply qka)); exact BK226.out)) : gb231 ≠ gb226)); replace BK223 := Ad.mk (qkb (g := gb223) (o := .cells #[.int .i64 a0_0, .int .i64 a0_1] 30 (0, 0)) (by (with_reducible repeat (first | apply qkn | apply qkd | apply qka)); exact BK223.out) hb); replace BK224 := Ad.mk (qkb (g := gb224) (o := .cells #[.int .i64 0, .int .i64 0, .int .i64 0, .int .i64 0] 27 (0, 0)) (by (with_reducible repeat (first | apply qkn | apply qkd | apply qka)); exact BK224.out) hb); replace BK226 := Ad.mk (qkb (g := gb226) (o := .cells #[.int .i64 x227000_2, .int .i64 x227001_2, .int .i64 x227002_2, .int .i64 x227003_2] 119 (0, 0)) (by (with_reducible repeat (first | apply qkn | apply qkd | apply qka)); exact BK226.out) hb); replace HB := Ad.mk (qbt (by repeat (first | (with_reducible first | exact HB.out | apply qba | apply qbn | apply qb1 | refine qbs ?_ GE223.out | refine qbs ?_ GE224.out | refine qbs ?_ GE226.out) | exact HB.out)) hb); clear hb hbox hg; have hnb92 := NB231_223.out; have hnc92 := NB223_231.out; have hnb93 := NB231_224.out; have hnc93 := NB224_231.out; have hnb94 := NB231_226.out; have hnc94 := NB226_231.out; have hcz95_0 : w91.cell? ⟨gb231, 0, none⟩ = some (.int .i64 0) := (qkc BK231.out 0).trans rfl; have hcz95_1 : w91.cell? ⟨gb231, 1, none⟩ = some (.int .i64 0) := (qkc BK231.out 1).trans rfl; have hcz95_2 : w91.cell? ⟨gb231, 2, none⟩ = some (.int .i64 0) := (qkc BK231.out 2).trans rfl; have hcz95_3 : w91.cell? ⟨gb231, 3, none⟩ = some (.int .i64 0) := (qkc BK231.out 3).trans rfl; have hfz95_0 := qkz BK231.out 0; have hfz95_1 := qkz BK231.out 1; have hfz95_2 := qkz BK231.out 2; have hfz95_3 := qkz BK231.out 3) | (go_at_call 14; (with_reducible refine (gleeref1_IntervalFault.calls kj79 x227000_2 x227001_2 x227002_2 x227003_2 t232 _ A86.out).mono ?_); rintro e w96 ⟨rfl, hb⟩; replace BK223 := Ad.mk (qkb (g := gb223) (o := .cells #[.int .i64 a0_0, .int .i64 a0_1] 30 (0, 0)) (by (with_reducible repeat (first | apply qkn | apply qkd | apply qka)); refine qkf ?_ NB223_231.out _; (with_reducible repeat (first | apply qkn | apply qkd | apply qka)); refine qkf ?_ NB223_231.out _; (with_reducible repeat (first | apply qkn | apply qkd | apply qka)); refine qkf ?_ NB223_231.out _; (with_reducible repeat (first | apply qkn | apply qkd | apply qka)); refine qkf ?_ NB223_231.out _; (with_reducible repeat (first | apply qkn | apply qkd | apply qka)); exact BK223.out) hb); replace BK224 := Ad.mk (qkb (g := gb224) (o := .cells #[.int .i64 0, .int .i64 0, .int .i64 0, .int .i64 0] 27 (0, 0)) (by (with_reducible repeat (first | apply qkn | apply qkd | apply qka)); refine qkf ?_ NB224_231.out _; (with_reducible repeat (first | apply qkn | apply qkd | apply qka)); refine qkf ?_ NB224_231.out _; (with_reducible repeat (first | apply qkn | apply qkd | apply qka)); refine qkf ?_ NB224_231.out _; (with_reducible repeat (first | apply qkn | apply qkd | apply qka)); refine qkf ?_ NB224_231.out _; (with_reducible repeat (first | apply qkn | apply qkd | apply qka)); exact BK224.out) hb); replace BK226 := Ad.mk (qkb (g := gb226) (o := .cells #[.int .i64 x227000_2, .int .i64 x227001_2, .int .i64 x227002_2, .int .i64 x227003_2] 119 (0, 0)) (by (with_reducible repeat (first | apply qkn | apply qkd | apply qka)); refine qkf ?_ NB226_231.out _; (with_reducible repeat (first | apply qkn | apply qkd | apply qka)); refine qkf ?_ NB226_231.out _; (with_reducible repeat (first | apply qkn | apply qkd | apply qka)); refine qkf ?_ NB226_231.out _; (with_reducible repeat (first | apply qkn | apply qkd | apply qka)); refine qkf ?_ NB226_231.out _; (with_reducible repeat (first | apply qkn | apply qkd | apply qka)); exact BK226.out) hb); replace BK231 := Ad.mk (qkb (g := gb231) (o := .cells #[.int .i64 x227000_2, .int .i64 x227001_2, .int .i64 x227002_2, .int .i64 x227003_2] 27 (0, 0)) (by (with_reducible repeat (first | apply qkn | apply qkd | apply qka)); refine qkp (cs := #[.int .i64 x227000_2, .int .i64 x227001_2, .int .i64 x227002_2, .int .i64 0]) ?_ 3 _ rfl; (with_reducible repeat (first | apply qkn | apply qkd | apply qka)); refine qkp (cs := #[.int .i64 x227000_2, .int .i64 x227001_2, .int .i64 0, .int .i64 0]) ?_ 2 _ rfl; (with_reducible repeat (first | apply qkn | apply qkd | apply qka)); refine qkp (cs := #[.int .i64 x227000_2, .int .i64 0, .int .i64 0, .int .i64 0]) ?_ 1 _ rfl; (with_reducible repeat (first | apply qkn | apply qkd | apply qka)); refine qkp (cs := #[.int .i64 0, .int .i64 0, .int .i64 0, .int .i64 0]) ?_ 0 _ rfl; (with_reducible repeat (first | apply qkn | apply qkd | apply qka)); exact BK231.out) hb); replace HB := Ad.mk (qbt (by repeat (first | (with_reducible first | exact HB.out | apply qba | apply qbn | apply qb1 | refine qbs ?_ GE223.out | refine qbs ?_ GE224.out | refine qbs ?_ GE226.out | refine qbs ?_ GE231.out) | exact HB.out)) hb); (try clear hb); have hcz97_0 : w96.cell? ⟨gb231, 0, none⟩ = some (.int .i64 x227000_2) := (qkc BK231.out 0).trans rfl; have hcz97_1 : w96.cell? ⟨gb231, 1, none⟩ = some (.int .i64 x227001_2) := (qkc BK231.out 1).trans rfl; have hcz97_2 : w96.cell? ⟨gb231, 2, none⟩ = some (.int .i64 x227002_2) := (qkc BK231.out 2).trans rfl; have hcz97_3 : w96.cell? ⟨gb231, 3, none⟩ = some (.int .i64 x227003_2) := (qkc BK231.out 3).trans rfl; have hfz97_0 := qkz BK231.out 0; have hfz97_1 := qkz BK231.out 1; have hfz97_2 := qkz BK231.out 2; have hfz97_3 := qkz BK231.out 3; have hnb98 := NB224_223.out; have hnc98 := NB223_224.out; have hcz99_0 : w96.cell? ⟨gb224, 0, none⟩ = some (.int .i64 0) := (qkc BK224.out 0).trans rfl; have hcz99_1 : w96.cell? ⟨gb224, 1, none⟩ = some (.int .i64 0) := (qkc BK224.out 1).trans rfl; have hcz99_2 : w96.cell? ⟨gb224, 2, none⟩ = some (.int .i64 0) := (qkc BK224.out 2).trans rfl; have hcz99_3 : w96.cell? ⟨gb224, 3, none⟩ = some (.int .i64 0) := (qkc BK224.out 3).trans rfl; have hfz99_0 := qkz BK224.out 0; have hfz99_1 := qkz BK224.out 1; have hfz99_2 := qkz BK224.out 2; have hfz99_3 := qkz BK224.out 3)); try go_wp2_with (first | ((with_reducible refine qgd (N := 9) rfl ?_); refine qbe ?hg (N := 9) ?hd (cs := #[.int .i64 0, .int .i64 0, .int .i64 0, .int .i64 0]) (t := 27) ?hr ?_; (case hd => rfl); (case hg => rfl); (case hr => first | (go_simp; done) | (go_simp; rfl)); intro gb231 hg w91 hbox hb; have BK231 := Ad.mk (hbox); have GW231 := Ad.mk ((by rw [hg]; exact (qbz (by repeat (first | (with_reducible first | exact HB.out | apply qba | apply qbn | apply qb1 | refine qbs ?_ GE223.out | refine qbs ?_ GE224.out | refine qbs ?_ GE226.out) | exact HB.out))) : w.heap.size ≤ gb231)); have GE231 := Ad.mk ((by rw [hg]; exact (qbz (by repeat (first | (with_reducible first | exact HB.out | apply qba | apply qbn | apply qb1 | refine qbs ?_ GE223.out | refine qbs ?_ GE224.out | refine qbs ?_ GE226.out) | exact HB.out))) : w.heap.size ≤ gb231)); have NB223_231 := Ad.mk ((by rw [hg]; exact Nat.ne_of_lt (qkl (g := gb223) (o := .cells #[.int .i64 a0_0, .int .i64 a0_1] 30 (0, 0)) (by (with_reducible repeat (first | apply qkn | apply qkd | apply qka)); exact BK223.out)) : gb223 ≠ gb231)); have NB231_223 := Ad.mk ((by rw [hg]; exact Nat.ne_of_gt (qkl (g := gb223) (o := .cells #[.int .i64 a0_0, .int .i64 a0_1] 30 (0, 0)) (by (with_reducible repeat (first | apply qkn | apply qkd | apply qka)); exact BK223.out)) : gb231 ≠ gb223)); have NB224_231 := Ad.mk ((by rw [hg]; exact Nat.ne_of_lt (qkl (g := gb224) (o := .cells #[.int .i64 0, .int .i64 0, .int .i64 0, .int .i64 0] 27 (0, 0)) (by (with_reducible repeat (first | apply qkn | apply qkd | apply qka)); exact BK224.out)) : gb224 ≠ gb231)); have NB231_224 := Ad.mk ((by rw [hg]; exact Nat.ne_of_gt (qkl (g := gb224) (o := .cells #[.int .i64 0, .int .i64 0, .int .i64 0, .int .i64 0] 27 (0, 0)) (by (with_reducible repeat (first | apply qkn | apply qkd | apply qka)); exact BK224.out)) : gb231 ≠ gb224)); have NB226_231 := Ad.mk ((by rw [hg]; exact Nat.ne_of_lt (qkl (g := gb226) (o := .cells #[.int .i64 x227000_2, .int .i64 x227001_2, .int .i64 x227002_2, .int .i64 x227003_2] 119 (0, 0)) (by (with_reducible repeat (first | apply qkn | apply qkd | apply qka)); exact BK226.out)) : gb226 ≠ gb231)); have NB231_226 := Ad.mk ((by rw [hg]; exact Nat.ne_of_gt (qkl (g := gb226) (o := .cells #[.int .i64 x227000_2, .int .i64 x227001_2, .int .i64 x227002_2, .int .i64 x227003_2] 119 (0, 0)) (by (with_reducible repeat (first | apply qkn | apply qkd | apply qka)); exact BK226.out)) : gb231 ≠ gb226)); replace BK223 := Ad.mk (qkb (g := gb223) (o := .cells #[.int .i64 a0_0, .int .i64 a0_1] 30 (0, 0)) (by (with_reducible repeat (first | apply qkn | apply qkd | apply qka)); exact BK223.out) hb); replace BK224 := Ad.mk (qkb (g := gb224) (o := .cells #[.int .i64 0, .int .i64 0, .int .i64 0, .int .i64 0] 27 (0, 0)) (by (with_reducible repeat (first | apply qkn | apply qkd | apply qka)); exact BK224.out) hb); replace BK226 := Ad.mk (qkb (g := gb226) (o := .cells #[.int .i64 x227000_2, .int .i64 x227001_2, .int .i64 x227002_2, .int .i64 x227003_2] 119 (0, 0)) (by (with_reducible repeat (first | apply qkn | apply qkd | apply qka)); exact BK226.out) hb); replace HB := Ad.mk (qbt (by repeat (first | (with_reducible first | exact HB.out | apply qba | apply qbn | apply qb1 | refine qbs ?_ GE223.out | refine qbs ?_ GE224.out | refine qbs ?_ GE226.out) | exact HB.out)) hb); clear hb hbox hg; have hnb92 := NB231_223.out; have hnc92 := NB223_231.out; have hnb93 := NB231_224.out; have hnc93 := NB224_231.out; have hnb94 := NB231_226.out; have hnc94 := NB226_231.out; have hcz95_0 : w91.cell? ⟨gb231, 0, none⟩ = some (.int .i64 0) := (qkc BK231.out 0).trans rfl; have hcz95_1 : w91.cell? ⟨gb231, 1, none⟩ = some (.int .i64 0) := (qkc BK231.out 1).trans rfl; have hcz95_2 : w91.cell? ⟨gb231, 2, none⟩ = some (.int .i64 0) := (qkc BK231.out 2).trans rfl; have hcz95_3 : w91.cell? ⟨gb231, 3, none⟩ = some (.int .i64 0) := (qkc BK231.out 3).trans rfl; have hfz95_0 := qkz BK231.out 0; have hfz95_1 := qkz BK231.out 1; have hfz95_2 := qkz BK231.out 2; have hfz95_3 := qkz BK231.out 3) | (go_at_call 14; (with_reducible refine (gleeref1_IntervalFault.calls kj79 x227000_2 x227001_2 x227002_2 x227003_2 t232 _ A86.out).mono ?_); rintro e w96 ⟨rfl, hb⟩; replace BK223 := Ad.mk (qkb (g := gb223) (o := .cells #[.int .i64 a0_0, .int .i64 a0_1] 30 (0, 0)) (by (with_reducible repeat (first | apply qkn | apply qkd | apply qka)); refine qkf ?_ NB223_231.out _; (with_reducible repeat (first | apply qkn | apply qkd | apply qka)); refine qkf ?_ NB223_231.out _; (with_reducible repeat (first | apply qkn | apply qkd | apply qka)); refine qkf ?_ NB223_231.out _; (with_reducible repeat (first | apply qkn | apply qkd | apply qka)); refine qkf ?_ NB223_231.out _; (with_reducible repeat (first | apply qkn | apply qkd | apply qka)); exact BK223.out) hb); replace BK224 := Ad.mk (qkb (g := gb224) (o := .cells #[.int .i64 0, .int .i64 0, .int .i64 0, .int .i64 0] 27 (0, 0)) (by (with_reducible repeat (first | apply qkn | apply qkd | apply qka)); refine qkf ?_ NB224_231.out _; (with_reducible repeat (first | apply qkn | apply qkd | apply qka)); refine qkf ?_ NB224_231.out _; (with_reducible repeat (first | apply qkn | apply qkd | apply qka)); refine qkf ?_ NB224_231.out _; (with_reducible repeat (first | apply qkn | apply qkd | apply qka)); refine qkf ?_ NB224_231.out _; (with_reducible repeat (first | apply qkn | apply qkd | apply qka)); exact BK224.out) hb); replace BK226 := Ad.mk (qkb (g := gb226) (o := .cells #[.int .i64 x227000_2, .int .i64 x227001_2, .int .i64 x227002_2, .int .i64 x227003_2] 119 (0, 0)) (by (with_reducible repeat (first | apply qkn | apply qkd | apply qka)); refine qkf ?_ NB226_231.out _; (with_reducible repeat (first | apply qkn | apply qkd | apply qka)); refine qkf ?_ NB226_231.out _; (with_reducible repeat (first | apply qkn | apply qkd | apply qka)); refine qkf ?_ NB226_231.out _; (with_reducible repeat (first | apply qkn | apply qkd | apply qka)); refine qkf ?_ NB226_231.out _; (with_reducible repeat (first | apply qkn | apply qkd | apply qka)); exact BK226.out) hb); replace BK231 := Ad.mk (qkb (g := gb231) (o := .cells #[.int .i64 x227000_2, .int .i64 x227001_2, .int .i64 x227002_2, .int .i64 x227003_2] 27 (0, 0)) (by (with_reducible repeat (first | apply qkn | apply qkd | apply qka)); refine qkp (cs := #[.int .i64 x227000_2, .int .i64 x227001_2, .int .i64 x227002_2, .int .i64 0]) ?_ 3 _ rfl; (with_reducible repeat (first | apply qkn | apply qkd | apply qka)); refine qkp (cs := #[.int .i64 x227000_2, .int .i64 x227001_2, .int .i64 0, .int .i64 0]) ?_ 2 _ rfl; (with_reducible repeat (first | apply qkn | apply qkd | apply qka)); refine qkp (cs := #[.int .i64 x227000_2, .int .i64 0, .int .i64 0, .int .i64 0]) ?_ 1 _ rfl; (with_reducible repeat (first | apply qkn | apply qkd | apply qka)); refine qkp (cs := #[.int .i64 0, .int .i64 0, .int .i64 0, .int .i64 0]) ?_ 0 _ rfl; (with_reducible repeat (first | apply qkn | apply qkd | apply qka)); exact BK231.out) hb); replace HB := Ad.mk (qbt (by repeat (first | (with_reducible first | exact HB.out | apply qba | apply qbn | apply qb1 | refine qbs ?_ GE223.out | refine qbs ?_ GE224.out | refine qbs ?_ GE226.out | refine qbs ?_ GE231.out) | exact HB.out)) hb); (try clear hb); have hcz97_0 : w96.cell? ⟨gb231, 0, none⟩ = some (.int .i64 x227000_2) := (qkc BK231.out 0).trans rfl; have hcz97_1 : w96.cell? ⟨gb231, 1, none⟩ = some (.int .i64 x227001_2) := (qkc BK231.out 1).trans rfl; have hcz97_2 : w96.cell? ⟨gb231, 2, none⟩ = some (.int .i64 x227002_2) := (qkc BK231.out 2).trans rfl; have hcz97_3 : w96.cell? ⟨gb231, 3, none⟩ = some (.int .i64 x227003_2) := (qkc BK231.out 3).trans rfl; have hfz97_0 := qkz BK231.out 0; have hfz97_1 := qkz BK231.out 1; have hfz97_2 := qkz BK231.out 2; have hfz97_3 := qkz BK231.out 3; have hnb98 := NB224_223.out; have hnc98 := NB223_224.out; have hcz99_0 : w96.cell? ⟨gb224, 0, none⟩ = some (.int .i64 0) := (qkc BK224.out 0).trans rfl; have hcz99_1 : w96.cell? ⟨gb224, 1, none⟩ = some (.int .i64 0) := (qkc BK224.out 1).trans rfl; have hcz99_2 : w96.cell? ⟨gb224, 2, none⟩ = some (.int .i64 0) := (qkc BK224.out 2).trans rfl; have hcz99_3 : w96.cell? ⟨gb224, 3, none⟩ = some (.int .i64 0) := (qkc BK224.out 3).trans rfl; have hfz99_0 := qkz BK224.out 0; have hfz99_1 := qkz BK224.out 1; have hfz99_2 := qkz BK224.out 2; have hfz99_3 := qkz BK224.out 3)))
            refine bodyPost_ret (results_ct rfl _ _ gb224 27 #[.int .i64 x227000_2, .int .i64 x227001_2, .int .i64 x227002_2, .int .i64 x227003_2] (0, 0) _ rfl (by (with_reducible repeat (first | apply qkn | apply qkd | apply qka)); refine qkp (cs := #[.int .i64 x227000_2, .int .i64 x227001_2, .int .i64 x227002_2, .int .i64 0]) ?_ 3 _ rfl; (with_reducible repeat (first | apply qkn | apply qkd | apply qka)); refine qkp (cs := #[.int .i64 x227000_2, .int .i64 x227001_2, .int .i64 0, .int .i64 0]) ?_ 2 _ rfl; (with_reducible repeat (first | apply qkn | apply qkd | apply qka)); refine qkp (cs := #[.int .i64 x227000_2, .int .i64 0, .int .i64 0, .int .i64 0]) ?_ 1 _ rfl; (with_reducible repeat (first | apply qkn | apply qkd | apply qka)); refine qkp (cs := #[.int .i64 0, .int .i64 0, .int .i64 0, .int .i64 0]) ?_ 0 _ rfl; (with_reducible repeat (first | apply qkn | apply qkd | apply qka)); exact BK224.out) Tryd.underlying27 rfl (by kernel_rfl)) rfl ?_
            exact ⟨by first | rfl | (simp [errW_none, errW_some] <;> rfl) | (simp [*, errW_none, errW_some] <;> rfl), by repeat (first | (with_reducible first | exact HB.out | apply qba | apply qbn | apply qb1 | refine qbs ?_ GE223.out | refine qbs ?_ GE224.out | refine qbs ?_ GE226.out | refine qbs ?_ GE231.out) | exact HB.out)⟩
           ·
            rw [if_neg c87] at H
            have c87b0 : (t232 == 0) = false := beq_eq_false_iff_ne.mpr c87
            have c87b1 : (t232 != 0) = true := bne_iff_ne.mpr c87
            simp only [Option.some.injEq, Prod.mk.injEq] at H
            obtain ⟨rfl, rfl, rfl, rfl, rfl⟩ := H
            have hnb100 := NB226_223.out
            have hnc100 := NB223_226.out
            have hnb101 := NB226_224.out
            have hnc101 := NB224_226.out
            have hcz102_0 : wc.cell? ⟨gb226, 0, none⟩ = some (.int .i64 x227000_2) := (qkc BK226.out 0).trans rfl
            have hcz102_1 : wc.cell? ⟨gb226, 1, none⟩ = some (.int .i64 x227001_2) := (qkc BK226.out 1).trans rfl
            have hcz102_2 : wc.cell? ⟨gb226, 2, none⟩ = some (.int .i64 x227002_2) := (qkc BK226.out 2).trans rfl
            have hcz102_3 : wc.cell? ⟨gb226, 3, none⟩ = some (.int .i64 x227003_2) := (qkc BK226.out 3).trans rfl
            have hfz102_0 := qkz BK226.out 0
            have hfz102_1 := qkz BK226.out 1
            have hfz102_2 := qkz BK226.out 2
            have hfz102_3 := qkz BK226.out 3
            go_wp2_with (first | ((with_reducible refine qgd (N := 9) rfl ?_); refine qbe ?hg (N := 9) ?hd (cs := #[.int .i64 0, .int .i64 0, .int .i64 0, .int .i64 0]) (t := 27) ?hr ?_; (case hd => rfl); (case hg => rfl); (case hr => first | (go_simp; done) | (go_simp; rfl)); intro gb231 hg w103 hbox hb; have BK231 := Ad.mk (hbox); have GW231 := Ad.mk ((by rw [hg]; exact (qbz (by repeat (first | (with_reducible first | exact HB.out | apply qba | apply qbn | apply qb1 | refine qbs ?_ GE223.out | refine qbs ?_ GE224.out | refine qbs ?_ GE226.out) | exact HB.out))) : w.heap.size ≤ gb231)); have GE231 := Ad.mk ((by rw [hg]; exact (qbz (by repeat (first | (with_reducible first | exact HB.out | apply qba | apply qbn | apply qb1 | refine qbs ?_ GE223.out | refine qbs ?_ GE224.out | refine qbs ?_ GE226.out) | exact HB.out))) : w.heap.size ≤ gb231)); have NB223_231 := Ad.mk ((by rw [hg]; exact Nat.ne_of_lt (qkl (g := gb223) (o := .cells #[.int .i64 a0_0, .int .i64 a0_1] 30 (0, 0)) (by (with_reducible repeat (first | apply qkn | apply qkd | apply qka)); exact BK223.out)) : gb223 ≠ gb231)); have NB231_223 := Ad.mk ((by rw [hg]; exact Nat.ne_of_gt (qkl (g := gb223) (o := .cells #[.int .i64 a0_0, .int .i64 a0_1] 30 (0, 0)) (by (with_reducible repeat (first | apply qkn | apply qkd | apply qka)); exact BK223.out)) : gb231 ≠ gb223)); have NB224_231 := Ad.mk ((by rw [hg]; exact Nat.ne_of_lt (qkl (g := gb224) (o := .cells #[.int .i64 0, .int .i64 0, .int .i64 0, .int .i64 0] 27 (0, 0)) (by (with_reducible repeat (first | apply qkn | apply qkd | apply qka)); exact BK224.out)) : gb224 ≠ gb231)); have NB231_224 := Ad.mk ((by rw [hg]; exact Nat.ne_of_gt (qkl (g := gb224) (o := .cells #[.int .i64 0, .int .i64 0, .int .i64 0, .int .i64 0] 27 (0, 0)) (by (with_reducible repeat (first | apply qkn | apply qkd | apply qka)); exact BK224.out)) : gb231 ≠ gb224)); have NB226_231 := Ad.mk ((by rw [hg]; exact Nat.ne_of_lt (qkl (g := gb226) (o := .cells #[.int .i64 x227000_2, .int .i64 x227001_2, .int .i64 x227002_2, .int .i64 x227003_2] 119 (0, 0)) (by (with_reducible repeat (first | apply qkn | apply qkd | apply qka)); exact BK226.out)) : gb226 ≠ gb231)); have NB231_226 := Ad.mk ((by rw [hg]; exact Nat.ne_of_gt (qkl (g := gb226) (o := .cells #[.int .i64 x227000_2, .int .i64 x227001_2, .int .i64 x227002_2, .int .i64 x227003_2] 119 (0, 0)) (by (with_reducible repeat (first | apply qkn | apply qkd | apply qka)); exact BK226.out)) : gb231 ≠ gb226)); replace BK223 := Ad.mk (qkb (g := gb223) (o := .cells #[.int .i64 a0_0, .int .i64 a0_1] 30 (0, 0)) (by (with_reducible repeat (first | apply qkn | apply qkd | apply qka)); exact BK223.out) hb); replace BK224 := Ad.mk (qkb (g := gb224) (o := .cells #[.int .i64 0, .int .i64 0, .int .i64 0, .int .i64 0] 27 (0, 0)) (by (with_reducible repeat (first | apply qkn | apply qkd | apply qka)); exact BK224.out) hb); replace BK226 := Ad.mk (qkb (g := gb226) (o := .cells #[.int .i64 x227000_2, .int .i64 x227001_2, .int .i64 x227002_2, .int .i64 x227003_2] 119 (0, 0)) (by (with_reducible repeat (first | apply qkn | apply qkd | apply qka)); exact BK226.out) hb); replace HB := Ad.mk (qbt (by repeat (first | (with_reducible first | exact HB.out | apply qba | apply qbn | apply qb1 | refine qbs ?_ GE223.out | refine qbs ?_ GE224.out | refine qbs ?_ GE226.out) | exact HB.out)) hb); clear hb hbox hg; have hnb104 := NB231_223.out; have hnc104 := NB223_231.out; have hnb105 := NB231_224.out; have hnc105 := NB224_231.out; have hnb106 := NB231_226.out; have hnc106 := NB226_231.out; have hcz107_0 : w103.cell? ⟨gb231, 0, none⟩ = some (.int .i64 0) := (qkc BK231.out 0).trans rfl; have hcz107_1 : w103.cell? ⟨gb231, 1, none⟩ = some (.int .i64 0) := (qkc BK231.out 1).trans rfl; have hcz107_2 : w103.cell? ⟨gb231, 2, none⟩ = some (.int .i64 0) := (qkc BK231.out 2).trans rfl; have hcz107_3 : w103.cell? ⟨gb231, 3, none⟩ = some (.int .i64 0) := (qkc BK231.out 3).trans rfl; have hfz107_0 := qkz BK231.out 0; have hfz107_1 := qkz BK231.out 1; have hfz107_2 := qkz BK231.out 2; have hfz107_3 := qkz BK231.out 3) | (go_at_call 14; (with_reducible refine (gleeref1_IntervalFault.calls kj79 x227000_2 x227001_2 x227002_2 x227003_2 t232 _ A86.out).mono ?_); rintro e w108 ⟨rfl, hb⟩; replace BK223 := Ad.mk (qkb (g := gb223) (o := .cells #[.int .i64 a0_0, .int .i64 a0_1] 30 (0, 0)) (by (with_reducible repeat (first | apply qkn | apply qkd | apply qka)); refine qkf ?_ NB223_231.out _; (with_reducible repeat (first | apply qkn | apply qkd | apply qka)); refine qkf ?_ NB223_231.out _; (with_reducible repeat (first | apply qkn | apply qkd | apply qka)); refine qkf ?_ NB223_231.out _; (with_reducible repeat (first | apply qkn | apply qkd | apply qka)); refine qkf ?_ NB223_231.out _; (with_reducible repeat (first | apply qkn | apply qkd | apply qka)); exact BK223.out) hb); replace BK224 := Ad.mk (qkb (g := gb224) (o := .cells #[.int .i64 0, .int .i64 0, .int .i64 0, .int .i64 0] 27 (0, 0)) (by (with_reducible repeat (first | apply qkn | apply qkd | apply qka)); refine qkf ?_ NB224_231.out _; (with_reducible repeat (first | apply qkn | apply qkd | apply qka)); refine qkf ?_ NB224_231.out _; (with_reducible repeat (first | apply qkn | apply qkd | apply qka)); refine qkf ?_ NB224_231.out _; (with_reducible repeat (first | apply qkn | apply qkd | apply qka)); refine qkf ?_ NB224_231.out _; (with_reducible repeat (first | apply qkn | apply qkd | apply qka)); exact BK224.out) hb); replace BK226 := Ad.mk (qkb (g := gb226) (o := .cells #[.int .i64 x227000_2, .int .i64 x227001_2, .int .i64 x227002_2, .int .i64 x227003_2] 119 (0, 0)) (by (with_reducible repeat (first | apply qkn | apply qkd | apply qka)); refine qkf ?_ NB226_231.out _; (with_reducible repeat (first | apply qkn | apply qkd | apply qka)); refine qkf ?_ NB226_231.out _; (with_reducible repeat (first | apply qkn | apply qkd | apply qka)); refine qkf ?_ NB226_231.out _; (with_reducible repeat (first | apply qkn | apply qkd | apply qka)); refine qkf ?_ NB226_231.out _; (with_reducible repeat (first | apply qkn | apply qkd | apply qka)); exact BK226.out) hb); replace BK231 := Ad.mk (qkb (g := gb231) (o := .cells #[.int .i64 x227000_2, .int .i64 x227001_2, .int .i64 x227002_2, .int .i64 x227003_2] 27 (0, 0)) (by (with_reducible repeat (first | apply qkn | apply qkd | apply qka)); refine qkp (cs := #[.int .i64 x227000_2, .int .i64 x227001_2, .int .i64 x227002_2, .int .i64 0]) ?_ 3 _ rfl; (with_reducible repeat (first | apply qkn | apply qkd | apply qka)); refine qkp (cs := #[.int .i64 x227000_2, .int .i64 x227001_2, .int .i64 0, .int .i64 0]) ?_ 2 _ rfl; (with_reducible repeat (first | apply qkn | apply qkd | apply qka)); refine qkp (cs := #[.int .i64 x227000_2, .int .i64 0, .int .i64 0, .int .i64 0]) ?_ 1 _ rfl; (with_reducible repeat (first | apply qkn | apply qkd | apply qka)); refine qkp (cs := #[.int .i64 0, .int .i64 0, .int .i64 0, .int .i64 0]) ?_ 0 _ rfl; (with_reducible repeat (first | apply qkn | apply qkd | apply qka)); exact BK231.out) hb); replace HB := Ad.mk (qbt (by repeat (first | (with_reducible first | exact HB.out | apply qba | apply qbn | apply qb1 | refine qbs ?_ GE223.out | refine qbs ?_ GE224.out | refine qbs ?_ GE226.out | refine qbs ?_ GE231.out) | exact HB.out)) hb); (try clear hb); have hnb109 := NB224_223.out; have hnc109 := NB223_224.out; have hcz110_0 : w108.cell? ⟨gb224, 0, none⟩ = some (.int .i64 0) := (qkc BK224.out 0).trans rfl; have hcz110_1 : w108.cell? ⟨gb224, 1, none⟩ = some (.int .i64 0) := (qkc BK224.out 1).trans rfl; have hcz110_2 : w108.cell? ⟨gb224, 2, none⟩ = some (.int .i64 0) := (qkc BK224.out 2).trans rfl; have hcz110_3 : w108.cell? ⟨gb224, 3, none⟩ = some (.int .i64 0) := (qkc BK224.out 3).trans rfl; have hfz110_0 := qkz BK224.out 0; have hfz110_1 := qkz BK224.out 1; have hfz110_2 := qkz BK224.out 2; have hfz110_3 := qkz BK224.out 3))
            repeat (go_quiet (first | ((with_reducible refine qgd (N := 9) rfl ?_); refine qbe ?hg (N := 9) ?hd (cs := #[.int .i64 0, .int .i64 0, .int .i64 0, .int .i64 0]) (t := 27) ?hr ?_; (case hd => rfl); (case hg => rfl); (case hr => first | (go_simp; done) | (go_simp; rfl)); intro gb231 hg w103 hbox hb; have BK231 := Ad.mk (hbox); have GW231 := Ad.mk ((by rw [hg]; exact (qbz (by repeat (first | (with_reducible first | exact HB.out | apply qba | apply qbn | apply qb1 | refine qbs ?_ GE223.out | refine qbs ?_ GE224.out | refine qbs ?_ GE226.out) | exact HB.out))) : w.heap.size ≤ gb231)); have GE231 := Ad.mk ((by rw [hg]; exact (qbz (by repeat (first | (with_reducible first | exact HB.out | apply qba | apply qbn | apply qb1 | refine qbs ?_ GE223.out | refine qbs ?_ GE224.out | refine qbs ?_ GE226.out) | exact HB.out))) : w.heap.size ≤ gb231)); have NB223_231 := Ad.mk ((by rw [hg]; exact Nat.ne_of_lt (qkl (g := gb223) (o := .cells #[.int .i64 a0_0, .int .i64 a0_1] 30 (0, 0)) (by (with_reducible repeat (first | apply qkn | apply qkd | apply qka)); exact BK223.out)) : gb223 ≠ gb231)); have NB231_223 := Ad.mk ((by rw [hg]; exact Nat.ne_of_gt (qkl (g := gb223) (o := .cells #[.int .i64 a0_0, .int .i64 a0_1] 30 (0, 0)) (by (with_reducible repeat (first | apply qkn | apply qkd | apply qka)); exact BK223.out)) : gb231 ≠ gb223)); have NB224_231 := Ad.mk ((by rw [hg]; exact Nat.ne_of_lt (qkl (g := gb224) (o := .cells #[.int .i64 0, .int .i64 0, .int .i64 0, .int .i64 0] 27 (0, 0)) (by (with_reducible repeat (first | apply qkn | apply qkd | apply qka)); exact BK224.out)) : gb224 ≠ gb231)); have NB231_224 := Ad.mk ((by rw [hg]; exact Nat.ne_of_gt (qkl (g := gb224) (o := .cells #[.int .i64 0, .int .i64 0, .int .i64 0, .int .i64 0] 27 (0, 0)) (by (with_reducible repeat (first | apply qkn | apply qkd | apply qka)); exact BK224.out)) : gb231 ≠ gb224)); have NB226_231 := Ad.mk ((by rw [hg]; exact Nat.ne_of_lt (qkl (g := gb226) (o := .cells #[.int .i64 x227000_2, .int .i64 x227001_2, .int .i64 x227002_2, .int .i64 x227003_2] 119 (0, 0)) (by (with_reducible repeat (first | apply qkn | apply qkd | apply qka)); exact BK226.out)) : gb226 ≠ gb231)); have NB231_226 := Ad.mk ((by rw [hg]; exact Nat.ne_of_gt (qkl (g := gb226) (o := .cells #[.int .i64 x227000_2, .int .i64 x227001_2, .int .i64 x227002_2, .int .i64 x227003_2] 119 (0, 0)) (by (with_reducible repeat (first | apply qkn | apply qkd | apply qka)); exact BK226.out)) : gb231 ≠ gb226)); replace BK223 := Ad.mk (qkb (g := gb223) (o := .cells #[.int .i64 a0_0, .int .i64 a0_1] 30 (0, 0)) (by (with_reducible repeat (first | apply qkn | apply qkd | apply qka)); exact BK223.out) hb); replace BK224 := Ad.mk (qkb (g := gb224) (o := .cells #[.int .i64 0, .int .i64 0, .int .i64 0, .int .i64 0] 27 (0, 0)) (by (with_reducible repeat (first | apply qkn | apply qkd | apply qka)); exact BK224.out) hb); replace BK226 := Ad.mk (qkb (g := gb226) (o := .cells #[.int .i64 x227000_2, .int .i64 x227001_2, .int .i64 x227002_2, .int .i64 x227003_2] 119 (0, 0)) (by (with_reducible repeat (first | apply qkn | apply qkd | apply qka)); exact BK226.out) hb); replace HB := Ad.mk (qbt (by repeat (first | (with_reducible first | exact HB.out | apply qba | apply qbn | apply qb1 | refine qbs ?_ GE223.out | refine qbs ?_ GE224.out | refine qbs ?_ GE226.out) | exact HB.out)) hb); clear hb hbox hg; have hnb104 := NB231_223.out; have hnc104 := NB223_231.out; have hnb105 := NB231_224.out; have hnc105 := NB224_231.out; have hnb106 := NB231_226.out; have hnc106 := NB226_231.out; have hcz107_0 : w103.cell? ⟨gb231, 0, none⟩ = some (.int .i64 0) := (qkc BK231.out 0).trans rfl; have hcz107_1 : w103.cell? ⟨gb231, 1, none⟩ = some (.int .i64 0) := (qkc BK231.out 1).trans rfl; have hcz107_2 : w103.cell? ⟨gb231, 2, none⟩ = some (.int .i64 0) := (qkc BK231.out 2).trans rfl; have hcz107_3 : w103.cell? ⟨gb231, 3, none⟩ = some (.int .i64 0) := (qkc BK231.out 3).trans rfl; have hfz107_0 := qkz BK231.out 0; have hfz107_1 := qkz BK231.out 1; have hfz107_2 := qkz BK231.out 2; have hfz107_3 := qkz BK231.out 3) | (go_at_call 14; (with_reducible refine (gleeref1_IntervalFault.calls kj79 x227000_2 x227001_2 x227002_2 x227003_2 t232 _ A86.out).mono ?_); rintro e w108 ⟨rfl, hb⟩; replace BK223 := Ad.mk (qkb (g := gb223) (o := .cells #[.int .i64 a0_0, .int .i64 a0_1] 30 (0, 0)) (by (with_reducible repeat (first | apply qkn | apply qkd | apply qka)); refine qkf ?_ NB223_231.out _; (with_reducible repeat (first | apply qkn | apply qkd | apply qka)); refine qkf ?_ NB223_231.out _; (with_reducible repeat (first | apply qkn | apply qkd | apply qka)); refine qkf ?_ NB223_231.out _; (with_reducible repeat (first | apply qkn | apply qkd | apply qka)); refine qkf ?_ NB223_231.out _; (with_reducible repeat (first | apply qkn | apply qkd | apply qka)); exact BK223.out) hb); replace BK224 := Ad.mk (qkb (g := gb224) (o := .cells #[.int .i64 0, .int .i64 0, .int .i64 0, .int .i64 0] 27 (0, 0)) (by (with_reducible repeat (first | apply qkn | apply qkd | apply qka)); refine qkf ?_ NB224_231.out _; (with_reducible repeat (first | apply qkn | apply qkd | apply qka)); refine qkf ?_ NB224_231.out _; (with_reducible repeat (first | apply qkn | apply qkd | apply qka)); refine qkf ?_ NB224_231.out _; (with_reducible repeat (first | apply qkn | apply qkd | apply qka)); refine qkf ?_ NB224_231.out _; (with_reducible repeat (first | apply qkn | apply qkd | apply qka)); exact BK224.out) hb); replace BK226 := Ad.mk (qkb (g := gb226) (o := .cells #[.int .i64 x227000_2, .int .i64 x227001_2, .int .i64 x227002_2, .int .i64 x227003_2] 119 (0, 0)) (by (with_reducible repeat (first | apply qkn | apply qkd | apply qka)); refine qkf ?_ NB226_231.out _; (with_reducible repeat (first | apply qkn | apply qkd | apply qka)); refine qkf ?_ NB226_231.out _; (with_reducible repeat (first | apply qkn | apply qkd | apply qka)); refine qkf ?_ NB226_231.out _; (with_reducible repeat (first | apply qkn | apply qkd | apply qka)); refine qkf ?_ NB226_231.out _; (with_reducible repeat (first | apply qkn | apply qkd | apply qka)); exact BK226.out) hb); replace BK231 := Ad.mk (qkb (g := gb231) (o := .cells #[.int .i64 x227000_2, .int .i64 x227001_2, .int .i64 x227002_2, .int .i64 x227003_2] 27 (0, 0)) (by (with_reducible repeat (first | apply qkn | apply qkd | apply qka)); refine qkp (cs := #[.int .i64 x227000_2, .int .i64 x227001_2, .int .i64 x227002_2, .int .i64 0]) ?_ 3 _ rfl; (with_reducible repeat (first | apply qkn | apply qkd | apply qka)); refine qkp (cs := #[.int .i64 x227000_2, .int .i64 x227001_2, .int .i64 0, .int .i64 0]) ?_ 2 _ rfl; (with_reducible repeat (first | apply qkn | apply qkd | apply qka)); refine qkp (cs := #[.int .i64 x227000_2, .int .i64 0, .int .i64 0, .int .i64 0]) ?_ 1 _ rfl; (with_reducible repeat (first | apply qkn | apply qkd | apply qka)); refine qkp (cs := #[.int .i64 0, .int .i64 0, .int .i64 0, .int .i64 0]) ?_ 0 _ rfl; (with_reducible repeat (first | apply qkn | apply qkd | apply qka)); exact BK231.out) hb); replace HB := Ad.mk (qbt (by repeat (first | (with_reducible first | exact HB.out | apply qba | apply qbn | apply qb1 | refine qbs ?_ GE223.out | refine qbs ?_ GE224.out | refine qbs ?_ GE226.out | refine qbs ?_ GE231.out) | exact HB.out)) hb); (try clear hb); have hnb109 := NB224_223.out; have hnc109 := NB223_224.out; have hcz110_0 : w108.cell? ⟨gb224, 0, none⟩ = some (.int .i64 0) := (qkc BK224.out 0).trans rfl; have hcz110_1 : w108.cell? ⟨gb224, 1, none⟩ = some (.int .i64 0) := (qkc BK224.out 1).trans rfl; have hcz110_2 : w108.cell? ⟨gb224, 2, none⟩ = some (.int .i64 0) := (qkc BK224.out 2).trans rfl; have hcz110_3 : w108.cell? ⟨gb224, 3, none⟩ = some (.int .i64 0) := (qkc BK224.out 3).trans rfl; have hfz110_0 := qkz BK224.out 0; have hfz110_1 := qkz BK224.out 1; have hfz110_2 := qkz BK224.out 2; have hfz110_3 := qkz BK224.out 3)); try go_wp2_with (first | ((with_reducible refine qgd (N := 9) rfl ?_); refine qbe ?hg (N := 9) ?hd (cs := #[.int .i64 0, .int .i64 0, .int .i64 0, .int .i64 0]) (t := 27) ?hr ?_; (case hd => rfl); (case hg => rfl); (case hr => first | (go_simp; done) | (go_simp; rfl)); intro gb231 hg w103 hbox hb; have BK231 := Ad.mk (hbox); have GW231 := Ad.mk ((by rw [hg]; exact (qbz (by repeat (first | (with_reducible first | exact HB.out | apply qba | apply qbn | apply qb1 | refine qbs ?_ GE223.out | refine qbs ?_ GE224.out | refine qbs ?_ GE226.out) | exact HB.out))) : w.heap.size ≤ gb231)); have GE231 := Ad.mk ((by rw [hg]; exact (qbz (by repeat (first | (with_reducible first | exact HB.out | apply qba | apply qbn | apply qb1 | refine qbs ?_ GE223.out | refine qbs ?_ GE224.out | refine qbs ?_ GE226.out) | exact HB.out))) : w.heap.size ≤ gb231)); have NB223_231 := Ad.mk ((by rw [hg]; exact Nat.ne_of_lt (qkl (g := gb223) (o := .cells #[.int .i64 a0_0, .int .i64 a0_1] 30 (0, 0)) (by (with_reducible repeat (first | apply qkn | apply qkd | apply qka)); exact BK223.out)) : gb223 ≠ gb231)); have NB231_223 := Ad.mk ((by rw [hg]; exact Nat.ne_of_gt (qkl (g := gb223) (o := .cells #[.int .i64 a0_0, .int .i64 a0_1] 30 (0, 0)) (by (with_reducible repeat (first | apply qkn | apply qkd | apply qka)); exact BK223.out)) : gb231 ≠ gb223)); have NB224_231 := Ad.mk ((by rw [hg]; exact Nat.ne_of_lt (qkl (g := gb224) (o := .cells #[.int .i64 0, .int .i64 0, .int .i64 0, .int .i64 0] 27 (0, 0)) (by (with_reducible repeat (first | apply qkn | apply qkd | apply qka)); exact BK224.out)) : gb224 ≠ gb231)); have NB231_224 := Ad.mk ((by rw [hg]; exact Nat.ne_of_gt (qkl (g := gb224) (o := .cells #[.int .i64 0, .int .i64 0, .int .i64 0, .int .i64 0] 27 (0, 0)) (by (with_reducible repeat (first | apply qkn | apply qkd | apply qka)); exact BK224.out)) : gb231 ≠ gb224)); have NB226_231 := Ad.mk ((by rw [hg]; exact Nat.ne_of_lt (qkl (g := gb226) (o := .cells #[.int .i64 x227000_2, .int .i64 x227001_2, .int .i64 x227002_2, .int .i64 x227003_2] 119 (0, 0)) (by (with_reducible repeat (first | apply qkn | apply qkd | apply qka)); exact BK226.out)) : gb226 ≠ gb231)); have NB231_226 := Ad.mk ((by rw [hg]; exact Nat.ne_of_gt (qkl (g := gb226) (o := .cells #[.int .i64 x227000_2, .int .i64 x227001_2, .int .i64 x227002_2, .int .i64 x227003_2] 119 (0, 0)) (by (with_reducible repeat (first | apply qkn | apply qkd | apply qka)); exact BK226.out)) : gb231 ≠ gb226)); replace BK223 := Ad.mk (qkb (g := gb223) (o := .cells #[.int .i64 a0_0, .int .i64 a0_1] 30 (0, 0)) (by (with_reducible repeat (first | apply qkn | apply qkd | apply qka)); exact BK223.out) hb); replace BK224 := Ad.mk (qkb (g := gb224) (o := .cells #[.int .i64 0, .int .i64 0, .int .i64 0, .int .i64 0] 27 (0, 0)) (by (with_reducible repeat (first | apply qkn | apply qkd | apply qka)); exact BK224.out) hb); replace BK226 := Ad.mk (qkb (g := gb226) (o := .cells #[.int .i64 x227000_2, .int .i64 x227001_2, .int .i64 x227002_2, .int .i64 x227003_2] 119 (0, 0)) (by (with_reducible repeat (first | apply qkn | apply qkd | apply qka)); exact BK226.out) hb); replace HB := Ad.mk (qbt (by repeat (first | (with_reducible first | exact HB.out | apply qba | apply qbn | apply qb1 | refine qbs ?_ GE223.out | refine qbs ?_ GE224.out | refine qbs ?_ GE226.out) | exact HB.out)) hb); clear hb hbox hg; have hnb104 := NB231_223.out; have hnc104 := NB223_231.out; have hnb105 := NB231_224.out; have hnc105 := NB224_231.out; have hnb106 := NB231_226.out; have hnc106 := NB226_231.out; have hcz107_0 : w103.cell? ⟨gb231, 0, none⟩ = some (.int .i64 0) := (qkc BK231.out 0).trans rfl; have hcz107_1 : w103.cell? ⟨gb231, 1, none⟩ = some (.int .i64 0) := (qkc BK231.out 1).trans rfl; have hcz107_2 : w103.cell? ⟨gb231, 2, none⟩ = some (.int .i64 0) := (qkc BK231.out 2).trans rfl; have hcz107_3 : w103.cell? ⟨gb231, 3, none⟩ = some (.int .i64 0) := (qkc BK231.out 3).trans rfl; have hfz107_0 := qkz BK231.out 0; have hfz107_1 := qkz BK231.out 1; have hfz107_2 := qkz BK231.out 2; have hfz107_3 := qkz BK231.out 3) | (go_at_call 14; (with_reducible refine (gleeref1_IntervalFault.calls kj79 x227000_2 x227001_2 x227002_2 x227003_2 t232 _ A86.out).mono ?_); rintro e w108 ⟨rfl, hb⟩; replace BK223 := Ad.mk (qkb (g := gb223) (o := .cells #[.int .i64 a0_0, .int .i64 a0_1] 30 (0, 0)) (by (with_reducible repeat (first | apply qkn | apply qkd | apply qka)); refine qkf ?_ NB223_231.out _; (with_reducible repeat (first | apply qkn | apply qkd | apply qka)); refine qkf ?_ NB223_231.out _; (with_reducible repeat (first | apply qkn | apply qkd | apply qka)); refine qkf ?_ NB223_231.out _; (with_reducible repeat (first | apply qkn | apply qkd | apply qka)); refine qkf ?_ NB223_231.out _; (with_reducible repeat (first | apply qkn | apply qkd | apply qka)); exact BK223.out) hb); replace BK224 := Ad.mk (qkb (g := gb224) (o := .cells #[.int .i64 0, .int .i64 0, .int .i64 0, .int .i64 0] 27 (0, 0)) (by (with_reducible repeat (first | apply qkn | apply qkd | apply qka)); refine qkf ?_ NB224_231.out _; (with_reducible repeat (first | apply qkn | apply qkd | apply qka)); refine qkf ?_ NB224_231.out _; (with_reducible repeat (first | apply qkn | apply qkd | apply qka)); refine qkf ?_ NB224_231.out _; (with_reducible repeat (first | apply qkn | apply qkd | apply qka)); refine qkf ?_ NB224_231.out _; (with_reducible repeat (first | apply qkn | apply qkd | apply qka)); exact BK224.out) hb); replace BK226 := Ad.mk (qkb (g := gb226) (o := .cells #[.int .i64 x227000_2, .int .i64 x227001_2, .int .i64 x227002_2, .int .i64 x227003_2] 119 (0, 0)) (by (with_reducible repeat (first | apply qkn | apply qkd | apply qka)); refine qkf ?_ NB226_231.out _; (with_reducible repeat (first | apply qkn | apply qkd | apply qka)); refine qkf ?_ NB226_231.out _; (with_reducible repeat (first | apply qkn | apply qkd | apply qka)); refine qkf ?_ NB226_231.out _; (with_reducible repeat (first | apply qkn | apply qkd | apply qka)); refine qkf ?_ NB226_231.out _; (with_reducible repeat (first | apply qkn | apply qkd | apply qka)); exact BK226.out) hb); replace BK231 := Ad.mk (qkb (g := gb231) (o := .cells #[.int .i64 x227000_2, .int .i64 x227001_2, .int .i64 x227002_2, .int .i64 x227003_2] 27 (0, 0)) (by (with_reducible repeat (first | apply qkn | apply qkd | apply qka)); refine qkp (cs := #[.int .i64 x227000_2, .int .i64 x227001_2, .int .i64 x227002_2, .int .i64 0]) ?_ 3 _ rfl; (with_reducible repeat (first | apply qkn | apply qkd | apply qka)); refine qkp (cs := #[.int .i64 x227000_2, .int .i64 x227001_2, .int .i64 0, .int .i64 0]) ?_ 2 _ rfl; (with_reducible repeat (first | apply qkn | apply qkd | apply qka)); refine qkp (cs := #[.int .i64 x227000_2, .int .i64 0, .int .i64 0, .int .i64 0]) ?_ 1 _ rfl; (with_reducible repeat (first | apply qkn | apply qkd | apply qka)); refine qkp (cs := #[.int .i64 0, .int .i64 0, .int .i64 0, .int .i64 0]) ?_ 0 _ rfl; (with_reducible repeat (first | apply qkn | apply qkd | apply qka)); exact BK231.out) hb); replace HB := Ad.mk (qbt (by repeat (first | (with_reducible first | exact HB.out | apply qba | apply qbn | apply qb1 | refine qbs ?_ GE223.out | refine qbs ?_ GE224.out | refine qbs ?_ GE226.out | refine qbs ?_ GE231.out) | exact HB.out)) hb); (try clear hb); have hnb109 := NB224_223.out; have hnc109 := NB223_224.out; have hcz110_0 : w108.cell? ⟨gb224, 0, none⟩ = some (.int .i64 0) := (qkc BK224.out 0).trans rfl; have hcz110_1 : w108.cell? ⟨gb224, 1, none⟩ = some (.int .i64 0) := (qkc BK224.out 1).trans rfl; have hcz110_2 : w108.cell? ⟨gb224, 2, none⟩ = some (.int .i64 0) := (qkc BK224.out 2).trans rfl; have hcz110_3 : w108.cell? ⟨gb224, 3, none⟩ = some (.int .i64 0) := (qkc BK224.out 3).trans rfl; have hfz110_0 := qkz BK224.out 0; have hfz110_1 := qkz BK224.out 1; have hfz110_2 := qkz BK224.out 2; have hfz110_3 := qkz BK224.out 3)))
            refine bodyPost_ret (results_ct rfl _ _ gb224 27 #[.int .i64 0, .int .i64 0, .int .i64 0, .int .i64 0] (0, 0) _ rfl (by (with_reducible repeat (first | apply qkn | apply qkd | apply qka)); refine qkp (cs := #[.int .i64 0, .int .i64 0, .int .i64 0, .int .i64 0]) ?_ 3 _ rfl; (with_reducible repeat (first | apply qkn | apply qkd | apply qka)); refine qkp (cs := #[.int .i64 0, .int .i64 0, .int .i64 0, .int .i64 0]) ?_ 2 _ rfl; (with_reducible repeat (first | apply qkn | apply qkd | apply qka)); refine qkp (cs := #[.int .i64 0, .int .i64 0, .int .i64 0, .int .i64 0]) ?_ 1 _ rfl; (with_reducible repeat (first | apply qkn | apply qkd | apply qka)); refine qkp (cs := #[.int .i64 0, .int .i64 0, .int .i64 0, .int .i64 0]) ?_ 0 _ rfl; (with_reducible repeat (first | apply qkn | apply qkd | apply qka)); exact BK224.out) Tryd.underlying27 rfl (by kernel_rfl)) rfl ?_
            exact ⟨by first | rfl | (simp [errW_none, errW_some] <;> rfl) | (simp [*, errW_none, errW_some] <;> rfl), by repeat (first | (with_reducible first | exact HB.out | apply qba | apply qbn | apply qb1 | refine qbs ?_ GE223.out | refine qbs ?_ GE224.out | refine qbs ?_ GE226.out | refine qbs ?_ GE231.out) | exact HB.out)⟩
    ·
     rw [if_neg c14] at H
     have c14b0 : (t225 == 1) = false := beq_eq_false_iff_ne.mpr c14
     have c14b1 : (t225 != 1) = true := bne_iff_ne.mpr c14
     simp only [Option.some.injEq, Prod.mk.injEq] at H
     obtain ⟨rfl, rfl, rfl, rfl, rfl⟩ := H
     have hnb111 := NB223_224.out
     have hnc111 := NB224_223.out
     have hcz112_0 : wc.cell? ⟨gb223, 0, none⟩ = some (.int .i64 a0_0) := (qkc BK223.out 0).trans rfl
     have hcz112_1 : wc.cell? ⟨gb223, 1, none⟩ = some (.int .i64 a0_1) := (qkc BK223.out 1).trans rfl
     have hfz112_0 := qkz BK223.out 0
     have hfz112_1 := qkz BK223.out 1
     go_wp2_with (first | (go_at_call 78; (with_reducible refine (gleeref1_divisor.calls kj1 a0_0 a0_1 t225 _ A13.out).mono ?_); rintro e w' ⟨rfl, ⟨nd, rfl⟩⟩; (try first | exact ⟨rfl, _, World.drewN_drewN _ _ _⟩ | exact ⟨rfl, _, Eq.trans (World.drewN_drewN _ _ _) (congrArg (World.drewN _) (Nat.add_assoc _ _ _))⟩); have hcz113_0 : wc.cell? ⟨gb224, 0, none⟩ = some (.int .i64 0) := (qkc BK224.out 0).trans rfl; have hcz113_1 : wc.cell? ⟨gb224, 1, none⟩ = some (.int .i64 0) := (qkc BK224.out 1).trans rfl; have hcz113_2 : wc.cell? ⟨gb224, 2, none⟩ = some (.int .i64 0) := (qkc BK224.out 2).trans rfl; have hcz113_3 : wc.cell? ⟨gb224, 3, none⟩ = some (.int .i64 0) := (qkc BK224.out 3).trans rfl; have hfz113_0 := qkz BK224.out 0; have hfz113_1 := qkz BK224.out 1; have hfz113_2 := qkz BK224.out 2; have hfz113_3 := qkz BK224.out 3))
     repeat (go_quiet (first | (go_at_call 78; (with_reducible refine (gleeref1_divisor.calls kj1 a0_0 a0_1 t225 _ A13.out).mono ?_); rintro e w' ⟨rfl, ⟨nd, rfl⟩⟩; (try first | exact ⟨rfl, _, World.drewN_drewN _ _ _⟩ | exact ⟨rfl, _, Eq.trans (World.drewN_drewN _ _ _) (congrArg (World.drewN _) (Nat.add_assoc _ _ _))⟩); have hcz113_0 : wc.cell? ⟨gb224, 0, none⟩ = some (.int .i64 0) := (qkc BK224.out 0).trans rfl; have hcz113_1 : wc.cell? ⟨gb224, 1, none⟩ = some (.int .i64 0) := (qkc BK224.out 1).trans rfl; have hcz113_2 : wc.cell? ⟨gb224, 2, none⟩ = some (.int .i64 0) := (qkc BK224.out 2).trans rfl; have hcz113_3 : wc.cell? ⟨gb224, 3, none⟩ = some (.int .i64 0) := (qkc BK224.out 3).trans rfl; have hfz113_0 := qkz BK224.out 0; have hfz113_1 := qkz BK224.out 1; have hfz113_2 := qkz BK224.out 2; have hfz113_3 := qkz BK224.out 3)); try go_wp2_with (first | (go_at_call 78; (with_reducible refine (gleeref1_divisor.calls kj1 a0_0 a0_1 t225 _ A13.out).mono ?_); rintro e w' ⟨rfl, ⟨nd, rfl⟩⟩; (try first | exact ⟨rfl, _, World.drewN_drewN _ _ _⟩ | exact ⟨rfl, _, Eq.trans (World.drewN_drewN _ _ _) (congrArg (World.drewN _) (Nat.add_assoc _ _ _))⟩); have hcz113_0 : wc.cell? ⟨gb224, 0, none⟩ = some (.int .i64 0) := (qkc BK224.out 0).trans rfl; have hcz113_1 : wc.cell? ⟨gb224, 1, none⟩ = some (.int .i64 0) := (qkc BK224.out 1).trans rfl; have hcz113_2 : wc.cell? ⟨gb224, 2, none⟩ = some (.int .i64 0) := (qkc BK224.out 2).trans rfl; have hcz113_3 : wc.cell? ⟨gb224, 3, none⟩ = some (.int .i64 0) := (qkc BK224.out 3).trans rfl; have hfz113_0 := qkz BK224.out 0; have hfz113_1 := qkz BK224.out 1; have hfz113_2 := qkz BK224.out 2; have hfz113_3 := qkz BK224.out 3)))
     refine bodyPost_ret (results_ct rfl _ _ gb224 27 #[.int .i64 0, .int .i64 0, .int .i64 0, .int .i64 0] (0, 0) _ rfl (by (with_reducible repeat (first | apply qkn | apply qkd | apply qka)); refine qkp (cs := #[.int .i64 0, .int .i64 0, .int .i64 0, .int .i64 0]) ?_ 3 _ rfl; (with_reducible repeat (first | apply qkn | apply qkd | apply qka)); refine qkp (cs := #[.int .i64 0, .int .i64 0, .int .i64 0, .int .i64 0]) ?_ 2 _ rfl; (with_reducible repeat (first | apply qkn | apply qkd | apply qka)); refine qkp (cs := #[.int .i64 0, .int .i64 0, .int .i64 0, .int .i64 0]) ?_ 1 _ rfl; (with_reducible repeat (first | apply qkn | apply qkd | apply qka)); refine qkp (cs := #[.int .i64 0, .int .i64 0, .int .i64 0, .int .i64 0]) ?_ 0 _ rfl; (with_reducible repeat (first | apply qkn | apply qkd | apply qka)); exact BK224.out) Tryd.underlying27 rfl (by kernel_rfl)) rfl ?_
     exact ⟨by first | rfl | (simp [errW_none, errW_some] <;> rfl) | (simp [*, errW_none, errW_some] <;> rfl), by repeat (first | (with_reducible first | exact HB.out | apply qba | apply qbn | apply qb1 | refine qbs ?_ GE223.out | refine qbs ?_ GE224.out) | exact HB.out)⟩

end Go.Proofs.YtdagocpgefjmdaaDoor.PIntervalsCounted
