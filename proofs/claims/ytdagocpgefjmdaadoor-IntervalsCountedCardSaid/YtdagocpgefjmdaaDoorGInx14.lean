import Derived.Test.YtdagocpgefjmdaaDoorGInx0
import Derived.Test.YtdagocpgefjmdaaDoorGInx1
import Derived.Test.YtdagocpgefjmdaaDoorGInx2
import Derived.Test.YtdagocpgefjmdaaDoorGInx3
import Derived.Test.YtdagocpgefjmdaaDoorGInx4
import Derived.Test.YtdagocpgefjmdaaDoorGInx5
import Derived.Test.YtdagocpgefjmdaaDoorGInx6
import Derived.Test.YtdagocpgefjmdaaDoorGInx8
import Derived.Test.YtdagocpgefjmdaaDoorGInx9
import Derived.Test.YtdagocpgefjmdaaDoorGInx10
import Derived.Test.YtdagocpgefjmdaaDoorGInx11
import Derived.Test.YtdagocpgefjmdaaDoorGInx12
import Derived.Test.YtdagocpgefjmdaaDoorGInx13
namespace Go.Proofs.YtdagocpgefjmdaaDoor.PIntervalsCounted
open Go.RowKit Go.Proofs.YtdagocpgefjmdaaDoorW.PrintWords Go.Proofs.YtdagocpgefjmdaaDoorW.PrintLast Go.Proofs.YtdagocpgefjmdaaDoorW.PrintMore
attribute [local go_sem] max2_int min2_int max_two min_two max_three min_three max_four min_four   -- for this text's walks alone
set_option linter.unusedVariables false
set_option linter.unusedSimpArgs false

attribute [local go_sem high] eqA27 eqA30
/-! ### gleelaw1_IntervalsCounted: function 3 -/
mutual
def gleelaw1_IntervalsCounted.j0 : Nat → Int → Int → Bool → Int → Int → Int → Int → Int → Int → Int → Int → Option (Bool)
 | 0, _, _, _, _, _, _, _, _, _, _, _ => none
 | k + 1, x7, x8, x66, x393000, x393001, x393002, x393003, x394000, x394001, x394002, x394003 => if x66 = true then (none) else ((tune_Quotient.f k x393000 x393001 x393002 x393003).bind fun bt415 => ((tune_Within.f k x393000 x393001 x393002 x393003).bind fun bt419 => (if x7 = 0 then ((gleeref1_WithinOf.f k x393000 x393001 x393002 x393003).bind fun bt426 => (if bt415.2.2 = 0 then ((gleeref1_QuotientOf.f k x393000 x393001 x393002 x393003).bind fun bt433 => (if (!(bt415.1 == bt433.1) || (!(bt415.2.1 == bt433.2))) = true then (none) else (if bt419.2.2.2.2.2 = bt426.2.2.2.2.2 then (if (!(bt419.1 == bt426.1) || (!(bt419.2.1 == bt426.2.1) || (!(bt419.2.2.1 == bt426.2.2.1) || (!(bt419.2.2.2.1 == bt426.2.2.2.1))))) = true then (none) else (if bt419.2.2.2.2.1 = bt426.2.2.2.2.1 then (gleelaw1_IntervalsCounted.j1 k x8 x393000 x393001 x393002 x393003 x394000 x394001 x394002 x394003) else (none))) else (none)))) else (none))) else (if bt415.2.2 = x7 then (if bt419.2.2.2.2.2 = x7 then (if (!(bt415.1 == 0) || (!(bt415.2.1 == 0))) = true then (none) else (if (!(bt419.1 == 0) || (!(bt419.2.1 == 0) || (!(bt419.2.2.1 == 0) || (!(bt419.2.2.2.1 == 0))))) = true then (none) else (if bt419.2.2.2.2.1 = 0 then (gleelaw1_IntervalsCounted.j1 k x8 x393000 x393001 x393002 x393003 x394000 x394001 x394002 x394003) else (none)))) else (none)) else (none)))))
def gleelaw1_IntervalsCounted.j1 : Nat → Int → Int → Int → Int → Int → Int → Int → Int → Int → Option (Bool)
 | 0, _, _, _, _, _, _, _, _, _ => none
 | k + 1, x8, x393000, x393001, x393002, x393003, x394000, x394001, x394002, x394003 => (tune_Sum.f k x393000 x393001 x393002 x393003 x394000 x394001 x394002 x394003).bind fun bt435 => ((tune_Difference.f k x393000 x393001 x393002 x393003 x394000 x394001 x394002 x394003).bind fun bt441 => ((tune_Compare.f k x393000 x393001 x393002 x393003 x394000 x394001 x394002 x394003).bind fun bt447 => (if x8 = 0 then ((gleeref1_SumOf.f k x393000 x393001 x393002 x393003 x394000 x394001 x394002 x394003 1).bind fun bt450 => ((gleeref1_SumOf.f k x393000 x393001 x393002 x393003 x394000 x394001 x394002 x394003 (-1)).bind fun bt456 => (if bt435.2.2.2.2 = bt450.2.2.2.2 then (if (bt435.1 == bt450.1 && (bt435.2.1 == bt450.2.1 && (bt435.2.2.1 == bt450.2.2.1 && (bt435.2.2.2.1 == bt450.2.2.2.1)))) = true then (if bt441.2.2.2.2 = bt456.2.2.2.2 then (if (bt441.1 == bt456.1 && (bt441.2.1 == bt456.2.1 && (bt441.2.2.1 == bt456.2.2.1 && (bt441.2.2.2.1 == bt456.2.2.2.1)))) = true then (if bt447.2 = 0 then ((gleeref1_ComparedOf.f k x393000 x393001 x393002 x393003 x394000 x394001 x394002 x394003).bind fun t462 => (if bt447.1 = t462 then ((gleelaw1_tuned.f).bind fun t463 => (some t463)) else (none))) else (none)) else (none)) else (none)) else (none)) else (none)))) else (if bt435.2.2.2.2 = x8 then (if bt441.2.2.2.2 = x8 then (if bt447.2 = x8 then (if (bt435.1 == 0 && (bt435.2.1 == 0 && (bt435.2.2.1 == 0 && (bt435.2.2.2.1 == 0)))) = true then (if (bt441.1 == 0 && (bt441.2.1 == 0 && (bt441.2.2.1 == 0 && (bt441.2.2.2.1 == 0)))) = true then (if bt447.1 = 0 then ((gleelaw1_tuned.f).bind fun t449 => (some t449)) else (none)) else (none)) else (none)) else (none)) else (none)) else (none)))))
end
def gleelaw1_IntervalsCounted.f (k : Nat) (l0 : List Int) : Option (Bool) := (gleemake_Stream_Interval.f k l0 0).bind fun bt379 => ((gleemake_Stream_Interval.f k l0 bt379.2.2.2.2).bind fun bt384 => ((gleemake_Stream_Quotient.f k l0 bt384.2.2.2.2).bind fun bt389 => ((gleeref1_IntervalFault.f k bt379.1 bt379.2.1 bt379.2.2.1 bt379.2.2.2.1).bind fun t395 => ((gleeref1_IntervalFault.f k bt379.1 bt379.2.1 bt379.2.2.1 bt379.2.2.2.1).bind fun t396 => ((gleeref1_IntervalFault.f k bt384.1 bt384.2.1 bt384.2.2.1 bt384.2.2.2.1).bind fun t397 => ((api_Errno.f k (([t396, t397] : List Int))).bind fun t401 => ((tune_CheckInterval.f bt379.1 bt379.2.1 bt379.2.2.1 bt379.2.2.2.1).bind fun t402 => (if t402 = t395 then ((tune_Of.f k bt389.1 bt389.2.1).bind fun bt403 => ((gleeref1_IntervalOf.f k bt389.1 bt389.2.1).bind fun bt409 => (if bt403.2.2.2.2 = bt409.2.2.2.2 then (gleelaw1_IntervalsCounted.j0 k t395 t401 (!(bt403.1 == bt409.1) || (!(bt403.2.1 == bt409.2.1) || (!(bt403.2.2.1 == bt409.2.2.1) || (!(bt403.2.2.2.1 == bt409.2.2.2.1))))) bt379.1 bt379.2.1 bt379.2.2.1 bt379.2.2.2.1 bt384.1 bt384.2.1 bt384.2.2.1 bt384.2.2.2.1) else (gleelaw1_IntervalsCounted.j0 k t395 t401 true bt379.1 bt379.2.1 bt379.2.2.1 bt379.2.2.2.1 bt384.1 bt384.2.1 bt384.2.2.1 bt384.2.2.2.1)))) else (none)))))))))
theorem gleelaw1_IntervalsCounted.mono_l : ∀ k, (∀ y0 y1 y2 y3 y4 y5 y6 y7 y8 y9 y10, LeO (gleelaw1_IntervalsCounted.j0 k y0 y1 y2 y3 y4 y5 y6 y7 y8 y9 y10) (gleelaw1_IntervalsCounted.j0 (k + 1) y0 y1 y2 y3 y4 y5 y6 y7 y8 y9 y10)) ∧ (∀ y0 y1 y2 y3 y4 y5 y6 y7 y8, LeO (gleelaw1_IntervalsCounted.j1 k y0 y1 y2 y3 y4 y5 y6 y7 y8) (gleelaw1_IntervalsCounted.j1 (k + 1) y0 y1 y2 y3 y4 y5 y6 y7 y8))
 | 0 => ⟨fun _ _ _ _ _ _ _ _ _ _ _ r h => by simp [gleelaw1_IntervalsCounted.j0] at h, fun _ _ _ _ _ _ _ _ _ r h => by simp [gleelaw1_IntervalsCounted.j1] at h⟩
 | k + 1 => by
  obtain ⟨ih0, ih1⟩ := gleelaw1_IntervalsCounted.mono_l k
  refine ⟨?_, ?_⟩
  ·
   intro y0 y1 y2 y3 y4 y5 y6 y7 y8 y9 y10
   unfold gleelaw1_IntervalsCounted.j0
   repeat' first
   | (with_reducible exact ih0 _ _ _ _ _ _ _ _ _ _ _)
   | (with_reducible exact ih1 _ _ _ _ _ _ _ _ _)
   | (with_reducible exact api_Errno.mono _ _)
   | (with_reducible exact gleemake_Stream_Interval.mono _ _ _)
   | (with_reducible exact gleemake_Stream_Quotient.mono _ _ _)
   | (with_reducible exact gleeref1_ComparedOf.mono _ _ _ _ _ _ _ _ _)
   | (with_reducible exact gleeref1_IntervalFault.mono _ _ _ _ _)
   | (with_reducible exact gleeref1_IntervalOf.mono _ _ _)
   | (with_reducible exact gleeref1_QuotientOf.mono _ _ _ _ _)
   | (with_reducible exact gleeref1_SumOf.mono _ _ _ _ _ _ _ _ _ _)
   | (with_reducible exact gleeref1_WithinOf.mono _ _ _ _ _)
   | (with_reducible exact tune_Compare.mono _ _ _ _ _ _ _ _ _)
   | (with_reducible exact tune_Difference.mono _ _ _ _ _ _ _ _ _)
   | (with_reducible exact tune_Of.mono _ _ _)
   | (with_reducible exact tune_Quotient.mono _ _ _ _ _)
   | (with_reducible exact tune_Sum.mono _ _ _ _ _ _ _ _ _)
   | (with_reducible exact tune_Within.mono _ _ _ _ _)
   | (with_reducible exact LeO.refl _)
   | (with_reducible exact LeO.none _)
   | (with_reducible refine LeO.ite ?_ ?_)
   | (with_reducible refine LeO.bind ?_ (fun _ => ?_))
   | exact ih0 _ _ _ _ _ _ _ _ _ _ _
   | exact ih1 _ _ _ _ _ _ _ _ _
   | exact api_Errno.mono _ _
   | exact gleemake_Stream_Interval.mono _ _ _
   | exact gleemake_Stream_Quotient.mono _ _ _
   | exact gleeref1_ComparedOf.mono _ _ _ _ _ _ _ _ _
   | exact gleeref1_IntervalFault.mono _ _ _ _ _
   | exact gleeref1_IntervalOf.mono _ _ _
   | exact gleeref1_QuotientOf.mono _ _ _ _ _
   | exact gleeref1_SumOf.mono _ _ _ _ _ _ _ _ _ _
   | exact gleeref1_WithinOf.mono _ _ _ _ _
   | exact tune_Compare.mono _ _ _ _ _ _ _ _ _
   | exact tune_Difference.mono _ _ _ _ _ _ _ _ _
   | exact tune_Of.mono _ _ _
   | exact tune_Quotient.mono _ _ _ _ _
   | exact tune_Sum.mono _ _ _ _ _ _ _ _ _
   | exact tune_Within.mono _ _ _ _ _
   | exact LeO.none _
   | refine LeO.ite ?_ ?_
   | refine LeO.bind ?_ (fun _ => ?_)
  ·
   intro y0 y1 y2 y3 y4 y5 y6 y7 y8
   unfold gleelaw1_IntervalsCounted.j1
   repeat' first
   | (with_reducible exact ih0 _ _ _ _ _ _ _ _ _ _ _)
   | (with_reducible exact ih1 _ _ _ _ _ _ _ _ _)
   | (with_reducible exact api_Errno.mono _ _)
   | (with_reducible exact gleemake_Stream_Interval.mono _ _ _)
   | (with_reducible exact gleemake_Stream_Quotient.mono _ _ _)
   | (with_reducible exact gleeref1_ComparedOf.mono _ _ _ _ _ _ _ _ _)
   | (with_reducible exact gleeref1_IntervalFault.mono _ _ _ _ _)
   | (with_reducible exact gleeref1_IntervalOf.mono _ _ _)
   | (with_reducible exact gleeref1_QuotientOf.mono _ _ _ _ _)
   | (with_reducible exact gleeref1_SumOf.mono _ _ _ _ _ _ _ _ _ _)
   | (with_reducible exact gleeref1_WithinOf.mono _ _ _ _ _)
   | (with_reducible exact tune_Compare.mono _ _ _ _ _ _ _ _ _)
   | (with_reducible exact tune_Difference.mono _ _ _ _ _ _ _ _ _)
   | (with_reducible exact tune_Of.mono _ _ _)
   | (with_reducible exact tune_Quotient.mono _ _ _ _ _)
   | (with_reducible exact tune_Sum.mono _ _ _ _ _ _ _ _ _)
   | (with_reducible exact tune_Within.mono _ _ _ _ _)
   | (with_reducible exact LeO.refl _)
   | (with_reducible exact LeO.none _)
   | (with_reducible refine LeO.ite ?_ ?_)
   | (with_reducible refine LeO.bind ?_ (fun _ => ?_))
   | exact ih0 _ _ _ _ _ _ _ _ _ _ _
   | exact ih1 _ _ _ _ _ _ _ _ _
   | exact api_Errno.mono _ _
   | exact gleemake_Stream_Interval.mono _ _ _
   | exact gleemake_Stream_Quotient.mono _ _ _
   | exact gleeref1_ComparedOf.mono _ _ _ _ _ _ _ _ _
   | exact gleeref1_IntervalFault.mono _ _ _ _ _
   | exact gleeref1_IntervalOf.mono _ _ _
   | exact gleeref1_QuotientOf.mono _ _ _ _ _
   | exact gleeref1_SumOf.mono _ _ _ _ _ _ _ _ _ _
   | exact gleeref1_WithinOf.mono _ _ _ _ _
   | exact tune_Compare.mono _ _ _ _ _ _ _ _ _
   | exact tune_Difference.mono _ _ _ _ _ _ _ _ _
   | exact tune_Of.mono _ _ _
   | exact tune_Quotient.mono _ _ _ _ _
   | exact tune_Sum.mono _ _ _ _ _ _ _ _ _
   | exact tune_Within.mono _ _ _ _ _
   | exact LeO.none _
   | refine LeO.ite ?_ ?_
   | refine LeO.bind ?_ (fun _ => ?_)
theorem gleelaw1_IntervalsCounted.mono : ∀ a0 k, LeO (gleelaw1_IntervalsCounted.f k a0) (gleelaw1_IntervalsCounted.f (k + 1) a0) := by
 intro a0 k
 obtain ⟨ih0, ih1⟩ := gleelaw1_IntervalsCounted.mono_l k
 unfold gleelaw1_IntervalsCounted.f
 repeat' first
   | (with_reducible exact ih0 _ _ _ _ _ _ _ _ _ _ _)
   | (with_reducible exact ih1 _ _ _ _ _ _ _ _ _)
   | (with_reducible exact api_Errno.mono _ _)
   | (with_reducible exact gleemake_Stream_Interval.mono _ _ _)
   | (with_reducible exact gleemake_Stream_Quotient.mono _ _ _)
   | (with_reducible exact gleeref1_ComparedOf.mono _ _ _ _ _ _ _ _ _)
   | (with_reducible exact gleeref1_IntervalFault.mono _ _ _ _ _)
   | (with_reducible exact gleeref1_IntervalOf.mono _ _ _)
   | (with_reducible exact gleeref1_QuotientOf.mono _ _ _ _ _)
   | (with_reducible exact gleeref1_SumOf.mono _ _ _ _ _ _ _ _ _ _)
   | (with_reducible exact gleeref1_WithinOf.mono _ _ _ _ _)
   | (with_reducible exact tune_Compare.mono _ _ _ _ _ _ _ _ _)
   | (with_reducible exact tune_Difference.mono _ _ _ _ _ _ _ _ _)
   | (with_reducible exact tune_Of.mono _ _ _)
   | (with_reducible exact tune_Quotient.mono _ _ _ _ _)
   | (with_reducible exact tune_Sum.mono _ _ _ _ _ _ _ _ _)
   | (with_reducible exact tune_Within.mono _ _ _ _ _)
   | (with_reducible exact LeO.refl _)
   | (with_reducible exact LeO.none _)
   | (with_reducible refine LeO.ite ?_ ?_)
   | (with_reducible refine LeO.bind ?_ (fun _ => ?_))
   | exact ih0 _ _ _ _ _ _ _ _ _ _ _
   | exact ih1 _ _ _ _ _ _ _ _ _
   | exact api_Errno.mono _ _
   | exact gleemake_Stream_Interval.mono _ _ _
   | exact gleemake_Stream_Quotient.mono _ _ _
   | exact gleeref1_ComparedOf.mono _ _ _ _ _ _ _ _ _
   | exact gleeref1_IntervalFault.mono _ _ _ _ _
   | exact gleeref1_IntervalOf.mono _ _ _
   | exact gleeref1_QuotientOf.mono _ _ _ _ _
   | exact gleeref1_SumOf.mono _ _ _ _ _ _ _ _ _ _
   | exact gleeref1_WithinOf.mono _ _ _ _ _
   | exact tune_Compare.mono _ _ _ _ _ _ _ _ _
   | exact tune_Difference.mono _ _ _ _ _ _ _ _ _
   | exact tune_Of.mono _ _ _
   | exact tune_Quotient.mono _ _ _ _ _
   | exact tune_Sum.mono _ _ _ _ _ _ _ _ _
   | exact tune_Within.mono _ _ _ _ _
   | exact LeO.none _
   | refine LeO.ite ?_ ?_
   | refine LeO.bind ?_ (fun _ => ?_)
def gleelaw1_IntervalsCounted.T3 : Bool × List (List Nat × List Nat) := (true, [([], []), ([0], [0]), ([], []), ([2, 1], [2]), ([], []), ([4, 3], [4]), ([3, 5], [3, 5]), ([6, 5], [6]), ([1, 7, 0, 1], [1]), ([7, 8, 0, 1, 2, 3, 4, 5, 6, 7, 8], [7])])
def gleelaw1_IntervalsCounted.B3 : List Nat := [0, 1, 0, 7, 0, 31, 63, 127, 255, 511]
theorem gleelaw1_IntervalsCounted.tab3 : rtab .any (opsOf Tryd.f3 3) = gleelaw1_IntervalsCounted.T3 := by kernel_rfl
theorem gleelaw1_IntervalsCounted.bits3 : waitsOk gleelaw1_IntervalsCounted.T3.2 gleelaw1_IntervalsCounted.B3 = true := by kernel_rfl
def gleelaw1_IntervalsCounted.T16 : Bool × List (List Nat × List Nat) := (true, [([], []), ([0], [0]), ([1], [1]), ([2], [2]), ([2], [2]), ([4, 2, 2], [2, 4]), ([3, 5, 2], [2, 3, 5]), ([2, 6], [2, 6]), ([7, 5], [7]), ([8], [8]), ([8], [8]), ([9, 10, 8], [8, 9, 10]), ([8, 11], [8, 11]), ([12, 8], [12]), ([13], [13]), ([13], [13]), ([14, 15, 13], [13, 14, 15]), ([13, 16], [13, 16]), ([17, 13], [17]), ([18], [18]), ([18], [18]), ([19, 20, 18], [18, 19, 20]), ([18, 21], [18, 21])])
def gleelaw1_IntervalsCounted.B16 : List Nat := [0, 1, 3, 7, 7, 23, 63, 127, 255, 511, 511, 2047, 4095, 8191, 16383, 16383, 65535, 131071, 262143, 524287, 524287, 2097151, 4194303]
theorem gleelaw1_IntervalsCounted.tab16 : rtab .any (opsOf Tryd.f3 16) = gleelaw1_IntervalsCounted.T16 := by kernel_rfl
theorem gleelaw1_IntervalsCounted.bits16 : waitsOk gleelaw1_IntervalsCounted.T16.2 gleelaw1_IntervalsCounted.B16 = true := by kernel_rfl
set_option maxHeartbeats 8000000 in
set_option maxRecDepth 100000 in
theorem gleelaw1_IntervalsCounted.calls (k : Nat) (A0 : Option Addr) (c0 : Nat) (l0 : List Int) (r : Bool) (w : World) (hr0 : Kd.C (Kd.int .i64) w A0 l0.length l0) (hc0 : l0.length ≤ c0) (h : gleelaw1_IntervalsCounted.f k l0 = some r) :
  Calls Tryd.prog 3 #[.slice A0 l0.length c0] w fun e w' => e = .returned (.bool r) ∧ Below w.heap.size w w' := by
 have hu25 := Tryd.underlying25
 have hu27 := Tryd.underlying27
 have hu30 := Tryd.underlying30
 have HR0 := Ad.mk hr0
 have HC0 := Ad.mk hc0
 clear hr0 hc0
 have HB := Ad.mk (Below.refl w.heap.size w)
 have H : ((gleemake_Stream_Interval.f k l0 0).bind fun bt379 => ((gleemake_Stream_Interval.f k l0 bt379.2.2.2.2).bind fun bt384 => ((gleemake_Stream_Quotient.f k l0 bt384.2.2.2.2).bind fun bt389 => ((gleeref1_IntervalFault.f k bt379.1 bt379.2.1 bt379.2.2.1 bt379.2.2.2.1).bind fun t395 => ((gleeref1_IntervalFault.f k bt379.1 bt379.2.1 bt379.2.2.1 bt379.2.2.2.1).bind fun t396 => ((gleeref1_IntervalFault.f k bt384.1 bt384.2.1 bt384.2.2.1 bt384.2.2.2.1).bind fun t397 => ((api_Errno.f k (([t396, t397] : List Int))).bind fun t401 => ((tune_CheckInterval.f bt379.1 bt379.2.1 bt379.2.2.1 bt379.2.2.2.1).bind fun t402 => (if t402 = t395 then ((tune_Of.f k bt389.1 bt389.2.1).bind fun bt403 => ((gleeref1_IntervalOf.f k bt389.1 bt389.2.1).bind fun bt409 => (if bt403.2.2.2.2 = bt409.2.2.2.2 then (gleelaw1_IntervalsCounted.j0 k t395 t401 (!(bt403.1 == bt409.1) || (!(bt403.2.1 == bt409.2.1) || (!(bt403.2.2.1 == bt409.2.2.1) || (!(bt403.2.2.2.1 == bt409.2.2.2.1))))) bt379.1 bt379.2.1 bt379.2.2.1 bt379.2.2.2.1 bt384.1 bt384.2.1 bt384.2.2.1 bt384.2.2.2.1) else (gleelaw1_IntervalsCounted.j0 k t395 t401 true bt379.1 bt379.2.1 bt379.2.2.1 bt379.2.2.2.1 bt384.1 bt384.2.1 bt384.2.2.1 bt384.2.2.2.1)))) else (none)))))))))) = some r := h
 clear h
 replace H := Option.bind_eq_some_iff.mp H
 obtain ⟨⟨t379, t380, t381, t382, t383⟩, A20, H⟩ := H
 replace H : ((gleemake_Stream_Interval.f k l0 t383).bind fun bt384 => ((gleemake_Stream_Quotient.f k l0 bt384.2.2.2.2).bind fun bt389 => ((gleeref1_IntervalFault.f k t379 t380 t381 t382).bind fun t395 => ((gleeref1_IntervalFault.f k t379 t380 t381 t382).bind fun t396 => ((gleeref1_IntervalFault.f k bt384.1 bt384.2.1 bt384.2.2.1 bt384.2.2.2.1).bind fun t397 => ((api_Errno.f k (([t396, t397] : List Int))).bind fun t401 => ((tune_CheckInterval.f t379 t380 t381 t382).bind fun t402 => (if t402 = t395 then ((tune_Of.f k bt389.1 bt389.2.1).bind fun bt403 => ((gleeref1_IntervalOf.f k bt389.1 bt389.2.1).bind fun bt409 => (if bt403.2.2.2.2 = bt409.2.2.2.2 then (gleelaw1_IntervalsCounted.j0 k t395 t401 (!(bt403.1 == bt409.1) || (!(bt403.2.1 == bt409.2.1) || (!(bt403.2.2.1 == bt409.2.2.1) || (!(bt403.2.2.2.1 == bt409.2.2.2.1))))) t379 t380 t381 t382 bt384.1 bt384.2.1 bt384.2.2.1 bt384.2.2.2.1) else (gleelaw1_IntervalsCounted.j0 k t395 t401 true t379 t380 t381 t382 bt384.1 bt384.2.1 bt384.2.2.1 bt384.2.2.2.1)))) else (none))))))))) = some r := H
 have A2 := Ad.mk A20
 clear A20
 replace H := Option.bind_eq_some_iff.mp H
 obtain ⟨⟨t384, t385, t386, t387, t388⟩, A30, H⟩ := H
 replace H : ((gleemake_Stream_Quotient.f k l0 t388).bind fun bt389 => ((gleeref1_IntervalFault.f k t379 t380 t381 t382).bind fun t395 => ((gleeref1_IntervalFault.f k t379 t380 t381 t382).bind fun t396 => ((gleeref1_IntervalFault.f k t384 t385 t386 t387).bind fun t397 => ((api_Errno.f k (([t396, t397] : List Int))).bind fun t401 => ((tune_CheckInterval.f t379 t380 t381 t382).bind fun t402 => (if t402 = t395 then ((tune_Of.f k bt389.1 bt389.2.1).bind fun bt403 => ((gleeref1_IntervalOf.f k bt389.1 bt389.2.1).bind fun bt409 => (if bt403.2.2.2.2 = bt409.2.2.2.2 then (gleelaw1_IntervalsCounted.j0 k t395 t401 (!(bt403.1 == bt409.1) || (!(bt403.2.1 == bt409.2.1) || (!(bt403.2.2.1 == bt409.2.2.1) || (!(bt403.2.2.2.1 == bt409.2.2.2.1))))) t379 t380 t381 t382 t384 t385 t386 t387) else (gleelaw1_IntervalsCounted.j0 k t395 t401 true t379 t380 t381 t382 t384 t385 t386 t387)))) else (none)))))))) = some r := H
 have A3 := Ad.mk A30
 clear A30
 replace H := Option.bind_eq_some_iff.mp H
 obtain ⟨⟨t389, t390, t391⟩, A40, H⟩ := H
 replace H : ((gleeref1_IntervalFault.f k t379 t380 t381 t382).bind fun t395 => ((gleeref1_IntervalFault.f k t379 t380 t381 t382).bind fun t396 => ((gleeref1_IntervalFault.f k t384 t385 t386 t387).bind fun t397 => ((api_Errno.f k (([t396, t397] : List Int))).bind fun t401 => ((tune_CheckInterval.f t379 t380 t381 t382).bind fun t402 => (if t402 = t395 then ((tune_Of.f k t389 t390).bind fun bt403 => ((gleeref1_IntervalOf.f k t389 t390).bind fun bt409 => (if bt403.2.2.2.2 = bt409.2.2.2.2 then (gleelaw1_IntervalsCounted.j0 k t395 t401 (!(bt403.1 == bt409.1) || (!(bt403.2.1 == bt409.2.1) || (!(bt403.2.2.1 == bt409.2.2.1) || (!(bt403.2.2.2.1 == bt409.2.2.2.1))))) t379 t380 t381 t382 t384 t385 t386 t387) else (gleelaw1_IntervalsCounted.j0 k t395 t401 true t379 t380 t381 t382 t384 t385 t386 t387)))) else (none))))))) = some r := H
 have A4 := Ad.mk A40
 clear A40
 replace H := Option.bind_eq_some_iff.mp H
 obtain ⟨t395, A50, H⟩ := H
 replace H : ((gleeref1_IntervalFault.f k t379 t380 t381 t382).bind fun t396 => ((gleeref1_IntervalFault.f k t384 t385 t386 t387).bind fun t397 => ((api_Errno.f k (([t396, t397] : List Int))).bind fun t401 => ((tune_CheckInterval.f t379 t380 t381 t382).bind fun t402 => (if t402 = t395 then ((tune_Of.f k t389 t390).bind fun bt403 => ((gleeref1_IntervalOf.f k t389 t390).bind fun bt409 => (if bt403.2.2.2.2 = bt409.2.2.2.2 then (gleelaw1_IntervalsCounted.j0 k t395 t401 (!(bt403.1 == bt409.1) || (!(bt403.2.1 == bt409.2.1) || (!(bt403.2.2.1 == bt409.2.2.1) || (!(bt403.2.2.2.1 == bt409.2.2.2.1))))) t379 t380 t381 t382 t384 t385 t386 t387) else (gleelaw1_IntervalsCounted.j0 k t395 t401 true t379 t380 t381 t382 t384 t385 t386 t387)))) else (none)))))) = some r := H
 have A5 := Ad.mk A50
 clear A50
 replace H := Option.bind_eq_some_iff.mp H
 obtain ⟨t396, A60, H⟩ := H
 replace H : ((gleeref1_IntervalFault.f k t384 t385 t386 t387).bind fun t397 => ((api_Errno.f k (([t396, t397] : List Int))).bind fun t401 => ((tune_CheckInterval.f t379 t380 t381 t382).bind fun t402 => (if t402 = t395 then ((tune_Of.f k t389 t390).bind fun bt403 => ((gleeref1_IntervalOf.f k t389 t390).bind fun bt409 => (if bt403.2.2.2.2 = bt409.2.2.2.2 then (gleelaw1_IntervalsCounted.j0 k t395 t401 (!(bt403.1 == bt409.1) || (!(bt403.2.1 == bt409.2.1) || (!(bt403.2.2.1 == bt409.2.2.1) || (!(bt403.2.2.2.1 == bt409.2.2.2.1))))) t379 t380 t381 t382 t384 t385 t386 t387) else (gleelaw1_IntervalsCounted.j0 k t395 t401 true t379 t380 t381 t382 t384 t385 t386 t387)))) else (none))))) = some r := H
 have A6 := Ad.mk A60
 clear A60
 replace H := Option.bind_eq_some_iff.mp H
 obtain ⟨t397, A70, H⟩ := H
 replace H : ((api_Errno.f k (([t396, t397] : List Int))).bind fun t401 => ((tune_CheckInterval.f t379 t380 t381 t382).bind fun t402 => (if t402 = t395 then ((tune_Of.f k t389 t390).bind fun bt403 => ((gleeref1_IntervalOf.f k t389 t390).bind fun bt409 => (if bt403.2.2.2.2 = bt409.2.2.2.2 then (gleelaw1_IntervalsCounted.j0 k t395 t401 (!(bt403.1 == bt409.1) || (!(bt403.2.1 == bt409.2.1) || (!(bt403.2.2.1 == bt409.2.2.1) || (!(bt403.2.2.2.1 == bt409.2.2.2.1))))) t379 t380 t381 t382 t384 t385 t386 t387) else (gleelaw1_IntervalsCounted.j0 k t395 t401 true t379 t380 t381 t382 t384 t385 t386 t387)))) else (none)))) = some r := H
 have A7 := Ad.mk A70
 clear A70
 obtain ⟨y398, hy398⟩ : ∃ y_ : List Int, y_ = (([t396, t397] : List Int)) := ⟨_, rfl⟩
 replace H : ((api_Errno.f k y398).bind fun t401 => ((tune_CheckInterval.f t379 t380 t381 t382).bind fun t402 => (if t402 = t395 then ((tune_Of.f k t389 t390).bind fun bt403 => ((gleeref1_IntervalOf.f k t389 t390).bind fun bt409 => (if bt403.2.2.2.2 = bt409.2.2.2.2 then (gleelaw1_IntervalsCounted.j0 k t395 t401 (!(bt403.1 == bt409.1) || (!(bt403.2.1 == bt409.2.1) || (!(bt403.2.2.1 == bt409.2.2.1) || (!(bt403.2.2.2.1 == bt409.2.2.2.1))))) t379 t380 t381 t382 t384 t385 t386 t387) else (gleelaw1_IntervalsCounted.j0 k t395 t401 true t379 t380 t381 t382 t384 t385 t386 t387)))) else (none)))) = some r := by first | (rw [hy398]; with_reducible exact H) | (have H2_ := (Option.bind_some _ _).symm.trans H; rw [hy398]; with_reducible exact H2_) | (have H2_ := (Option.bind_some _ _).symm.trans H; with_reducible exact H2_) | with_reducible exact H | (rw [hy398]; exact H) | exact H
 have Ny398 := Ad.mk hy398
 clear hy398
 replace H := Option.bind_eq_some_iff.mp H
 obtain ⟨t401, A80, H⟩ := H
 replace H : ((tune_CheckInterval.f t379 t380 t381 t382).bind fun t402 => (if t402 = t395 then ((tune_Of.f k t389 t390).bind fun bt403 => ((gleeref1_IntervalOf.f k t389 t390).bind fun bt409 => (if bt403.2.2.2.2 = bt409.2.2.2.2 then (gleelaw1_IntervalsCounted.j0 k t395 t401 (!(bt403.1 == bt409.1) || (!(bt403.2.1 == bt409.2.1) || (!(bt403.2.2.1 == bt409.2.2.1) || (!(bt403.2.2.2.1 == bt409.2.2.2.1))))) t379 t380 t381 t382 t384 t385 t386 t387) else (gleelaw1_IntervalsCounted.j0 k t395 t401 true t379 t380 t381 t382 t384 t385 t386 t387)))) else (none))) = some r := H
 have A8 := Ad.mk A80
 clear A80
 replace H := Option.bind_eq_some_iff.mp H
 obtain ⟨t402, A90, H⟩ := H
 replace H : (if t402 = t395 then ((tune_Of.f k t389 t390).bind fun bt403 => ((gleeref1_IntervalOf.f k t389 t390).bind fun bt409 => (if bt403.2.2.2.2 = bt409.2.2.2.2 then (gleelaw1_IntervalsCounted.j0 k t395 t401 (!(bt403.1 == bt409.1) || (!(bt403.2.1 == bt409.2.1) || (!(bt403.2.2.1 == bt409.2.2.1) || (!(bt403.2.2.2.1 == bt409.2.2.2.1))))) t379 t380 t381 t382 t384 t385 t386 t387) else (gleelaw1_IntervalsCounted.j0 k t395 t401 true t379 t380 t381 t382 t384 t385 t386 t387)))) else (none)) = some r := H
 have A9 := Ad.mk A90
 clear A90
 by_cases c10 : t402 = t395
 ·
  rw [if_pos c10] at H
  have c10b0 : (t402 == t395) = true := beq_iff_eq.mpr c10
  have c10b1 : (t402 != t395) = false := bne_eq_false_iff_eq.mpr c10
  clear c10
  replace H := Option.bind_eq_some_iff.mp H
  obtain ⟨⟨t403, t404, t405, t406, t407⟩, A110, H⟩ := H
  replace H : ((gleeref1_IntervalOf.f k t389 t390).bind fun bt409 => (if t407 = bt409.2.2.2.2 then (gleelaw1_IntervalsCounted.j0 k t395 t401 (!(t403 == bt409.1) || (!(t404 == bt409.2.1) || (!(t405 == bt409.2.2.1) || (!(t406 == bt409.2.2.2.1))))) t379 t380 t381 t382 t384 t385 t386 t387) else (gleelaw1_IntervalsCounted.j0 k t395 t401 true t379 t380 t381 t382 t384 t385 t386 t387))) = some r := H
  have A11 := Ad.mk A110
  clear A110
  replace H := Option.bind_eq_some_iff.mp H
  obtain ⟨⟨t409, t410, t411, t412, t413⟩, A120, H⟩ := H
  replace H : (if t407 = t413 then (gleelaw1_IntervalsCounted.j0 k t395 t401 (!(t403 == t409) || (!(t404 == t410) || (!(t405 == t411) || (!(t406 == t412))))) t379 t380 t381 t382 t384 t385 t386 t387) else (gleelaw1_IntervalsCounted.j0 k t395 t401 true t379 t380 t381 t382 t384 t385 t386 t387)) = some r := H
  have A12 := Ad.mk A120
  clear A120
  have HC13 := Ad.mk H
  clear H
  go_enter Tryd.func3, Tryd.ntmps3
  try go_wp2_with (first | ((with_reducible refine qgd (N := 30) rfl ?_); refine qbe ?hg (N := 30) ?hd (cs := #[.slice A0 l0.length c0, .int .i64 0]) (t := 25) ?hr ?_; (case hd => rfl); (case hg => rfl); (case hr => first | (go_simp; done) | (go_simp; rfl)); intro gb378 hg w14 hbox hb; have GW378 := Ad.mk ((by rw [hg]; exact (qbz (by repeat (first | (with_reducible first | exact HB.out | apply qbn | apply qb1) | exact HB.out))) : w.heap.size ≤ gb378)); have GE378 := Ad.mk ((by rw [hg]; exact (qbz (by repeat (first | (with_reducible first | exact HB.out | apply qbn | apply qb1) | exact HB.out))) : w.heap.size ≤ gb378)); have HI378 := Ad.mk ((⟨_, _, hbox, (by rw [hg]; exact (qbz (by repeat (first | (with_reducible first | exact HB.out | apply qbn | apply qb1) | exact HB.out))) : w.heap.size ≤ gb378), HR0.out⟩ : IsS25 w w14 gb378 l0 0)); replace HB := Ad.mk (qbt (by repeat (first | (with_reducible first | exact HB.out | apply qbn | apply qb1) | exact HB.out)) hb); clear hb hbox hg) | ((with_reducible refine qgc (f := 12) rfl ?_); refine goesL_ (some 32) rfl rfl Tryd.func12 (by kernel_rfl) rfl #[.pointer (some ⟨gb378, 0, none⟩)] rfl (by (try simp only [List.map_toArray, List.map_cons, List.map_nil]); first | done | rfl) ?_; (with_reducible refine (gleemake_Stream_Interval.calls k gb378 l0 0 t379 t380 t381 t382 t383 w _ ?side1 ?side2 A2.out).mono ?_); (case side1 => repeat (first | (with_reducible first | exact HI378.out | apply IsS25.drewN | apply IsS25.drew) | exact HI378.out)); (case side2 => repeat (first | (with_reducible first | exact HB.out | apply qbn | apply qb1) | exact HB.out)); rintro e w15 ⟨rfl, hi, hb, hk⟩; refine ⟨_, rfl, ?_⟩; replace HB := Ad.mk (hb); replace HI378 := Ad.mk (hi); (try clear hb); (try clear hk); (try clear hi)) | ((with_reducible refine qgc (f := 12) rfl ?_); refine goesL_ (some 34) rfl rfl Tryd.func12 (by kernel_rfl) rfl #[.pointer (some ⟨gb378, 0, none⟩)] rfl (by (try simp only [List.map_toArray, List.map_cons, List.map_nil]); first | done | rfl) ?_; (with_reducible refine (gleemake_Stream_Interval.calls k gb378 l0 t383 t384 t385 t386 t387 t388 w _ ?side1 ?side2 A3.out).mono ?_); (case side1 => repeat (first | (with_reducible first | exact HI378.out | apply IsS25.drewN | apply IsS25.drew) | exact HI378.out)); (case side2 => repeat (first | (with_reducible first | exact HB.out | apply qbn | apply qb1) | exact HB.out)); rintro e w16 ⟨rfl, hi, hb, hk⟩; refine ⟨_, rfl, ?_⟩; replace HB := Ad.mk (hb); replace HI378 := Ad.mk (hi); (try clear hb); (try clear hk); (try clear hi)) | ((with_reducible refine qgc (f := 13) rfl ?_); refine goesL_ (some 36) rfl rfl Tryd.func13 (by kernel_rfl) rfl #[.pointer (some ⟨gb378, 0, none⟩)] rfl (by (try simp only [List.map_toArray, List.map_cons, List.map_nil]); first | done | rfl) ?_; (with_reducible refine (gleemake_Stream_Quotient.calls k gb378 l0 t388 t389 t390 t391 w _ ?side1 ?side2 A4.out).mono ?_); (case side1 => repeat (first | (with_reducible first | exact HI378.out | apply IsS25.drewN | apply IsS25.drew) | exact HI378.out)); (case side2 => repeat (first | (with_reducible first | exact HB.out | apply qbn | apply qb1) | exact HB.out)); rintro e w17 ⟨rfl, hi, hb, hk⟩; refine ⟨_, rfl, ?_⟩; replace HB := Ad.mk (hb); replace HI378 := Ad.mk (hi); (try clear hb); (try clear hk); (try clear hi)) | ((with_reducible refine qgd (N := 4) rfl ?_); refine qbe ?hg (N := 4) ?hd (cs := #[.int .i64 0, .int .i64 0, .int .i64 0, .int .i64 0]) (t := 27) ?hr ?_; (case hd => rfl); (case hg => rfl); (case hr => first | (go_simp; done) | (go_simp; rfl)); intro gb392 hg w18 hbox hb; have BK392 := Ad.mk (hbox); have GW392 := Ad.mk ((by rw [hg]; exact (qbz (by repeat (first | (with_reducible first | exact HB.out | apply qbn | apply qb1) | exact HB.out))) : w.heap.size ≤ gb392)); have GE392 := Ad.mk ((by rw [hg]; exact (qbz (by repeat (first | (with_reducible first | exact HB.out | apply qbn | apply qb1) | exact HB.out))) : w.heap.size ≤ gb392)); have NB378_392 := Ad.mk ((by rw [hg]; exact Nat.ne_of_lt (IsS25.lt (show IsS25 w _ gb378 l0 t391 from by repeat (first | (with_reducible first | exact HI378.out | apply IsS25.drewN | apply IsS25.drew) | exact HI378.out))) : gb378 ≠ gb392)); have NB392_378 := Ad.mk ((by rw [hg]; exact Nat.ne_of_gt (IsS25.lt (show IsS25 w _ gb378 l0 t391 from by repeat (first | (with_reducible first | exact HI378.out | apply IsS25.drewN | apply IsS25.drew) | exact HI378.out))) : gb392 ≠ gb378)); replace HI378 := Ad.mk (IsS25.below (by repeat (first | (with_reducible first | exact HI378.out | apply IsS25.drewN | apply IsS25.drew) | exact HI378.out)) hb); replace HB := Ad.mk (qbt (by repeat (first | (with_reducible first | exact HB.out | apply qbn | apply qb1) | exact HB.out)) hb); clear hb hbox hg) | ((with_reducible refine qgd (N := 5) rfl ?_); refine qbe ?hg (N := 5) ?hd (cs := #[.int .i64 0, .int .i64 0, .int .i64 0, .int .i64 0]) (t := 27) ?hr ?_; (case hd => rfl); (case hg => rfl); (case hr => first | (go_simp; done) | (go_simp; rfl)); intro gb393 hg w19 hbox hb; have BK393 := Ad.mk (hbox); have GW393 := Ad.mk ((by rw [hg]; exact (qbz (by repeat (first | (with_reducible first | exact HB.out | apply qbn | apply qb1) | exact HB.out))) : w.heap.size ≤ gb393)); have GE393 := Ad.mk ((by rw [hg]; exact (qbz (by repeat (first | (with_reducible first | exact HB.out | apply qbn | apply qb1) | exact HB.out))) : w.heap.size ≤ gb393)); have NB392_393 := Ad.mk ((by rw [hg]; exact Nat.ne_of_lt (qkl (by exact BK392.out)) : gb392 ≠ gb393)); have NB393_392 := Ad.mk ((by rw [hg]; exact Nat.ne_of_gt (qkl (by exact BK392.out)) : gb393 ≠ gb392)); have NB378_393 := Ad.mk ((by rw [hg]; exact Nat.ne_of_lt (IsS25.lt (show IsS25 w _ gb378 l0 t391 from by repeat (first | (with_reducible first | exact HI378.out | apply IsS25.drewN | apply IsS25.drew) | exact HI378.out))) : gb378 ≠ gb393)); have NB393_378 := Ad.mk ((by rw [hg]; exact Nat.ne_of_gt (IsS25.lt (show IsS25 w _ gb378 l0 t391 from by repeat (first | (with_reducible first | exact HI378.out | apply IsS25.drewN | apply IsS25.drew) | exact HI378.out))) : gb393 ≠ gb378)); replace HI378 := Ad.mk (IsS25.below (by repeat (first | (with_reducible first | exact HI378.out | apply IsS25.drewN | apply IsS25.drew) | exact HI378.out)) hb); replace BK392 := Ad.mk (qkb (by exact BK392.out) hb); replace HB := Ad.mk (qbt (by repeat (first | (with_reducible first | exact HB.out | apply qbn | apply qb1) | exact HB.out)) hb); clear hb hbox hg) | ((with_reducible refine qgd (N := 6) rfl ?_); refine qbe ?hg (N := 6) ?hd (cs := #[.int .i64 0, .int .i64 0]) (t := 30) ?hr ?_; (case hd => rfl); (case hg => rfl); (case hr => first | (go_simp; done) | (go_simp; rfl)); intro gb394 hg w20 hbox hb; have BK394 := Ad.mk (hbox); have GW394 := Ad.mk ((by rw [hg]; exact (qbz (by repeat (first | (with_reducible first | exact HB.out | apply qbn | apply qb1) | exact HB.out))) : w.heap.size ≤ gb394)); have GE394 := Ad.mk ((by rw [hg]; exact (qbz (by repeat (first | (with_reducible first | exact HB.out | apply qbn | apply qb1) | exact HB.out))) : w.heap.size ≤ gb394)); have NB392_394 := Ad.mk ((by rw [hg]; exact Nat.ne_of_lt (qkl (by exact BK392.out)) : gb392 ≠ gb394)); have NB394_392 := Ad.mk ((by rw [hg]; exact Nat.ne_of_gt (qkl (by exact BK392.out)) : gb394 ≠ gb392)); have NB393_394 := Ad.mk ((by rw [hg]; exact Nat.ne_of_lt (qkl (by exact BK393.out)) : gb393 ≠ gb394)); have NB394_393 := Ad.mk ((by rw [hg]; exact Nat.ne_of_gt (qkl (by exact BK393.out)) : gb394 ≠ gb393)); have NB378_394 := Ad.mk ((by rw [hg]; exact Nat.ne_of_lt (IsS25.lt (show IsS25 w _ gb378 l0 t391 from by repeat (first | (with_reducible first | exact HI378.out | apply IsS25.drewN | apply IsS25.drew) | exact HI378.out))) : gb378 ≠ gb394)); have NB394_378 := Ad.mk ((by rw [hg]; exact Nat.ne_of_gt (IsS25.lt (show IsS25 w _ gb378 l0 t391 from by repeat (first | (with_reducible first | exact HI378.out | apply IsS25.drewN | apply IsS25.drew) | exact HI378.out))) : gb394 ≠ gb378)); replace HI378 := Ad.mk (IsS25.below (by repeat (first | (with_reducible first | exact HI378.out | apply IsS25.drewN | apply IsS25.drew) | exact HI378.out)) hb); replace BK392 := Ad.mk (qkb (by exact BK392.out) hb); replace BK393 := Ad.mk (qkb (by exact BK393.out) hb); replace HB := Ad.mk (qbt (by repeat (first | (with_reducible first | exact HB.out | apply qbn | apply qb1) | exact HB.out)) hb); clear hb hbox hg; have hnb21 := NB392_393.out; have hnc21 := NB393_392.out; have hnb22 := NB392_394.out; have hnc22 := NB394_392.out; have hnb23 := NB392_378.out; have hnc23 := NB378_392.out; have hcz24_0 : w20.cell? ⟨gb392, 0, none⟩ = some (.int .i64 0) := (qkc BK392.out 0).trans rfl; have hcz24_1 : w20.cell? ⟨gb392, 1, none⟩ = some (.int .i64 0) := (qkc BK392.out 1).trans rfl; have hcz24_2 : w20.cell? ⟨gb392, 2, none⟩ = some (.int .i64 0) := (qkc BK392.out 2).trans rfl; have hcz24_3 : w20.cell? ⟨gb392, 3, none⟩ = some (.int .i64 0) := (qkc BK392.out 3).trans rfl; have hfz24_0 := qkz BK392.out 0; have hfz24_1 := qkz BK392.out 1; have hfz24_2 := qkz BK392.out 2; have hfz24_3 := qkz BK392.out 3; have hnb25 := NB393_394.out; have hnc25 := NB394_393.out; have hnb26 := NB393_378.out; have hnc26 := NB378_393.out; have hcz27_0 : w20.cell? ⟨gb393, 0, none⟩ = some (.int .i64 0) := (qkc BK393.out 0).trans rfl; have hcz27_1 : w20.cell? ⟨gb393, 1, none⟩ = some (.int .i64 0) := (qkc BK393.out 1).trans rfl; have hcz27_2 : w20.cell? ⟨gb393, 2, none⟩ = some (.int .i64 0) := (qkc BK393.out 2).trans rfl; have hcz27_3 : w20.cell? ⟨gb393, 3, none⟩ = some (.int .i64 0) := (qkc BK393.out 3).trans rfl; have hfz27_0 := qkz BK393.out 0; have hfz27_1 := qkz BK393.out 1; have hfz27_2 := qkz BK393.out 2; have hfz27_3 := qkz BK393.out 3; have hnb28 := NB394_378.out; have hnc28 := NB378_394.out; have hcz29_0 : w20.cell? ⟨gb394, 0, none⟩ = some (.int .i64 0) := (qkc BK394.out 0).trans rfl; have hcz29_1 : w20.cell? ⟨gb394, 1, none⟩ = some (.int .i64 0) := (qkc BK394.out 1).trans rfl; have hfz29_0 := qkz BK394.out 0; have hfz29_1 := qkz BK394.out 1))
  have n0_ : Ad (((((((((((w20.setCell ⟨gb392, 0, none⟩ (.int .i64 t379)).setCell ⟨gb392, 1, none⟩ (.int .i64 t380)).setCell ⟨gb392, 2, none⟩ (.int .i64 t381)).setCell ⟨gb392, 3, none⟩ (.int .i64 t382)).setCell ⟨gb393, 0, none⟩ (.int .i64 t384)).setCell ⟨gb393, 1, none⟩ (.int .i64 t385)).setCell ⟨gb393, 2, none⟩ (.int .i64 t386)).setCell ⟨gb393, 3, none⟩ (.int .i64 t387)).setCell ⟨gb394, 0, none⟩ (.int .i64 t389)).setCell ⟨gb394, 1, none⟩ (.int .i64 t390)).heap[gb392]? = some (.cells #[.int .i64 t379, .int .i64 t380, .int .i64 t381, .int .i64 t382] 27 (0, 0))) := ⟨by refine qkf ?_ NB392_394.out _; refine qkf ?_ NB392_394.out _; refine qkf ?_ NB392_393.out _; refine qkf ?_ NB392_393.out _; refine qkf ?_ NB392_393.out _; refine qkf ?_ NB392_393.out _; refine qkp (cs := #[.int .i64 t379, .int .i64 t380, .int .i64 t381, .int .i64 0]) ?_ 3 _ rfl; refine qkp (cs := #[.int .i64 t379, .int .i64 t380, .int .i64 0, .int .i64 0]) ?_ 2 _ rfl; refine qkp (cs := #[.int .i64 t379, .int .i64 0, .int .i64 0, .int .i64 0]) ?_ 1 _ rfl; refine qkp (cs := #[.int .i64 0, .int .i64 0, .int .i64 0, .int .i64 0]) ?_ 0 _ rfl; exact BK392.out⟩
  have n1_ : Ad (((((((((((w20.setCell ⟨gb392, 0, none⟩ (.int .i64 t379)).setCell ⟨gb392, 1, none⟩ (.int .i64 t380)).setCell ⟨gb392, 2, none⟩ (.int .i64 t381)).setCell ⟨gb392, 3, none⟩ (.int .i64 t382)).setCell ⟨gb393, 0, none⟩ (.int .i64 t384)).setCell ⟨gb393, 1, none⟩ (.int .i64 t385)).setCell ⟨gb393, 2, none⟩ (.int .i64 t386)).setCell ⟨gb393, 3, none⟩ (.int .i64 t387)).setCell ⟨gb394, 0, none⟩ (.int .i64 t389)).setCell ⟨gb394, 1, none⟩ (.int .i64 t390)).heap[gb393]? = some (.cells #[.int .i64 t384, .int .i64 t385, .int .i64 t386, .int .i64 t387] 27 (0, 0))) := ⟨by refine qkf ?_ NB393_394.out _; refine qkf ?_ NB393_394.out _; refine qkp (cs := #[.int .i64 t384, .int .i64 t385, .int .i64 t386, .int .i64 0]) ?_ 3 _ rfl; refine qkp (cs := #[.int .i64 t384, .int .i64 t385, .int .i64 0, .int .i64 0]) ?_ 2 _ rfl; refine qkp (cs := #[.int .i64 t384, .int .i64 0, .int .i64 0, .int .i64 0]) ?_ 1 _ rfl; refine qkp (cs := #[.int .i64 0, .int .i64 0, .int .i64 0, .int .i64 0]) ?_ 0 _ rfl; refine qkf ?_ NB393_392.out _; refine qkf ?_ NB393_392.out _; refine qkf ?_ NB393_392.out _; refine qkf ?_ NB393_392.out _; exact BK393.out⟩
  have n2_ : Ad (((((((((((w20.setCell ⟨gb392, 0, none⟩ (.int .i64 t379)).setCell ⟨gb392, 1, none⟩ (.int .i64 t380)).setCell ⟨gb392, 2, none⟩ (.int .i64 t381)).setCell ⟨gb392, 3, none⟩ (.int .i64 t382)).setCell ⟨gb393, 0, none⟩ (.int .i64 t384)).setCell ⟨gb393, 1, none⟩ (.int .i64 t385)).setCell ⟨gb393, 2, none⟩ (.int .i64 t386)).setCell ⟨gb393, 3, none⟩ (.int .i64 t387)).setCell ⟨gb394, 0, none⟩ (.int .i64 t389)).setCell ⟨gb394, 1, none⟩ (.int .i64 t390)).heap[gb394]? = some (.cells #[.int .i64 t389, .int .i64 t390] 30 (0, 0))) := ⟨by refine qkp (cs := #[.int .i64 t389, .int .i64 0]) ?_ 1 _ rfl; refine qkp (cs := #[.int .i64 0, .int .i64 0]) ?_ 0 _ rfl; refine qkf ?_ NB394_393.out _; refine qkf ?_ NB394_393.out _; refine qkf ?_ NB394_393.out _; refine qkf ?_ NB394_393.out _; refine qkf ?_ NB394_392.out _; refine qkf ?_ NB394_392.out _; refine qkf ?_ NB394_392.out _; refine qkf ?_ NB394_392.out _; exact BK394.out⟩
  have n3_ : Ad (IsS25 w ((((((((((w20.setCell ⟨gb392, 0, none⟩ (.int .i64 t379)).setCell ⟨gb392, 1, none⟩ (.int .i64 t380)).setCell ⟨gb392, 2, none⟩ (.int .i64 t381)).setCell ⟨gb392, 3, none⟩ (.int .i64 t382)).setCell ⟨gb393, 0, none⟩ (.int .i64 t384)).setCell ⟨gb393, 1, none⟩ (.int .i64 t385)).setCell ⟨gb393, 2, none⟩ (.int .i64 t386)).setCell ⟨gb393, 3, none⟩ (.int .i64 t387)).setCell ⟨gb394, 0, none⟩ (.int .i64 t389)).setCell ⟨gb394, 1, none⟩ (.int .i64 t390)) gb378 l0 t391) := ⟨by repeat (first | (with_reducible first | exact HI378.out | apply IsS25.drewN | apply IsS25.drew | refine IsS25.far ?_ NB378_392.out _ | refine IsS25.far ?_ NB378_393.out _ | refine IsS25.far ?_ NB378_394.out _) | exact HI378.out)⟩
  have n4_ : Ad (Below w.heap.size w ((((((((((w20.setCell ⟨gb392, 0, none⟩ (.int .i64 t379)).setCell ⟨gb392, 1, none⟩ (.int .i64 t380)).setCell ⟨gb392, 2, none⟩ (.int .i64 t381)).setCell ⟨gb392, 3, none⟩ (.int .i64 t382)).setCell ⟨gb393, 0, none⟩ (.int .i64 t384)).setCell ⟨gb393, 1, none⟩ (.int .i64 t385)).setCell ⟨gb393, 2, none⟩ (.int .i64 t386)).setCell ⟨gb393, 3, none⟩ (.int .i64 t387)).setCell ⟨gb394, 0, none⟩ (.int .i64 t389)).setCell ⟨gb394, 1, none⟩ (.int .i64 t390))) := ⟨by repeat (first | (with_reducible first | exact HB.out | apply qbn | apply qb1 | refine qbs ?_ GE392.out | refine qbs ?_ GE393.out | refine qbs ?_ GE394.out) | exact HB.out)⟩
  (try clear BK392)
  (try clear BK393)
  (try clear BK394)
  (try clear HI378)
  (try clear HB)
  generalize ((((((((((w20.setCell ⟨gb392, 0, none⟩ (.int .i64 t379)).setCell ⟨gb392, 1, none⟩ (.int .i64 t380)).setCell ⟨gb392, 2, none⟩ (.int .i64 t381)).setCell ⟨gb392, 3, none⟩ (.int .i64 t382)).setCell ⟨gb393, 0, none⟩ (.int .i64 t384)).setCell ⟨gb393, 1, none⟩ (.int .i64 t385)).setCell ⟨gb393, 2, none⟩ (.int .i64 t386)).setCell ⟨gb393, 3, none⟩ (.int .i64 t387)).setCell ⟨gb394, 0, none⟩ (.int .i64 t389)).setCell ⟨gb394, 1, none⟩ (.int .i64 t390)) = w30 at n0_ n1_ n2_ n3_ n4_ ⊢
  have BK392 := n0_
  have BK393 := n1_
  have BK394 := n2_
  have HI378 := n3_
  have HB := n4_
  clear n0_ n1_ n2_ n3_ n4_
  replace BK392 := Ad.mk (qkd BK392.out)
  replace BK393 := Ad.mk (qkd BK393.out)
  replace BK394 := Ad.mk (qkd BK394.out)
  replace HI378 := Ad.mk (IsS25.drew HI378.out)
  replace HB := Ad.mk (qb1 HB.out)
  refine start_ (n := 10) (S := fun w' => w'.cell? ⟨gb392, 0, none⟩ = some (.int .i64 t379) ∧ w'.cell? ⟨gb392, 1, none⟩ = some (.int .i64 t380) ∧ w'.cell? ⟨gb392, 2, none⟩ = some (.int .i64 t381) ∧ w'.cell? ⟨gb392, 3, none⟩ = some (.int .i64 t382) ∧ w'.cell? ⟨gb393, 0, none⟩ = some (.int .i64 t384) ∧ w'.cell? ⟨gb393, 1, none⟩ = some (.int .i64 t385) ∧ w'.cell? ⟨gb393, 2, none⟩ = some (.int .i64 t386) ∧ w'.cell? ⟨gb393, 3, none⟩ = some (.int .i64 t387)) (ds := []) #[false, false, false, false, false, false, false, false, false, false] (by kernel_rfl) rfl rfl ⟨(qkc BK392.out 0).trans rfl, (qkc BK392.out 1).trans rfl, (qkc BK392.out 2).trans rfl, (qkc BK392.out 3).trans rfl, (qkc BK393.out 0).trans rfl, (qkc BK393.out 1).trans rfl, (qkc BK393.out 2).trans rfl, (qkc BK393.out 3).trans rfl⟩ (fun hHeld => ?_); refine with_tabW gleelaw1_IntervalsCounted.tab3 gleelaw1_IntervalsCounted.bits3 (fun HT_ HW_ => ?_)
  generalize w30.drew = w31 at BK392 BK393 BK394 HI378 HB hHeld ⊢
  refine take_ (i := 0) (N := some 37) (v := ?_) (a' := ?_) #[true, false, false, false, false, false, false, false, false, false] rfl rfl (take_ofW HT_.out HW_.out (by kernel_rfl)) (fun _ _ _ h => h) (Or.inl ⟨by rfl, ?_⟩) hHeld ?_ ?_
  rotate_left
  ·
   rintro w' ⟨s0, s1, s2, s3, s4, s5, s6, s7⟩
   go_simp
   with_reducible rfl
  rotate_left
  ·
   simp only [Act.put, List.setIfInBounds_toArray, List.set_cons_zero, List.set_cons_succ, i64_w, i32_w]
   rfl
  refine take_ (i := 2) (N := some 39) (v := ?_) (a' := ?_) #[true, false, true, false, false, false, false, false, false, false] rfl rfl (take_ofW HT_.out HW_.out (by kernel_rfl)) (fun _ _ _ h => h) (Or.inl ⟨by rfl, ?_⟩) hHeld ?_ ?_
  rotate_left
  ·
   rintro w' ⟨s0, s1, s2, s3, s4, s5, s6, s7⟩
   go_simp
   with_reducible rfl
  rotate_left
  ·
   simp only [Act.put, List.setIfInBounds_toArray, List.set_cons_zero, List.set_cons_succ, i64_w, i32_w]
   rfl
  refine take_ (i := 4) (N := some 41) (v := ?_) (a' := ?_) #[true, false, true, false, true, false, false, false, false, false] rfl rfl (take_ofW HT_.out HW_.out (by kernel_rfl)) (fun _ _ _ h => h) (Or.inl ⟨by rfl, ?_⟩) hHeld ?_ ?_
  rotate_left
  ·
   rintro w' ⟨s0, s1, s2, s3, s4, s5, s6, s7⟩
   go_simp
   with_reducible rfl
  rotate_left
  ·
   simp only [Act.put, List.setIfInBounds_toArray, List.set_cons_zero, List.set_cons_succ, i64_w, i32_w]
   rfl
  refine one_ (i := 1) (N := some 38) #[true, true, true, false, true, false, false, false, false, false] rfl rfl (one_of HT_.out (by kernel_rfl)) (by decide) (fun K hK => ?_)
  refine goes_ Tryd.func14 (by kernel_rfl) rfl #[.agg #[.int .i64 t379, .int .i64 t380, .int .i64 t381, .int .i64 t382]] (by rfl) rfl rfl (by (try simp only [List.map_toArray, List.map_cons, List.map_nil]); first | done | rfl | (simp only [List.length_drop, List.length_take]; rfl)) ?_
  with_reducible refine (gleeref1_IntervalFault.calls k t379 t380 t381 t382 t395 _ A5.out).mono ?_
  rintro e w32 ⟨rfl, hb⟩
  refine ⟨_, rfl, ?_⟩
  replace HI378 := Ad.mk (IsS25.below (by repeat (first | (with_reducible first | exact HI378.out | apply IsS25.drewN | apply IsS25.drew) | exact HI378.out)) hb)
  replace BK392 := Ad.mk (qkb (by exact BK392.out) hb)
  replace BK393 := Ad.mk (qkb (by exact BK393.out) hb)
  replace BK394 := Ad.mk (qkb (by exact BK394.out) hb)
  replace HB := Ad.mk (qbt (by repeat (first | (with_reducible first | exact HB.out | apply qbn | apply qb1) | exact HB.out)) hb)
  (try clear hb)
  (try clear hb2)
  (try clear hk)
  (try clear hi)
  refine hK.out _ _ ⟨(qkc BK392.out 0).trans rfl, (qkc BK392.out 1).trans rfl, (qkc BK392.out 2).trans rfl, (qkc BK392.out 3).trans rfl, (qkc BK393.out 0).trans rfl, (qkc BK393.out 1).trans rfl, (qkc BK393.out 2).trans rfl, (qkc BK393.out 3).trans rfl⟩ (fun hHeld => ?_)
  clear hK K
  refine norm_ (a' := ?_) ?_ ?_
  rotate_left
  ·
   show Act.put _ (some 38) _ = _
   simp only [Act.put, List.setIfInBounds_toArray, List.set_cons_zero, List.set_cons_succ, i64_w, i32_w]
   rfl
  refine one_ (i := 3) (N := some 40) #[true, true, true, true, true, false, false, false, false, false] rfl rfl (one_of HT_.out (by kernel_rfl)) (by decide) (fun K hK => ?_)
  refine goes_ Tryd.func14 (by kernel_rfl) rfl #[.agg #[.int .i64 t379, .int .i64 t380, .int .i64 t381, .int .i64 t382]] (by rfl) rfl rfl (by (try simp only [List.map_toArray, List.map_cons, List.map_nil]); first | done | rfl | (simp only [List.length_drop, List.length_take]; rfl)) ?_
  with_reducible refine (gleeref1_IntervalFault.calls k t379 t380 t381 t382 t396 _ A6.out).mono ?_
  rintro e w33 ⟨rfl, hb⟩
  refine ⟨_, rfl, ?_⟩
  replace HI378 := Ad.mk (IsS25.below (by repeat (first | (with_reducible first | exact HI378.out | apply IsS25.drewN | apply IsS25.drew) | exact HI378.out)) hb)
  replace BK392 := Ad.mk (qkb (by exact BK392.out) hb)
  replace BK393 := Ad.mk (qkb (by exact BK393.out) hb)
  replace BK394 := Ad.mk (qkb (by exact BK394.out) hb)
  replace HB := Ad.mk (qbt (by repeat (first | (with_reducible first | exact HB.out | apply qbn | apply qb1) | exact HB.out)) hb)
  (try clear hb)
  (try clear hb2)
  (try clear hk)
  (try clear hi)
  refine hK.out _ _ ⟨(qkc BK392.out 0).trans rfl, (qkc BK392.out 1).trans rfl, (qkc BK392.out 2).trans rfl, (qkc BK392.out 3).trans rfl, (qkc BK393.out 0).trans rfl, (qkc BK393.out 1).trans rfl, (qkc BK393.out 2).trans rfl, (qkc BK393.out 3).trans rfl⟩ (fun hHeld => ?_)
  clear hK K
  refine norm_ (a' := ?_) ?_ ?_
  rotate_left
  ·
   show Act.put _ (some 40) _ = _
   simp only [Act.put, List.setIfInBounds_toArray, List.set_cons_zero, List.set_cons_succ, i64_w, i32_w]
   rfl
  refine one_ (i := 5) (N := some 42) #[true, true, true, true, true, true, false, false, false, false] rfl rfl (one_of HT_.out (by kernel_rfl)) (by decide) (fun K hK => ?_)
  refine goes_ Tryd.func14 (by kernel_rfl) rfl #[.agg #[.int .i64 t384, .int .i64 t385, .int .i64 t386, .int .i64 t387]] (by rfl) rfl rfl (by (try simp only [List.map_toArray, List.map_cons, List.map_nil]); first | done | rfl | (simp only [List.length_drop, List.length_take]; rfl)) ?_
  with_reducible refine (gleeref1_IntervalFault.calls k t384 t385 t386 t387 t397 _ A7.out).mono ?_
  rintro e w34 ⟨rfl, hb⟩
  refine ⟨_, rfl, ?_⟩
  replace HI378 := Ad.mk (IsS25.below (by repeat (first | (with_reducible first | exact HI378.out | apply IsS25.drewN | apply IsS25.drew) | exact HI378.out)) hb)
  replace BK392 := Ad.mk (qkb (by exact BK392.out) hb)
  replace BK393 := Ad.mk (qkb (by exact BK393.out) hb)
  replace BK394 := Ad.mk (qkb (by exact BK394.out) hb)
  replace HB := Ad.mk (qbt (by repeat (first | (with_reducible first | exact HB.out | apply qbn | apply qb1) | exact HB.out)) hb)
  (try clear hb)
  (try clear hb2)
  (try clear hk)
  (try clear hi)
  refine hK.out _ _ ⟨(qkc BK392.out 0).trans rfl, (qkc BK392.out 1).trans rfl, (qkc BK392.out 2).trans rfl, (qkc BK392.out 3).trans rfl, (qkc BK393.out 0).trans rfl, (qkc BK393.out 1).trans rfl, (qkc BK393.out 2).trans rfl, (qkc BK393.out 3).trans rfl⟩ (fun hHeld => ?_)
  clear hK K
  refine norm_ (a' := ?_) ?_ ?_
  rotate_left
  ·
   show Act.put _ (some 42) _ = _
   simp only [Act.put, List.setIfInBounds_toArray, List.set_cons_zero, List.set_cons_succ, i64_w, i32_w]
   rfl
  refine one_ (i := 6) (N := some 43) #[true, true, true, true, true, true, true, false, false, false] rfl rfl (one_of HT_.out (by kernel_rfl)) (by decide) (fun K hK => ?_)
  refine Kd.R_lit_step (Kd.int .i64) _ 32 ?hg (N := 43) ?hd (xs := ([t396, t397] : List Int)) (inner := [.int .i64 t396, .int .i64 t397]) (ok := fun _ => True) (okp := fun _ => True) ?hr ?hp (fun _ hk => hk) trivial (Below.refl _ _) (Nat.le_refl _) (by simp) ?_; (case hd => rfl); (case hg => rfl); (case hr => first | (go_simp; done) | (go_simp; rfl)); (case hp => exact (Reps.one (show Kd.M (Kd.int .i64) _ _ _ t396 [.int .i64 t396] from rfl) (Reps.one (show Kd.M (Kd.int .i64) _ _ _ t397 [.int .i64 t397] from rfl) (Reps.none _ _))))
  intro v399 w35 ho36 hb hg_ hnew_
  clear hg_ hnew_
  (first | rw [← Ny398.out] at ho36 | (simp only [Int.reduceToNat] at ho36; rw [← Ny398.out] at ho36))
  have HO400 := Ad.mk (Kd.R_lower ho36 (qbz (by repeat (first | (with_reducible first | exact HB.out | apply qbn | apply qb1) | exact HB.out))))
  replace HI378 := Ad.mk (IsS25.below (by repeat (first | (with_reducible first | exact HI378.out | apply IsS25.drewN | apply IsS25.drew) | exact HI378.out)) hb)
  replace BK392 := Ad.mk (qkb (by exact BK392.out) hb)
  replace BK393 := Ad.mk (qkb (by exact BK393.out) hb)
  replace BK394 := Ad.mk (qkb (by exact BK394.out) hb)
  replace HB := Ad.mk (qbt (by repeat (first | (with_reducible first | exact HB.out | apply qbn | apply qb1) | exact HB.out)) hb)
  clear hb ho36
  obtain ⟨Ao37, co37, eo37⟩ := Kd.R_slice HO400.out
  (first | subst eo37 | (injection eo37 with f1_ f2_ f3_; have f4_ := f1_.symm; have f5_ := f3_.symm; clear f1_ f2_ f3_; subst f4_; subst f5_))
  refine hK.out _ _ ⟨(qkc BK392.out 0).trans rfl, (qkc BK392.out 1).trans rfl, (qkc BK392.out 2).trans rfl, (qkc BK392.out 3).trans rfl, (qkc BK393.out 0).trans rfl, (qkc BK393.out 1).trans rfl, (qkc BK393.out 2).trans rfl, (qkc BK393.out 3).trans rfl⟩ (fun hHeld => ?_)
  clear hK K
  refine norm_ (a' := ?_) ?_ ?_
  rotate_left
  ·
   show Act.put _ (some 43) _ = _
   simp only [Act.put, List.setIfInBounds_toArray, List.set_cons_zero, List.set_cons_succ, i64_w, i32_w]
   rfl
  refine one_ (i := 7) (N := some 44) #[true, true, true, true, true, true, true, true, false, false] rfl rfl (one_of HT_.out (by kernel_rfl)) (by decide) (fun K hK => ?_)
  refine goes_ Tryd.func15 (by kernel_rfl) rfl #[.slice Ao37 y398.length co37] (by rfl) rfl rfl (by (try simp only [List.map_toArray, List.map_cons, List.map_nil]); first | done | rfl | (simp only [List.length_drop, List.length_take]; rfl)) ?_
  with_reducible refine (api_Errno.calls k _ _ y398 t401 _ ?side1 ?side2 A8.out).mono ?_
  (case side1 => repeat (first | exact (Kd.R_reads' HO400.out).2.2 | (with_reducible refine Kd.C_alloc ?_ _) | (with_reducible refine Kd.C_drewN ?_ _) | (with_reducible refine Kd.C_drew ?_)))
  (case side2 => exact (Kd.R_reads' HO400.out).2.1)
  rintro e w' ⟨rfl, ⟨nd, rfl⟩⟩
  refine ⟨_, rfl, ?_⟩
  refine hK.out _ _ ⟨(qkc BK392.out 0).trans rfl, (qkc BK392.out 1).trans rfl, (qkc BK392.out 2).trans rfl, (qkc BK392.out 3).trans rfl, (qkc BK393.out 0).trans rfl, (qkc BK393.out 1).trans rfl, (qkc BK393.out 2).trans rfl, (qkc BK393.out 3).trans rfl⟩ (fun hHeld => ?_)
  clear hK K
  refine norm_ (a' := ?_) ?_ ?_
  rotate_left
  ·
   show Act.put _ (some 44) _ = _
   simp only [Act.put, List.setIfInBounds_toArray, List.set_cons_zero, List.set_cons_succ, i64_w, i32_w]
   rfl
  refine pure_ (i := 8) (N := some 7) (v := ?_) (a' := ?_) #[true, true, true, true, true, true, true, true, true, false] rfl rfl (any_of HT_.out (by kernel_rfl)) (fun _ _ _ h => h) (Or.inl ⟨by rfl, ?_⟩) ?_ ?_
  rotate_left
  ·
   intro w'
   go_simp
   with_reducible rfl
  rotate_left
  ·
   simp only [Act.put, List.setIfInBounds_toArray, List.set_cons_zero, List.set_cons_succ, i64_w, i32_w]
   rfl
  refine pure_ (i := 9) (N := some 8) (v := ?_) (a' := ?_) #[true, true, true, true, true, true, true, true, true, true] rfl rfl (any_of HT_.out (by kernel_rfl)) (fun _ _ _ h => h) (Or.inl ⟨by rfl, ?_⟩) ?_ ?_
  rotate_left
  ·
   intro w'
   go_simp
   with_reducible rfl
  rotate_left
  ·
   simp only [Act.put, List.setIfInBounds_toArray, List.set_cons_zero, List.set_cons_succ, i64_w, i32_w]
   rfl
  refine done_ (done_of HT_.out (by kernel_rfl)) ?_
  have hcz38_0 : w35.cell? ⟨gb392, 0, none⟩ = some (.int .i64 t379) := (qkc BK392.out 0).trans rfl
  have hcz38_1 : w35.cell? ⟨gb392, 1, none⟩ = some (.int .i64 t380) := (qkc BK392.out 1).trans rfl
  have hcz38_2 : w35.cell? ⟨gb392, 2, none⟩ = some (.int .i64 t381) := (qkc BK392.out 2).trans rfl
  have hcz38_3 : w35.cell? ⟨gb392, 3, none⟩ = some (.int .i64 t382) := (qkc BK392.out 3).trans rfl
  have hfz38_0 := qkz BK392.out 0
  have hfz38_1 := qkz BK392.out 1
  have hfz38_2 := qkz BK392.out 2
  have hfz38_3 := qkz BK392.out 3
  go_upto_region 8 with (first | ((with_reducible refine qgc (f := 16) rfl ?_); refine goesL_ (some 46) rfl rfl Tryd.func16 (by kernel_rfl) rfl #[.agg #[.int .i64 t379, .int .i64 t380, .int .i64 t381, .int .i64 t382]] rfl (by (try simp only [List.map_toArray, List.map_cons, List.map_nil]); first | done | rfl) ?_; (with_reducible refine (tune_CheckInterval.calls t379 t380 t381 t382 t402 _ A9.out).mono ?_); rintro e w39 ⟨rfl, hb⟩; refine ⟨_, rfl, ?_⟩; replace HO400 := Ad.mk (Kd.R_below (by (with_reducible repeat (first | apply Kd.R_alloc | apply Kd.R_drewN | apply Kd.R_drew)); exact HO400.out) hb); replace HI378 := Ad.mk (IsS25.below (by repeat (first | (with_reducible first | exact HI378.out | apply IsS25.drewN | apply IsS25.drew) | exact HI378.out)) hb); replace BK392 := Ad.mk (qkb (by exact BK392.out) hb); replace BK393 := Ad.mk (qkb (by exact BK393.out) hb); replace BK394 := Ad.mk (qkb (by exact BK394.out) hb); replace HB := Ad.mk (qbt (by repeat (first | (with_reducible first | exact HB.out | apply qbn | apply qb1) | exact HB.out)) hb); (try clear hb); have hcz40_0 : w39.cell? ⟨gb394, 0, none⟩ = some (.int .i64 t389) := (qkc BK394.out 0).trans rfl; have hcz40_1 : w39.cell? ⟨gb394, 1, none⟩ = some (.int .i64 t390) := (qkc BK394.out 1).trans rfl; have hfz40_0 := qkz BK394.out 0; have hfz40_1 := qkz BK394.out 1) | ((with_reducible refine qgc (f := 17) rfl ?_); refine goesL_ (some 51) rfl rfl Tryd.func17 (by kernel_rfl) rfl #[.agg #[.int .i64 t389, .int .i64 t390]] rfl (by (try simp only [List.map_toArray, List.map_cons, List.map_nil]); first | done | rfl) ?_; (with_reducible refine (tune_Of.calls k t389 t390 t403 t404 t405 t406 t407 _ A11.out).mono ?_); rintro e w41 ⟨rfl, hb⟩; refine ⟨_, rfl, ?_⟩; replace HO400 := Ad.mk (Kd.R_below (by (with_reducible repeat (first | apply Kd.R_alloc | apply Kd.R_drewN | apply Kd.R_drew)); exact HO400.out) hb); replace HI378 := Ad.mk (IsS25.below (by repeat (first | (with_reducible first | exact HI378.out | apply IsS25.drewN | apply IsS25.drew) | exact HI378.out)) hb); replace BK392 := Ad.mk (qkb (by exact BK392.out) hb); replace BK393 := Ad.mk (qkb (by exact BK393.out) hb); replace BK394 := Ad.mk (qkb (by exact BK394.out) hb); replace HB := Ad.mk (qbt (by repeat (first | (with_reducible first | exact HB.out | apply qbn | apply qb1) | exact HB.out)) hb); (try clear hb)) | ((with_reducible refine qgd (N := 9) rfl ?_); refine qbe ?hg (N := 9) ?hd (cs := #[.int .i64 0, .int .i64 0, .int .i64 0, .int .i64 0]) (t := 27) ?hr ?_; (case hd => rfl); (case hg => rfl); (case hr => first | (go_simp; done) | (go_simp; rfl)); intro gb408 hg w42 hbox hb; have BK408 := Ad.mk (hbox); have GW408 := Ad.mk ((by rw [hg]; exact (qbz (by repeat (first | (with_reducible first | exact HB.out | apply qbn | apply qb1) | exact HB.out))) : w.heap.size ≤ gb408)); have GE408 := Ad.mk ((by rw [hg]; exact (qbz (by repeat (first | (with_reducible first | exact HB.out | apply qbn | apply qb1) | exact HB.out))) : w.heap.size ≤ gb408)); have NB392_408 := Ad.mk ((by rw [hg]; exact Nat.ne_of_lt (qkl (by exact BK392.out)) : gb392 ≠ gb408)); have NB408_392 := Ad.mk ((by rw [hg]; exact Nat.ne_of_gt (qkl (by exact BK392.out)) : gb408 ≠ gb392)); have NB393_408 := Ad.mk ((by rw [hg]; exact Nat.ne_of_lt (qkl (by exact BK393.out)) : gb393 ≠ gb408)); have NB408_393 := Ad.mk ((by rw [hg]; exact Nat.ne_of_gt (qkl (by exact BK393.out)) : gb408 ≠ gb393)); have NB394_408 := Ad.mk ((by rw [hg]; exact Nat.ne_of_lt (qkl (by exact BK394.out)) : gb394 ≠ gb408)); have NB408_394 := Ad.mk ((by rw [hg]; exact Nat.ne_of_gt (qkl (by exact BK394.out)) : gb408 ≠ gb394)); have NB378_408 := Ad.mk ((by rw [hg]; exact Nat.ne_of_lt (IsS25.lt (show IsS25 w _ gb378 l0 t391 from by repeat (first | (with_reducible first | exact HI378.out | apply IsS25.drewN | apply IsS25.drew) | exact HI378.out))) : gb378 ≠ gb408)); have NB408_378 := Ad.mk ((by rw [hg]; exact Nat.ne_of_gt (IsS25.lt (show IsS25 w _ gb378 l0 t391 from by repeat (first | (with_reducible first | exact HI378.out | apply IsS25.drewN | apply IsS25.drew) | exact HI378.out))) : gb408 ≠ gb378)); replace HO400 := Ad.mk (Kd.R_below (by (with_reducible repeat (first | apply Kd.R_alloc | apply Kd.R_drewN | apply Kd.R_drew)); exact HO400.out) hb); replace HI378 := Ad.mk (IsS25.below (by repeat (first | (with_reducible first | exact HI378.out | apply IsS25.drewN | apply IsS25.drew) | exact HI378.out)) hb); replace BK392 := Ad.mk (qkb (by exact BK392.out) hb); replace BK393 := Ad.mk (qkb (by exact BK393.out) hb); replace BK394 := Ad.mk (qkb (by exact BK394.out) hb); replace HB := Ad.mk (qbt (by repeat (first | (with_reducible first | exact HB.out | apply qbn | apply qb1) | exact HB.out)) hb); clear hb hbox hg; have hnb43 := NB408_392.out; have hnc43 := NB392_408.out; have hnb44 := NB408_393.out; have hnc44 := NB393_408.out; have hnb45 := NB408_394.out; have hnc45 := NB394_408.out; have hnb46 := NB408_378.out; have hnc46 := NB378_408.out; have hcz47_0 : w42.cell? ⟨gb408, 0, none⟩ = some (.int .i64 0) := (qkc BK408.out 0).trans rfl; have hcz47_1 : w42.cell? ⟨gb408, 1, none⟩ = some (.int .i64 0) := (qkc BK408.out 1).trans rfl; have hcz47_2 : w42.cell? ⟨gb408, 2, none⟩ = some (.int .i64 0) := (qkc BK408.out 2).trans rfl; have hcz47_3 : w42.cell? ⟨gb408, 3, none⟩ = some (.int .i64 0) := (qkc BK408.out 3).trans rfl; have hfz47_0 := qkz BK408.out 0; have hfz47_1 := qkz BK408.out 1; have hfz47_2 := qkz BK408.out 2; have hfz47_3 := qkz BK408.out 3; have hcz48_0 : w42.cell? ⟨gb394, 0, none⟩ = some (.int .i64 t389) := (qkc BK394.out 0).trans rfl; have hcz48_1 : w42.cell? ⟨gb394, 1, none⟩ = some (.int .i64 t390) := (qkc BK394.out 1).trans rfl; have hfz48_0 := qkz BK394.out 0; have hfz48_1 := qkz BK394.out 1) | ((with_reducible refine qgc (f := 18) rfl ?_); refine goesL_ (some 56) rfl rfl Tryd.func18 (by kernel_rfl) rfl #[.agg #[.int .i64 t389, .int .i64 t390]] rfl (by (try simp only [List.map_toArray, List.map_cons, List.map_nil]); first | done | rfl) ?_; (with_reducible refine (gleeref1_IntervalOf.calls k t389 t390 t409 t410 t411 t412 t413 _ A12.out).mono ?_); rintro e w49 ⟨rfl, hb⟩; refine ⟨_, rfl, ?_⟩; replace HO400 := Ad.mk (Kd.R_below (by (with_reducible repeat (first | apply Kd.R_alloc | apply Kd.R_drewN | apply Kd.R_drew)); exact (Kd.R_mono (Kd.R_far (p := ⟨gb408, 3, none⟩) (Kd.R_far (p := ⟨gb408, 2, none⟩) (Kd.R_far (p := ⟨gb408, 1, none⟩) (Kd.R_far (p := ⟨gb408, 0, none⟩) (Kd.R_types HO400.out BK408.out (by decide)) (fun _ hk => hk.2) (.int .i64 t403)) (fun _ hk => hk.2) (.int .i64 t404)) (fun _ hk => hk.2) (.int .i64 t405)) (fun _ hk => hk.2) (.int .i64 t406)) (fun _ h_ => h_.1))) hb); replace HI378 := Ad.mk (IsS25.below (show IsS25 w ((((w42.setCell ⟨gb408, 0, none⟩ (.int .i64 t403)).setCell ⟨gb408, 1, none⟩ (.int .i64 t404)).setCell ⟨gb408, 2, none⟩ (.int .i64 t405)).setCell ⟨gb408, 3, none⟩ (.int .i64 t406)) gb378 l0 t391 from by repeat (first | (with_reducible first | exact HI378.out | apply IsS25.drewN | apply IsS25.drew | refine IsS25.far ?_ NB378_408.out _) | exact HI378.out)) hb); replace BK392 := Ad.mk (qkb (g := gb392) (o := .cells #[.int .i64 t379, .int .i64 t380, .int .i64 t381, .int .i64 t382] 27 (0, 0)) (by (iterate 4 ((with_reducible repeat (first | apply qkn | apply qkd)); refine qkf ?_ NB392_408.out _)); (with_reducible repeat (first | apply qkn | apply qkd)); exact BK392.out) hb); replace BK393 := Ad.mk (qkb (g := gb393) (o := .cells #[.int .i64 t384, .int .i64 t385, .int .i64 t386, .int .i64 t387] 27 (0, 0)) (by (iterate 4 ((with_reducible repeat (first | apply qkn | apply qkd)); refine qkf ?_ NB393_408.out _)); (with_reducible repeat (first | apply qkn | apply qkd)); exact BK393.out) hb); replace BK394 := Ad.mk (qkb (g := gb394) (o := .cells #[.int .i64 t389, .int .i64 t390] 30 (0, 0)) (by (iterate 4 ((with_reducible repeat (first | apply qkn | apply qkd)); refine qkf ?_ NB394_408.out _)); (with_reducible repeat (first | apply qkn | apply qkd)); exact BK394.out) hb); replace BK408 := Ad.mk (qkb (g := gb408) (o := .cells #[.int .i64 t403, .int .i64 t404, .int .i64 t405, .int .i64 t406] 27 (0, 0)) (by (with_reducible repeat (first | apply qkn | apply qkd)); refine qkp (cs := #[.int .i64 t403, .int .i64 t404, .int .i64 t405, .int .i64 0]) ?_ 3 _ rfl; (with_reducible repeat (first | apply qkn | apply qkd)); refine qkp (cs := #[.int .i64 t403, .int .i64 t404, .int .i64 0, .int .i64 0]) ?_ 2 _ rfl; (with_reducible repeat (first | apply qkn | apply qkd)); refine qkp (cs := #[.int .i64 t403, .int .i64 0, .int .i64 0, .int .i64 0]) ?_ 1 _ rfl; (with_reducible repeat (first | apply qkn | apply qkd)); refine qkp (cs := #[.int .i64 0, .int .i64 0, .int .i64 0, .int .i64 0]) ?_ 0 _ rfl; (with_reducible repeat (first | apply qkn | apply qkd)); exact BK408.out) hb); replace HB := Ad.mk (qbt (by repeat (first | (with_reducible first | exact HB.out | apply qbn | apply qb1 | refine qbs ?_ GE408.out) | exact HB.out)) hb); (try clear hb); (try clear hk)) | ((with_reducible refine qgd (N := 11) rfl ?_); refine qbe ?hg (N := 11) ?hd (cs := #[.int .i64 0, .int .i64 0, .int .i64 0, .int .i64 0]) (t := 27) ?hr ?_; (case hd => rfl); (case hg => rfl); (case hr => first | (go_simp; done) | (go_simp; rfl)); intro gb414 hg w50 hbox hb; have BK414 := Ad.mk (hbox); have GW414 := Ad.mk ((by rw [hg]; exact (qbz (by repeat (first | (with_reducible first | exact HB.out | apply qbn | apply qb1) | exact HB.out))) : w.heap.size ≤ gb414)); have GE414 := Ad.mk ((by rw [hg]; exact (qbz (by repeat (first | (with_reducible first | exact HB.out | apply qbn | apply qb1) | exact HB.out))) : w.heap.size ≤ gb414)); have NB392_414 := Ad.mk ((by rw [hg]; exact Nat.ne_of_lt (qkl (by exact BK392.out)) : gb392 ≠ gb414)); have NB414_392 := Ad.mk ((by rw [hg]; exact Nat.ne_of_gt (qkl (by exact BK392.out)) : gb414 ≠ gb392)); have NB393_414 := Ad.mk ((by rw [hg]; exact Nat.ne_of_lt (qkl (by exact BK393.out)) : gb393 ≠ gb414)); have NB414_393 := Ad.mk ((by rw [hg]; exact Nat.ne_of_gt (qkl (by exact BK393.out)) : gb414 ≠ gb393)); have NB394_414 := Ad.mk ((by rw [hg]; exact Nat.ne_of_lt (qkl (by exact BK394.out)) : gb394 ≠ gb414)); have NB414_394 := Ad.mk ((by rw [hg]; exact Nat.ne_of_gt (qkl (by exact BK394.out)) : gb414 ≠ gb394)); have NB408_414 := Ad.mk ((by rw [hg]; exact Nat.ne_of_lt (qkl (by exact BK408.out)) : gb408 ≠ gb414)); have NB414_408 := Ad.mk ((by rw [hg]; exact Nat.ne_of_gt (qkl (by exact BK408.out)) : gb414 ≠ gb408)); have NB378_414 := Ad.mk ((by rw [hg]; exact Nat.ne_of_lt (IsS25.lt (show IsS25 w _ gb378 l0 t391 from by repeat (first | (with_reducible first | exact HI378.out | apply IsS25.drewN | apply IsS25.drew) | exact HI378.out))) : gb378 ≠ gb414)); have NB414_378 := Ad.mk ((by rw [hg]; exact Nat.ne_of_gt (IsS25.lt (show IsS25 w _ gb378 l0 t391 from by repeat (first | (with_reducible first | exact HI378.out | apply IsS25.drewN | apply IsS25.drew) | exact HI378.out))) : gb414 ≠ gb378)); replace HO400 := Ad.mk (Kd.R_below (by (with_reducible repeat (first | apply Kd.R_alloc | apply Kd.R_drewN | apply Kd.R_drew)); exact HO400.out) hb); replace HI378 := Ad.mk (IsS25.below (by repeat (first | (with_reducible first | exact HI378.out | apply IsS25.drewN | apply IsS25.drew) | exact HI378.out)) hb); replace BK392 := Ad.mk (qkb (by exact BK392.out) hb); replace BK393 := Ad.mk (qkb (by exact BK393.out) hb); replace BK394 := Ad.mk (qkb (by exact BK394.out) hb); replace BK408 := Ad.mk (qkb (by exact BK408.out) hb); replace HB := Ad.mk (qbt (by repeat (first | (with_reducible first | exact HB.out | apply qbn | apply qb1) | exact HB.out)) hb); clear hb hbox hg; have hnb51 := NB414_392.out; have hnc51 := NB392_414.out; have hnb52 := NB414_393.out; have hnc52 := NB393_414.out; have hnb53 := NB414_394.out; have hnc53 := NB394_414.out; have hnb54 := NB414_408.out; have hnc54 := NB408_414.out; have hnb55 := NB414_378.out; have hnc55 := NB378_414.out; have hcz56_0 : w50.cell? ⟨gb414, 0, none⟩ = some (.int .i64 0) := (qkc BK414.out 0).trans rfl; have hcz56_1 : w50.cell? ⟨gb414, 1, none⟩ = some (.int .i64 0) := (qkc BK414.out 1).trans rfl; have hcz56_2 : w50.cell? ⟨gb414, 2, none⟩ = some (.int .i64 0) := (qkc BK414.out 2).trans rfl; have hcz56_3 : w50.cell? ⟨gb414, 3, none⟩ = some (.int .i64 0) := (qkc BK414.out 3).trans rfl; have hfz56_0 := qkz BK414.out 0; have hfz56_1 := qkz BK414.out 1; have hfz56_2 := qkz BK414.out 2; have hfz56_3 := qkz BK414.out 3))
  (try simp only [Act.put, List.setIfInBounds_toArray, List.set_cons_zero, List.set_cons_succ])
  go_cut [66] (fun v66 wc => ∃ (kq : Nat) (x66_12 : Bool), v66 = .bool x66_12 ∧ Ad (gleelaw1_IntervalsCounted.j0 kq t395 t401 x66_12 t379 t380 t381 t382 t384 t385 t386 t387 = some r) ∧ Ad (kq ≤ k) ∧ Ad (wc.heap[gb392]? = some (.cells #[.int .i64 t379, .int .i64 t380, .int .i64 t381, .int .i64 t382] 27 (0, 0))) ∧ Ad (wc.heap[gb393]? = some (.cells #[.int .i64 t384, .int .i64 t385, .int .i64 t386, .int .i64 t387] 27 (0, 0))) ∧ Ad (wc.heap[gb394]? = some (.cells #[.int .i64 t389, .int .i64 t390] 30 (0, 0))) ∧ Ad (wc.heap[gb408]? = some (.cells #[.int .i64 t403, .int .i64 t404, .int .i64 t405, .int .i64 t406] 27 (0, 0))) ∧ Ad (wc.heap[gb414]? = some (.cells #[.int .i64 t409, .int .i64 t410, .int .i64 t411, .int .i64 t412] 27 (0, 0))) ∧ Ad (Below w.heap.size w wc))
  case first =>
   have H := HC13.out
   clear HC13
   by_cases c57 : t407 = t413
   ·
    rw [if_pos c57] at H
    have c57b0 : (t407 == t413) = true := beq_iff_eq.mpr c57
    have c57b1 : (t407 != t413) = false := bne_eq_false_iff_eq.mpr c57
    clear c57
    (first | rw [c57b0] | (simp only [i64_w, i32_w]; rw [c57b0]) | skip)
    have H' := Ad.mk H
    clear H
    have hnb58 := NB408_392.out
    have hnc58 := NB392_408.out
    have hnb59 := NB408_393.out
    have hnc59 := NB393_408.out
    have hnb60 := NB408_394.out
    have hnc60 := NB394_408.out
    have hnb61 := NB408_414.out
    have hnc61 := NB414_408.out
    have hnb62 := NB408_378.out
    have hnc62 := NB378_408.out
    have hcz63_0 : w50.cell? ⟨gb408, 0, none⟩ = some (.int .i64 t403) := (qkc BK408.out 0).trans rfl
    have hcz63_1 : w50.cell? ⟨gb408, 1, none⟩ = some (.int .i64 t404) := (qkc BK408.out 1).trans rfl
    have hcz63_2 : w50.cell? ⟨gb408, 2, none⟩ = some (.int .i64 t405) := (qkc BK408.out 2).trans rfl
    have hcz63_3 : w50.cell? ⟨gb408, 3, none⟩ = some (.int .i64 t406) := (qkc BK408.out 3).trans rfl
    have hfz63_0 := qkz BK408.out 0
    have hfz63_1 := qkz BK408.out 1
    have hfz63_2 := qkz BK408.out 2
    have hfz63_3 := qkz BK408.out 3
    have hnb64 := NB414_392.out
    have hnc64 := NB392_414.out
    have hnb65 := NB414_393.out
    have hnc65 := NB393_414.out
    have hnb66 := NB414_394.out
    have hnc66 := NB394_414.out
    have hnb67 := NB414_378.out
    have hnc67 := NB378_414.out
    have hcz68_0 : w50.cell? ⟨gb414, 0, none⟩ = some (.int .i64 0) := (qkc BK414.out 0).trans rfl
    have hcz68_1 : w50.cell? ⟨gb414, 1, none⟩ = some (.int .i64 0) := (qkc BK414.out 1).trans rfl
    have hcz68_2 : w50.cell? ⟨gb414, 2, none⟩ = some (.int .i64 0) := (qkc BK414.out 2).trans rfl
    have hcz68_3 : w50.cell? ⟨gb414, 3, none⟩ = some (.int .i64 0) := (qkc BK414.out 3).trans rfl
    have hfz68_0 := qkz BK414.out 0
    have hfz68_1 := qkz BK414.out 1
    have hfz68_2 := qkz BK414.out 2
    have hfz68_3 := qkz BK414.out 3
    go_wp2
    go_meet
    case rel => exact ⟨_, ((!(t403 == t409) || (!(t404 == t410) || (!(t405 == t411) || (!(t406 == t412)))))), (by first | rfl | (simp; done) | (simp [*]; done)), H', ⟨by first | omega | exact Nat.le_refl _⟩, ⟨by (iterate 4 ((with_reducible repeat (first | apply qkn | apply qkd)); refine qkf ?_ NB392_414.out _)); (with_reducible repeat (first | apply qkn | apply qkd)); exact BK392.out⟩, ⟨by (iterate 4 ((with_reducible repeat (first | apply qkn | apply qkd)); refine qkf ?_ NB393_414.out _)); (with_reducible repeat (first | apply qkn | apply qkd)); exact BK393.out⟩, ⟨by (iterate 4 ((with_reducible repeat (first | apply qkn | apply qkd)); refine qkf ?_ NB394_414.out _)); (with_reducible repeat (first | apply qkn | apply qkd)); exact BK394.out⟩, ⟨by (iterate 4 ((with_reducible repeat (first | apply qkn | apply qkd)); refine qkf ?_ NB408_414.out _)); (with_reducible repeat (first | apply qkn | apply qkd)); exact BK408.out⟩, ⟨by (with_reducible repeat (first | apply qkn | apply qkd)); refine qkp (cs := #[.int .i64 t409, .int .i64 t410, .int .i64 t411, .int .i64 0]) ?_ 3 _ rfl; (with_reducible repeat (first | apply qkn | apply qkd)); refine qkp (cs := #[.int .i64 t409, .int .i64 t410, .int .i64 0, .int .i64 0]) ?_ 2 _ rfl; (with_reducible repeat (first | apply qkn | apply qkd)); refine qkp (cs := #[.int .i64 t409, .int .i64 0, .int .i64 0, .int .i64 0]) ?_ 1 _ rfl; (with_reducible repeat (first | apply qkn | apply qkd)); refine qkp (cs := #[.int .i64 0, .int .i64 0, .int .i64 0, .int .i64 0]) ?_ 0 _ rfl; (with_reducible repeat (first | apply qkn | apply qkd)); exact BK414.out⟩, ⟨by repeat (first | (with_reducible first | exact HB.out | apply qbn | apply qb1 | refine qbs ?_ GE414.out) | exact HB.out)⟩⟩
   ·
    rw [if_neg c57] at H
    have c57b0 : (t407 == t413) = false := beq_eq_false_iff_ne.mpr c57
    have c57b1 : (t407 != t413) = true := bne_iff_ne.mpr c57
    (first | rw [c57b0] | (simp only [i64_w, i32_w]; rw [c57b0]) | skip)
    have H' := Ad.mk H
    clear H
    go_wp2
    go_meet
    case rel => exact ⟨_, (true), (by first | rfl | (simp; done) | (simp [*]; done)), H', ⟨by first | omega | exact Nat.le_refl _⟩, ⟨by (iterate 4 ((with_reducible repeat (first | apply qkn | apply qkd)); refine qkf ?_ NB392_414.out _)); (with_reducible repeat (first | apply qkn | apply qkd)); exact BK392.out⟩, ⟨by (iterate 4 ((with_reducible repeat (first | apply qkn | apply qkd)); refine qkf ?_ NB393_414.out _)); (with_reducible repeat (first | apply qkn | apply qkd)); exact BK393.out⟩, ⟨by (iterate 4 ((with_reducible repeat (first | apply qkn | apply qkd)); refine qkf ?_ NB394_414.out _)); (with_reducible repeat (first | apply qkn | apply qkd)); exact BK394.out⟩, ⟨by (iterate 4 ((with_reducible repeat (first | apply qkn | apply qkd)); refine qkf ?_ NB408_414.out _)); (with_reducible repeat (first | apply qkn | apply qkd)); exact BK408.out⟩, ⟨by (with_reducible repeat (first | apply qkn | apply qkd)); refine qkp (cs := #[.int .i64 t409, .int .i64 t410, .int .i64 t411, .int .i64 0]) ?_ 3 _ rfl; (with_reducible repeat (first | apply qkn | apply qkd)); refine qkp (cs := #[.int .i64 t409, .int .i64 t410, .int .i64 0, .int .i64 0]) ?_ 2 _ rfl; (with_reducible repeat (first | apply qkn | apply qkd)); refine qkp (cs := #[.int .i64 t409, .int .i64 0, .int .i64 0, .int .i64 0]) ?_ 1 _ rfl; (with_reducible repeat (first | apply qkn | apply qkd)); refine qkp (cs := #[.int .i64 0, .int .i64 0, .int .i64 0, .int .i64 0]) ?_ 0 _ rfl; (with_reducible repeat (first | apply qkn | apply qkd)); exact BK414.out⟩, ⟨by repeat (first | (with_reducible first | exact HB.out | apply qbn | apply qb1 | refine qbs ?_ GE414.out) | exact HB.out)⟩⟩
  case rest =>
   clear HC13
   try clear c1
   try clear c2
   try clear p2
   try clear c3
   try clear c4
   try clear c5
   try clear c6
   try clear c10
   try clear c10b0
   try clear c10b1
   try clear c12
   try clear c13
   try clear c14
   try clear c15
   try clear c16
   try clear c17
   try clear c18
   try clear c21
   try clear c22
   try clear c23
   try clear c25
   try clear c26
   try clear c28
   try clear c43
   try clear c44
   try clear c45
   try clear c46
   try clear c51
   try clear c52
   try clear c53
   try clear c54
   try clear c55
   try clear c57
   try clear c57b0
   try clear c57b1
   try clear c58
   try clear c59
   try clear c60
   try clear c61
   try clear c62
   try clear c64
   try clear c65
   try clear c66
   try clear c67
   try clear hcz24_0
   try clear hcz24_1
   try clear hcz24_2
   try clear hcz24_3
   try clear hcz27_0
   try clear hcz27_1
   try clear hcz27_2
   try clear hcz27_3
   try clear hcz29_0
   try clear hcz29_1
   try clear hcz38_0
   try clear hcz38_1
   try clear hcz38_2
   try clear hcz38_3
   try clear hcz40_0
   try clear hcz40_1
   try clear hcz47_0
   try clear hcz47_1
   try clear hcz47_2
   try clear hcz47_3
   try clear hcz48_0
   try clear hcz48_1
   try clear hcz56_0
   try clear hcz56_1
   try clear hcz56_2
   try clear hcz56_3
   try clear hcz63_0
   try clear hcz63_1
   try clear hcz63_2
   try clear hcz63_3
   try clear hcz68_0
   try clear hcz68_1
   try clear hcz68_2
   try clear hcz68_3
   try clear hfz24_0
   try clear hfz24_1
   try clear hfz24_2
   try clear hfz24_3
   try clear hfz27_0
   try clear hfz27_1
   try clear hfz27_2
   try clear hfz27_3
   try clear hfz29_0
   try clear hfz29_1
   try clear hfz38_0
   try clear hfz38_1
   try clear hfz38_2
   try clear hfz38_3
   try clear hfz40_0
   try clear hfz40_1
   try clear hfz47_0
   try clear hfz47_1
   try clear hfz47_2
   try clear hfz47_3
   try clear hfz48_0
   try clear hfz48_1
   try clear hfz56_0
   try clear hfz56_1
   try clear hfz56_2
   try clear hfz56_3
   try clear hfz63_0
   try clear hfz63_1
   try clear hfz63_2
   try clear hfz63_3
   try clear hfz68_0
   try clear hfz68_1
   try clear hfz68_2
   try clear hfz68_3
   obtain ⟨kq, x66_12, rfl, HA, HJ12, BK392, BK393, BK394, BK408, BK414, HB⟩ := hcut
   cases kq with
   | zero => exact absurd HA.out (by simp [gleelaw1_IntervalsCounted.j0])
   | succ kj12 =>
    have H := HA.out
    clear HA
    simp only [gleelaw1_IntervalsCounted.j0] at H
    by_cases c69 : x66_12 = true
    ·
     subst c69
     have H1 : (none) = some r := by rw [if_pos rfl] at H; exact H
     clear H
     have H := H1
     clear H1
     exact absurd H (by simp)
    ·
     replace c69 := Bool.eq_false_iff.mpr c69
     subst c69
     have H1 : ((tune_Quotient.f kj12 t379 t380 t381 t382).bind fun bt415 => ((tune_Within.f kj12 t379 t380 t381 t382).bind fun bt419 => (if t395 = 0 then ((gleeref1_WithinOf.f kj12 t379 t380 t381 t382).bind fun bt426 => (if bt415.2.2 = 0 then ((gleeref1_QuotientOf.f kj12 t379 t380 t381 t382).bind fun bt433 => (if (!(bt415.1 == bt433.1) || (!(bt415.2.1 == bt433.2))) = true then (none) else (if bt419.2.2.2.2.2 = bt426.2.2.2.2.2 then (if (!(bt419.1 == bt426.1) || (!(bt419.2.1 == bt426.2.1) || (!(bt419.2.2.1 == bt426.2.2.1) || (!(bt419.2.2.2.1 == bt426.2.2.2.1))))) = true then (none) else (if bt419.2.2.2.2.1 = bt426.2.2.2.2.1 then (gleelaw1_IntervalsCounted.j1 kj12 t401 t379 t380 t381 t382 t384 t385 t386 t387) else (none))) else (none)))) else (none))) else (if bt415.2.2 = t395 then (if bt419.2.2.2.2.2 = t395 then (if (!(bt415.1 == 0) || (!(bt415.2.1 == 0))) = true then (none) else (if (!(bt419.1 == 0) || (!(bt419.2.1 == 0) || (!(bt419.2.2.1 == 0) || (!(bt419.2.2.2.1 == 0))))) = true then (none) else (if bt419.2.2.2.2.1 = 0 then (gleelaw1_IntervalsCounted.j1 kj12 t401 t379 t380 t381 t382 t384 t385 t386 t387) else (none)))) else (none)) else (none))))) = some r := by rw [if_neg (show ¬ (false = true) by decide)] at H; exact H
     clear H
     have H := H1
     clear H1
     replace H := Option.bind_eq_some_iff.mp H
     obtain ⟨⟨t415, t416, t417⟩, A700, H⟩ := H
     replace H : ((tune_Within.f kj12 t379 t380 t381 t382).bind fun bt419 => (if t395 = 0 then ((gleeref1_WithinOf.f kj12 t379 t380 t381 t382).bind fun bt426 => (if t417 = 0 then ((gleeref1_QuotientOf.f kj12 t379 t380 t381 t382).bind fun bt433 => (if (!(t415 == bt433.1) || (!(t416 == bt433.2))) = true then (none) else (if bt419.2.2.2.2.2 = bt426.2.2.2.2.2 then (if (!(bt419.1 == bt426.1) || (!(bt419.2.1 == bt426.2.1) || (!(bt419.2.2.1 == bt426.2.2.1) || (!(bt419.2.2.2.1 == bt426.2.2.2.1))))) = true then (none) else (if bt419.2.2.2.2.1 = bt426.2.2.2.2.1 then (gleelaw1_IntervalsCounted.j1 kj12 t401 t379 t380 t381 t382 t384 t385 t386 t387) else (none))) else (none)))) else (none))) else (if t417 = t395 then (if bt419.2.2.2.2.2 = t395 then (if (!(t415 == 0) || (!(t416 == 0))) = true then (none) else (if (!(bt419.1 == 0) || (!(bt419.2.1 == 0) || (!(bt419.2.2.1 == 0) || (!(bt419.2.2.2.1 == 0))))) = true then (none) else (if bt419.2.2.2.2.1 = 0 then (gleelaw1_IntervalsCounted.j1 kj12 t401 t379 t380 t381 t382 t384 t385 t386 t387) else (none)))) else (none)) else (none)))) = some r := H
     have A70 := Ad.mk A700
     clear A700
     replace H := Option.bind_eq_some_iff.mp H
     obtain ⟨⟨t419, t420, t421, t422, t423, t424⟩, A710, H⟩ := H
     replace H : (if t395 = 0 then ((gleeref1_WithinOf.f kj12 t379 t380 t381 t382).bind fun bt426 => (if t417 = 0 then ((gleeref1_QuotientOf.f kj12 t379 t380 t381 t382).bind fun bt433 => (if (!(t415 == bt433.1) || (!(t416 == bt433.2))) = true then (none) else (if t424 = bt426.2.2.2.2.2 then (if (!(t419 == bt426.1) || (!(t420 == bt426.2.1) || (!(t421 == bt426.2.2.1) || (!(t422 == bt426.2.2.2.1))))) = true then (none) else (if t423 = bt426.2.2.2.2.1 then (gleelaw1_IntervalsCounted.j1 kj12 t401 t379 t380 t381 t382 t384 t385 t386 t387) else (none))) else (none)))) else (none))) else (if t417 = t395 then (if t424 = t395 then (if (!(t415 == 0) || (!(t416 == 0))) = true then (none) else (if (!(t419 == 0) || (!(t420 == 0) || (!(t421 == 0) || (!(t422 == 0))))) = true then (none) else (if t423 = 0 then (gleelaw1_IntervalsCounted.j1 kj12 t401 t379 t380 t381 t382 t384 t385 t386 t387) else (none)))) else (none)) else (none))) = some r := H
     have A71 := Ad.mk A710
     clear A710
     have HC72 := Ad.mk H
     clear H
     have hnb73 := NB392_393.out
     have hnc73 := NB393_392.out
     have hnb74 := NB392_394.out
     have hnc74 := NB394_392.out
     have hnb75 := NB392_408.out
     have hnc75 := NB408_392.out
     have hnb76 := NB392_414.out
     have hnc76 := NB414_392.out
     have hcz77_0 : wc.cell? ⟨gb392, 0, none⟩ = some (.int .i64 t379) := (qkc BK392.out 0).trans rfl
     have hcz77_1 : wc.cell? ⟨gb392, 1, none⟩ = some (.int .i64 t380) := (qkc BK392.out 1).trans rfl
     have hcz77_2 : wc.cell? ⟨gb392, 2, none⟩ = some (.int .i64 t381) := (qkc BK392.out 2).trans rfl
     have hcz77_3 : wc.cell? ⟨gb392, 3, none⟩ = some (.int .i64 t382) := (qkc BK392.out 3).trans rfl
     have hfz77_0 := qkz BK392.out 0
     have hfz77_1 := qkz BK392.out 1
     have hfz77_2 := qkz BK392.out 2
     have hfz77_3 := qkz BK392.out 3
     go_upto_if 79 with (first | ((with_reducible refine qgc (f := 19) rfl ?_); refine goesL_ (some 69) rfl rfl Tryd.func19 (by kernel_rfl) rfl #[.agg #[.int .i64 t379, .int .i64 t380, .int .i64 t381, .int .i64 t382]] rfl (by (try simp only [List.map_toArray, List.map_cons, List.map_nil]); first | done | rfl) ?_; (with_reducible refine (tune_Quotient.calls kj12 t379 t380 t381 t382 t415 t416 t417 _ A70.out).mono ?_); rintro e w78 ⟨rfl, hb⟩; refine ⟨_, rfl, ?_⟩; replace BK392 := Ad.mk (qkb (by exact BK392.out) hb); replace BK393 := Ad.mk (qkb (by exact BK393.out) hb); replace BK394 := Ad.mk (qkb (by exact BK394.out) hb); replace BK408 := Ad.mk (qkb (by exact BK408.out) hb); replace BK414 := Ad.mk (qkb (by exact BK414.out) hb); replace HB := Ad.mk (qbt (by repeat (first | (with_reducible first | exact HB.out | apply qbn | apply qb1) | exact HB.out)) hb); (try clear hb)) | ((with_reducible refine qgd (N := 13) rfl ?_); refine qbe ?hg (N := 13) ?hd (cs := #[.int .i64 0, .int .i64 0]) (t := 30) ?hr ?_; (case hd => rfl); (case hg => rfl); (case hr => first | (go_simp; done) | (go_simp; rfl)); intro gb418 hg w79 hbox hb; have BK418 := Ad.mk (hbox); have GW418 := Ad.mk ((by rw [hg]; exact (qbz (by repeat (first | (with_reducible first | exact HB.out | apply qbn | apply qb1) | exact HB.out))) : w.heap.size ≤ gb418)); have GE418 := Ad.mk ((by rw [hg]; exact (qbz (by repeat (first | (with_reducible first | exact HB.out | apply qbn | apply qb1) | exact HB.out))) : w.heap.size ≤ gb418)); have NB392_418 := Ad.mk ((by rw [hg]; exact Nat.ne_of_lt (qkl (by exact BK392.out)) : gb392 ≠ gb418)); have NB418_392 := Ad.mk ((by rw [hg]; exact Nat.ne_of_gt (qkl (by exact BK392.out)) : gb418 ≠ gb392)); have NB393_418 := Ad.mk ((by rw [hg]; exact Nat.ne_of_lt (qkl (by exact BK393.out)) : gb393 ≠ gb418)); have NB418_393 := Ad.mk ((by rw [hg]; exact Nat.ne_of_gt (qkl (by exact BK393.out)) : gb418 ≠ gb393)); have NB394_418 := Ad.mk ((by rw [hg]; exact Nat.ne_of_lt (qkl (by exact BK394.out)) : gb394 ≠ gb418)); have NB418_394 := Ad.mk ((by rw [hg]; exact Nat.ne_of_gt (qkl (by exact BK394.out)) : gb418 ≠ gb394)); have NB408_418 := Ad.mk ((by rw [hg]; exact Nat.ne_of_lt (qkl (by exact BK408.out)) : gb408 ≠ gb418)); have NB418_408 := Ad.mk ((by rw [hg]; exact Nat.ne_of_gt (qkl (by exact BK408.out)) : gb418 ≠ gb408)); have NB414_418 := Ad.mk ((by rw [hg]; exact Nat.ne_of_lt (qkl (by exact BK414.out)) : gb414 ≠ gb418)); have NB418_414 := Ad.mk ((by rw [hg]; exact Nat.ne_of_gt (qkl (by exact BK414.out)) : gb418 ≠ gb414)); replace BK392 := Ad.mk (qkb (by exact BK392.out) hb); replace BK393 := Ad.mk (qkb (by exact BK393.out) hb); replace BK394 := Ad.mk (qkb (by exact BK394.out) hb); replace BK408 := Ad.mk (qkb (by exact BK408.out) hb); replace BK414 := Ad.mk (qkb (by exact BK414.out) hb); replace HB := Ad.mk (qbt (by repeat (first | (with_reducible first | exact HB.out | apply qbn | apply qb1) | exact HB.out)) hb); clear hb hbox hg; have hnb80 := NB418_392.out; have hnc80 := NB392_418.out; have hnb81 := NB418_393.out; have hnc81 := NB393_418.out; have hnb82 := NB418_394.out; have hnc82 := NB394_418.out; have hnb83 := NB418_408.out; have hnc83 := NB408_418.out; have hnb84 := NB418_414.out; have hnc84 := NB414_418.out; have hcz85_0 : w79.cell? ⟨gb418, 0, none⟩ = some (.int .i64 0) := (qkc BK418.out 0).trans rfl; have hcz85_1 : w79.cell? ⟨gb418, 1, none⟩ = some (.int .i64 0) := (qkc BK418.out 1).trans rfl; have hfz85_0 := qkz BK418.out 0; have hfz85_1 := qkz BK418.out 1; have hcz86_0 : w79.cell? ⟨gb392, 0, none⟩ = some (.int .i64 t379) := (qkc BK392.out 0).trans rfl; have hcz86_1 : w79.cell? ⟨gb392, 1, none⟩ = some (.int .i64 t380) := (qkc BK392.out 1).trans rfl; have hcz86_2 : w79.cell? ⟨gb392, 2, none⟩ = some (.int .i64 t381) := (qkc BK392.out 2).trans rfl; have hcz86_3 : w79.cell? ⟨gb392, 3, none⟩ = some (.int .i64 t382) := (qkc BK392.out 3).trans rfl; have hfz86_0 := qkz BK392.out 0; have hfz86_1 := qkz BK392.out 1; have hfz86_2 := qkz BK392.out 2; have hfz86_3 := qkz BK392.out 3) | ((with_reducible refine qgc (f := 20) rfl ?_); refine goesL_ (some 74) rfl rfl Tryd.func20 (by kernel_rfl) rfl #[.agg #[.int .i64 t379, .int .i64 t380, .int .i64 t381, .int .i64 t382]] rfl (by (try simp only [List.map_toArray, List.map_cons, List.map_nil]); first | done | rfl) ?_; (with_reducible refine (tune_Within.calls kj12 t379 t380 t381 t382 t419 t420 t421 t422 t423 t424 _ A71.out).mono ?_); rintro e w87 ⟨rfl, hb⟩; refine ⟨_, rfl, ?_⟩; replace BK392 := Ad.mk (qkb (g := gb392) (o := .cells #[.int .i64 t379, .int .i64 t380, .int .i64 t381, .int .i64 t382] 27 (0, 0)) (by (iterate 2 ((with_reducible repeat (first | apply qkn | apply qkd)); refine qkf ?_ NB392_418.out _)); (with_reducible repeat (first | apply qkn | apply qkd)); exact BK392.out) hb); replace BK393 := Ad.mk (qkb (g := gb393) (o := .cells #[.int .i64 t384, .int .i64 t385, .int .i64 t386, .int .i64 t387] 27 (0, 0)) (by (iterate 2 ((with_reducible repeat (first | apply qkn | apply qkd)); refine qkf ?_ NB393_418.out _)); (with_reducible repeat (first | apply qkn | apply qkd)); exact BK393.out) hb); replace BK394 := Ad.mk (qkb (g := gb394) (o := .cells #[.int .i64 t389, .int .i64 t390] 30 (0, 0)) (by (iterate 2 ((with_reducible repeat (first | apply qkn | apply qkd)); refine qkf ?_ NB394_418.out _)); (with_reducible repeat (first | apply qkn | apply qkd)); exact BK394.out) hb); replace BK408 := Ad.mk (qkb (g := gb408) (o := .cells #[.int .i64 t403, .int .i64 t404, .int .i64 t405, .int .i64 t406] 27 (0, 0)) (by (iterate 2 ((with_reducible repeat (first | apply qkn | apply qkd)); refine qkf ?_ NB408_418.out _)); (with_reducible repeat (first | apply qkn | apply qkd)); exact BK408.out) hb); replace BK414 := Ad.mk (qkb (g := gb414) (o := .cells #[.int .i64 t409, .int .i64 t410, .int .i64 t411, .int .i64 t412] 27 (0, 0)) (by (iterate 2 ((with_reducible repeat (first | apply qkn | apply qkd)); refine qkf ?_ NB414_418.out _)); (with_reducible repeat (first | apply qkn | apply qkd)); exact BK414.out) hb); replace BK418 := Ad.mk (qkb (g := gb418) (o := .cells #[.int .i64 t415, .int .i64 t416] 30 (0, 0)) (by (with_reducible repeat (first | apply qkn | apply qkd)); refine qkp (cs := #[.int .i64 t415, .int .i64 0]) ?_ 1 _ rfl; (with_reducible repeat (first | apply qkn | apply qkd)); refine qkp (cs := #[.int .i64 0, .int .i64 0]) ?_ 0 _ rfl; (with_reducible repeat (first | apply qkn | apply qkd)); exact BK418.out) hb); replace HB := Ad.mk (qbt (by repeat (first | (with_reducible first | exact HB.out | apply qbn | apply qb1 | refine qbs ?_ GE418.out) | exact HB.out)) hb); (try clear hb)) | ((with_reducible refine qgd (N := 14) rfl ?_); refine qbe ?hg (N := 14) ?hd (cs := #[.int .i64 0, .int .i64 0, .int .i64 0, .int .i64 0]) (t := 27) ?hr ?_; (case hd => rfl); (case hg => rfl); (case hr => first | (go_simp; done) | (go_simp; rfl)); intro gb425 hg w88 hbox hb; have BK425 := Ad.mk (hbox); have GW425 := Ad.mk ((by rw [hg]; exact (qbz (by repeat (first | (with_reducible first | exact HB.out | apply qbn | apply qb1) | exact HB.out))) : w.heap.size ≤ gb425)); have GE425 := Ad.mk ((by rw [hg]; exact (qbz (by repeat (first | (with_reducible first | exact HB.out | apply qbn | apply qb1) | exact HB.out))) : w.heap.size ≤ gb425)); have NB392_425 := Ad.mk ((by rw [hg]; exact Nat.ne_of_lt (qkl (by exact BK392.out)) : gb392 ≠ gb425)); have NB425_392 := Ad.mk ((by rw [hg]; exact Nat.ne_of_gt (qkl (by exact BK392.out)) : gb425 ≠ gb392)); have NB393_425 := Ad.mk ((by rw [hg]; exact Nat.ne_of_lt (qkl (by exact BK393.out)) : gb393 ≠ gb425)); have NB425_393 := Ad.mk ((by rw [hg]; exact Nat.ne_of_gt (qkl (by exact BK393.out)) : gb425 ≠ gb393)); have NB394_425 := Ad.mk ((by rw [hg]; exact Nat.ne_of_lt (qkl (by exact BK394.out)) : gb394 ≠ gb425)); have NB425_394 := Ad.mk ((by rw [hg]; exact Nat.ne_of_gt (qkl (by exact BK394.out)) : gb425 ≠ gb394)); have NB408_425 := Ad.mk ((by rw [hg]; exact Nat.ne_of_lt (qkl (by exact BK408.out)) : gb408 ≠ gb425)); have NB425_408 := Ad.mk ((by rw [hg]; exact Nat.ne_of_gt (qkl (by exact BK408.out)) : gb425 ≠ gb408)); have NB414_425 := Ad.mk ((by rw [hg]; exact Nat.ne_of_lt (qkl (by exact BK414.out)) : gb414 ≠ gb425)); have NB425_414 := Ad.mk ((by rw [hg]; exact Nat.ne_of_gt (qkl (by exact BK414.out)) : gb425 ≠ gb414)); have NB418_425 := Ad.mk ((by rw [hg]; exact Nat.ne_of_lt (qkl (by exact BK418.out)) : gb418 ≠ gb425)); have NB425_418 := Ad.mk ((by rw [hg]; exact Nat.ne_of_gt (qkl (by exact BK418.out)) : gb425 ≠ gb418)); replace BK392 := Ad.mk (qkb (by exact BK392.out) hb); replace BK393 := Ad.mk (qkb (by exact BK393.out) hb); replace BK394 := Ad.mk (qkb (by exact BK394.out) hb); replace BK408 := Ad.mk (qkb (by exact BK408.out) hb); replace BK414 := Ad.mk (qkb (by exact BK414.out) hb); replace BK418 := Ad.mk (qkb (by exact BK418.out) hb); replace HB := Ad.mk (qbt (by repeat (first | (with_reducible first | exact HB.out | apply qbn | apply qb1) | exact HB.out)) hb); clear hb hbox hg; have hnb89 := NB425_392.out; have hnc89 := NB392_425.out; have hnb90 := NB425_393.out; have hnc90 := NB393_425.out; have hnb91 := NB425_394.out; have hnc91 := NB394_425.out; have hnb92 := NB425_408.out; have hnc92 := NB408_425.out; have hnb93 := NB425_414.out; have hnc93 := NB414_425.out; have hnb94 := NB425_418.out; have hnc94 := NB418_425.out; have hcz95_0 : w88.cell? ⟨gb425, 0, none⟩ = some (.int .i64 0) := (qkc BK425.out 0).trans rfl; have hcz95_1 : w88.cell? ⟨gb425, 1, none⟩ = some (.int .i64 0) := (qkc BK425.out 1).trans rfl; have hcz95_2 : w88.cell? ⟨gb425, 2, none⟩ = some (.int .i64 0) := (qkc BK425.out 2).trans rfl; have hcz95_3 : w88.cell? ⟨gb425, 3, none⟩ = some (.int .i64 0) := (qkc BK425.out 3).trans rfl; have hfz95_0 := qkz BK425.out 0; have hfz95_1 := qkz BK425.out 1; have hfz95_2 := qkz BK425.out 2; have hfz95_3 := qkz BK425.out 3))
     (try simp only [Act.put, List.setIfInBounds_toArray, List.set_cons_zero, List.set_cons_succ])
     go_cut [] (fun wc => ∃ (kq : Nat), Ad (gleelaw1_IntervalsCounted.j1 kq t401 t379 t380 t381 t382 t384 t385 t386 t387 = some r) ∧ Ad (kq ≤ kj12) ∧ Ad (wc.heap[gb392]? = some (.cells #[.int .i64 t379, .int .i64 t380, .int .i64 t381, .int .i64 t382] 27 (0, 0))) ∧ Ad (wc.heap[gb393]? = some (.cells #[.int .i64 t384, .int .i64 t385, .int .i64 t386, .int .i64 t387] 27 (0, 0))) ∧ Ad (wc.heap[gb394]? = some (.cells #[.int .i64 t389, .int .i64 t390] 30 (0, 0))) ∧ Ad (wc.heap[gb408]? = some (.cells #[.int .i64 t403, .int .i64 t404, .int .i64 t405, .int .i64 t406] 27 (0, 0))) ∧ Ad (wc.heap[gb414]? = some (.cells #[.int .i64 t409, .int .i64 t410, .int .i64 t411, .int .i64 t412] 27 (0, 0))) ∧ Ad (wc.heap[gb418]? = some (.cells #[.int .i64 t415, .int .i64 t416] 30 (0, 0))) ∧ Ad (wc.heap[gb425]? = some (.cells #[.int .i64 t419, .int .i64 t420, .int .i64 t421, .int .i64 t422] 27 (0, 0))) ∧ Ad (Below w.heap.size w wc))
     case first =>
      have H := HC72.out
      clear HC72
      by_cases c96 : t395 = 0
      ·
       rw [if_pos c96] at H
       have c96b0 : (t395 == 0) = true := beq_iff_eq.mpr c96
       have c96b1 : (t395 != 0) = false := bne_eq_false_iff_eq.mpr c96
       clear c96
       (first | rw [c96b0] | (simp only [i64_w, i32_w]; rw [c96b0]) | skip)
       replace H := Option.bind_eq_some_iff.mp H
       obtain ⟨⟨t426, t427, t428, t429, t430, t431⟩, A970, H⟩ := H
       replace H : (if t417 = 0 then ((gleeref1_QuotientOf.f kj12 t379 t380 t381 t382).bind fun bt433 => (if (!(t415 == bt433.1) || (!(t416 == bt433.2))) = true then (none) else (if t424 = t431 then (if (!(t419 == t426) || (!(t420 == t427) || (!(t421 == t428) || (!(t422 == t429))))) = true then (none) else (if t423 = t430 then (gleelaw1_IntervalsCounted.j1 kj12 t401 t379 t380 t381 t382 t384 t385 t386 t387) else (none))) else (none)))) else (none)) = some r := H
       have A97 := Ad.mk A970
       clear A970
       by_cases c98 : t417 = 0
       ·
        rw [if_pos c98] at H
        have c98b0 : (t417 == 0) = true := beq_iff_eq.mpr c98
        have c98b1 : (t417 != 0) = false := bne_eq_false_iff_eq.mpr c98
        clear c98
        replace H := Option.bind_eq_some_iff.mp H
        obtain ⟨⟨t433, t434⟩, A990, H⟩ := H
        replace H : (if (!(t415 == t433) || (!(t416 == t434))) = true then (none) else (if t424 = t431 then (if (!(t419 == t426) || (!(t420 == t427) || (!(t421 == t428) || (!(t422 == t429))))) = true then (none) else (if t423 = t430 then (gleelaw1_IntervalsCounted.j1 kj12 t401 t379 t380 t381 t382 t384 t385 t386 t387) else (none))) else (none))) = some r := H
        have A99 := Ad.mk A990
        clear A990
        by_cases c100 : (!(t415 == t433) || (!(t416 == t434))) = true
        ·
         rw [if_pos c100] at H
         exact absurd H (by simp)
        ·
         rw [if_neg c100] at H
         have c100b0 : (!(t415 == t433) || (!(t416 == t434))) = false := by simpa using c100
         clear c100
         by_cases c101 : t424 = t431
         ·
          rw [if_pos c101] at H
          have c101b0 : (t424 == t431) = true := beq_iff_eq.mpr c101
          have c101b1 : (t424 != t431) = false := bne_eq_false_iff_eq.mpr c101
          clear c101
          by_cases c102 : (!(t419 == t426) || (!(t420 == t427) || (!(t421 == t428) || (!(t422 == t429))))) = true
          ·
           rw [if_pos c102] at H
           exact absurd H (by simp)
          ·
           rw [if_neg c102] at H
           have c102b0 : (!(t419 == t426) || (!(t420 == t427) || (!(t421 == t428) || (!(t422 == t429))))) = false := by simpa using c102
           clear c102
           by_cases c103 : t423 = t430
           ·
            rw [if_pos c103] at H
            have c103b0 : (t423 == t430) = true := beq_iff_eq.mpr c103
            have c103b1 : (t423 != t430) = false := bne_eq_false_iff_eq.mpr c103
            clear c103
            have H' := Ad.mk H
            clear H
            have hnb104 := NB392_393.out
            have hnc104 := NB393_392.out
            have hnb105 := NB392_394.out
            have hnc105 := NB394_392.out
            have hnb106 := NB392_408.out
            have hnc106 := NB408_392.out
            have hnb107 := NB392_414.out
            have hnc107 := NB414_392.out
            have hnb108 := NB392_418.out
            have hnc108 := NB418_392.out
            have hnb109 := NB392_425.out
            have hnc109 := NB425_392.out
            have hcz110_0 : w88.cell? ⟨gb392, 0, none⟩ = some (.int .i64 t379) := (qkc BK392.out 0).trans rfl
            have hcz110_1 : w88.cell? ⟨gb392, 1, none⟩ = some (.int .i64 t380) := (qkc BK392.out 1).trans rfl
            have hcz110_2 : w88.cell? ⟨gb392, 2, none⟩ = some (.int .i64 t381) := (qkc BK392.out 2).trans rfl
            have hcz110_3 : w88.cell? ⟨gb392, 3, none⟩ = some (.int .i64 t382) := (qkc BK392.out 3).trans rfl
            have hfz110_0 := qkz BK392.out 0
            have hfz110_1 := qkz BK392.out 1
            have hfz110_2 := qkz BK392.out 2
            have hfz110_3 := qkz BK392.out 3
            try go_wp2_with (first | ((with_reducible refine qgc (f := 21) rfl ?_); refine goesL_ (some 104) rfl rfl Tryd.func21 (by kernel_rfl) rfl #[.agg #[.int .i64 t379, .int .i64 t380, .int .i64 t381, .int .i64 t382]] rfl (by (try simp only [List.map_toArray, List.map_cons, List.map_nil]); first | done | rfl) ?_; (with_reducible refine (gleeref1_WithinOf.calls kj12 t379 t380 t381 t382 t426 t427 t428 t429 t430 t431 _ A97.out).mono ?_); rintro e w111 ⟨rfl, hb⟩; refine ⟨_, rfl, ?_⟩; replace BK392 := Ad.mk (qkb (g := gb392) (o := .cells #[.int .i64 t379, .int .i64 t380, .int .i64 t381, .int .i64 t382] 27 (0, 0)) (by (iterate 4 ((with_reducible repeat (first | apply qkn | apply qkd)); refine qkf ?_ NB392_425.out _)); (with_reducible repeat (first | apply qkn | apply qkd)); exact BK392.out) hb); replace BK393 := Ad.mk (qkb (g := gb393) (o := .cells #[.int .i64 t384, .int .i64 t385, .int .i64 t386, .int .i64 t387] 27 (0, 0)) (by (iterate 4 ((with_reducible repeat (first | apply qkn | apply qkd)); refine qkf ?_ NB393_425.out _)); (with_reducible repeat (first | apply qkn | apply qkd)); exact BK393.out) hb); replace BK394 := Ad.mk (qkb (g := gb394) (o := .cells #[.int .i64 t389, .int .i64 t390] 30 (0, 0)) (by (iterate 4 ((with_reducible repeat (first | apply qkn | apply qkd)); refine qkf ?_ NB394_425.out _)); (with_reducible repeat (first | apply qkn | apply qkd)); exact BK394.out) hb); replace BK408 := Ad.mk (qkb (g := gb408) (o := .cells #[.int .i64 t403, .int .i64 t404, .int .i64 t405, .int .i64 t406] 27 (0, 0)) (by (iterate 4 ((with_reducible repeat (first | apply qkn | apply qkd)); refine qkf ?_ NB408_425.out _)); (with_reducible repeat (first | apply qkn | apply qkd)); exact BK408.out) hb); replace BK414 := Ad.mk (qkb (g := gb414) (o := .cells #[.int .i64 t409, .int .i64 t410, .int .i64 t411, .int .i64 t412] 27 (0, 0)) (by (iterate 4 ((with_reducible repeat (first | apply qkn | apply qkd)); refine qkf ?_ NB414_425.out _)); (with_reducible repeat (first | apply qkn | apply qkd)); exact BK414.out) hb); replace BK418 := Ad.mk (qkb (g := gb418) (o := .cells #[.int .i64 t415, .int .i64 t416] 30 (0, 0)) (by (iterate 4 ((with_reducible repeat (first | apply qkn | apply qkd)); refine qkf ?_ NB418_425.out _)); (with_reducible repeat (first | apply qkn | apply qkd)); exact BK418.out) hb); replace BK425 := Ad.mk (qkb (g := gb425) (o := .cells #[.int .i64 t419, .int .i64 t420, .int .i64 t421, .int .i64 t422] 27 (0, 0)) (by (with_reducible repeat (first | apply qkn | apply qkd)); refine qkp (cs := #[.int .i64 t419, .int .i64 t420, .int .i64 t421, .int .i64 0]) ?_ 3 _ rfl; (with_reducible repeat (first | apply qkn | apply qkd)); refine qkp (cs := #[.int .i64 t419, .int .i64 t420, .int .i64 0, .int .i64 0]) ?_ 2 _ rfl; (with_reducible repeat (first | apply qkn | apply qkd)); refine qkp (cs := #[.int .i64 t419, .int .i64 0, .int .i64 0, .int .i64 0]) ?_ 1 _ rfl; (with_reducible repeat (first | apply qkn | apply qkd)); refine qkp (cs := #[.int .i64 0, .int .i64 0, .int .i64 0, .int .i64 0]) ?_ 0 _ rfl; (with_reducible repeat (first | apply qkn | apply qkd)); exact BK425.out) hb); replace HB := Ad.mk (qbt (by repeat (first | (with_reducible first | exact HB.out | apply qbn | apply qb1 | refine qbs ?_ GE425.out) | exact HB.out)) hb); (try clear hb)) | ((with_reducible refine qgd (N := 17) rfl ?_); refine qbe ?hg (N := 17) ?hd (cs := #[.int .i64 0, .int .i64 0, .int .i64 0, .int .i64 0]) (t := 27) ?hr ?_; (case hd => rfl); (case hg => rfl); (case hr => first | (go_simp; done) | (go_simp; rfl)); intro gb432 hg w112 hbox hb; have BK432 := Ad.mk (hbox); have GW432 := Ad.mk ((by rw [hg]; exact (qbz (by repeat (first | (with_reducible first | exact HB.out | apply qbn | apply qb1) | exact HB.out))) : w.heap.size ≤ gb432)); have GE432 := Ad.mk ((by rw [hg]; exact (qbz (by repeat (first | (with_reducible first | exact HB.out | apply qbn | apply qb1) | exact HB.out))) : w.heap.size ≤ gb432)); have NB392_432 := Ad.mk ((by rw [hg]; exact Nat.ne_of_lt (qkl (by exact BK392.out)) : gb392 ≠ gb432)); have NB432_392 := Ad.mk ((by rw [hg]; exact Nat.ne_of_gt (qkl (by exact BK392.out)) : gb432 ≠ gb392)); have NB393_432 := Ad.mk ((by rw [hg]; exact Nat.ne_of_lt (qkl (by exact BK393.out)) : gb393 ≠ gb432)); have NB432_393 := Ad.mk ((by rw [hg]; exact Nat.ne_of_gt (qkl (by exact BK393.out)) : gb432 ≠ gb393)); have NB394_432 := Ad.mk ((by rw [hg]; exact Nat.ne_of_lt (qkl (by exact BK394.out)) : gb394 ≠ gb432)); have NB432_394 := Ad.mk ((by rw [hg]; exact Nat.ne_of_gt (qkl (by exact BK394.out)) : gb432 ≠ gb394)); have NB408_432 := Ad.mk ((by rw [hg]; exact Nat.ne_of_lt (qkl (by exact BK408.out)) : gb408 ≠ gb432)); have NB432_408 := Ad.mk ((by rw [hg]; exact Nat.ne_of_gt (qkl (by exact BK408.out)) : gb432 ≠ gb408)); have NB414_432 := Ad.mk ((by rw [hg]; exact Nat.ne_of_lt (qkl (by exact BK414.out)) : gb414 ≠ gb432)); have NB432_414 := Ad.mk ((by rw [hg]; exact Nat.ne_of_gt (qkl (by exact BK414.out)) : gb432 ≠ gb414)); have NB418_432 := Ad.mk ((by rw [hg]; exact Nat.ne_of_lt (qkl (by exact BK418.out)) : gb418 ≠ gb432)); have NB432_418 := Ad.mk ((by rw [hg]; exact Nat.ne_of_gt (qkl (by exact BK418.out)) : gb432 ≠ gb418)); have NB425_432 := Ad.mk ((by rw [hg]; exact Nat.ne_of_lt (qkl (by exact BK425.out)) : gb425 ≠ gb432)); have NB432_425 := Ad.mk ((by rw [hg]; exact Nat.ne_of_gt (qkl (by exact BK425.out)) : gb432 ≠ gb425)); replace BK392 := Ad.mk (qkb (by exact BK392.out) hb); replace BK393 := Ad.mk (qkb (by exact BK393.out) hb); replace BK394 := Ad.mk (qkb (by exact BK394.out) hb); replace BK408 := Ad.mk (qkb (by exact BK408.out) hb); replace BK414 := Ad.mk (qkb (by exact BK414.out) hb); replace BK418 := Ad.mk (qkb (by exact BK418.out) hb); replace BK425 := Ad.mk (qkb (by exact BK425.out) hb); replace HB := Ad.mk (qbt (by repeat (first | (with_reducible first | exact HB.out | apply qbn | apply qb1) | exact HB.out)) hb); clear hb hbox hg; have hnb113 := NB432_392.out; have hnc113 := NB392_432.out; have hnb114 := NB432_393.out; have hnc114 := NB393_432.out; have hnb115 := NB432_394.out; have hnc115 := NB394_432.out; have hnb116 := NB432_408.out; have hnc116 := NB408_432.out; have hnb117 := NB432_414.out; have hnc117 := NB414_432.out; have hnb118 := NB432_418.out; have hnc118 := NB418_432.out; have hnb119 := NB432_425.out; have hnc119 := NB425_432.out; have hcz120_0 : w112.cell? ⟨gb432, 0, none⟩ = some (.int .i64 0) := (qkc BK432.out 0).trans rfl; have hcz120_1 : w112.cell? ⟨gb432, 1, none⟩ = some (.int .i64 0) := (qkc BK432.out 1).trans rfl; have hcz120_2 : w112.cell? ⟨gb432, 2, none⟩ = some (.int .i64 0) := (qkc BK432.out 2).trans rfl; have hcz120_3 : w112.cell? ⟨gb432, 3, none⟩ = some (.int .i64 0) := (qkc BK432.out 3).trans rfl; have hfz120_0 := qkz BK432.out 0; have hfz120_1 := qkz BK432.out 1; have hfz120_2 := qkz BK432.out 2; have hfz120_3 := qkz BK432.out 3))
            have n0_ : Ad (((((w112.setCell ⟨gb432, 0, none⟩ (.int .i64 t426)).setCell ⟨gb432, 1, none⟩ (.int .i64 t427)).setCell ⟨gb432, 2, none⟩ (.int .i64 t428)).setCell ⟨gb432, 3, none⟩ (.int .i64 t429)).heap[gb392]? = some (.cells #[.int .i64 t379, .int .i64 t380, .int .i64 t381, .int .i64 t382] 27 (0, 0))) := ⟨by refine qkf ?_ NB392_432.out _; refine qkf ?_ NB392_432.out _; refine qkf ?_ NB392_432.out _; refine qkf ?_ NB392_432.out _; exact BK392.out⟩
            have n1_ : Ad (((((w112.setCell ⟨gb432, 0, none⟩ (.int .i64 t426)).setCell ⟨gb432, 1, none⟩ (.int .i64 t427)).setCell ⟨gb432, 2, none⟩ (.int .i64 t428)).setCell ⟨gb432, 3, none⟩ (.int .i64 t429)).heap[gb393]? = some (.cells #[.int .i64 t384, .int .i64 t385, .int .i64 t386, .int .i64 t387] 27 (0, 0))) := ⟨by refine qkf ?_ NB393_432.out _; refine qkf ?_ NB393_432.out _; refine qkf ?_ NB393_432.out _; refine qkf ?_ NB393_432.out _; exact BK393.out⟩
            have n2_ : Ad (((((w112.setCell ⟨gb432, 0, none⟩ (.int .i64 t426)).setCell ⟨gb432, 1, none⟩ (.int .i64 t427)).setCell ⟨gb432, 2, none⟩ (.int .i64 t428)).setCell ⟨gb432, 3, none⟩ (.int .i64 t429)).heap[gb394]? = some (.cells #[.int .i64 t389, .int .i64 t390] 30 (0, 0))) := ⟨by refine qkf ?_ NB394_432.out _; refine qkf ?_ NB394_432.out _; refine qkf ?_ NB394_432.out _; refine qkf ?_ NB394_432.out _; exact BK394.out⟩
            have n3_ : Ad (((((w112.setCell ⟨gb432, 0, none⟩ (.int .i64 t426)).setCell ⟨gb432, 1, none⟩ (.int .i64 t427)).setCell ⟨gb432, 2, none⟩ (.int .i64 t428)).setCell ⟨gb432, 3, none⟩ (.int .i64 t429)).heap[gb408]? = some (.cells #[.int .i64 t403, .int .i64 t404, .int .i64 t405, .int .i64 t406] 27 (0, 0))) := ⟨by refine qkf ?_ NB408_432.out _; refine qkf ?_ NB408_432.out _; refine qkf ?_ NB408_432.out _; refine qkf ?_ NB408_432.out _; exact BK408.out⟩
            have n4_ : Ad (((((w112.setCell ⟨gb432, 0, none⟩ (.int .i64 t426)).setCell ⟨gb432, 1, none⟩ (.int .i64 t427)).setCell ⟨gb432, 2, none⟩ (.int .i64 t428)).setCell ⟨gb432, 3, none⟩ (.int .i64 t429)).heap[gb414]? = some (.cells #[.int .i64 t409, .int .i64 t410, .int .i64 t411, .int .i64 t412] 27 (0, 0))) := ⟨by refine qkf ?_ NB414_432.out _; refine qkf ?_ NB414_432.out _; refine qkf ?_ NB414_432.out _; refine qkf ?_ NB414_432.out _; exact BK414.out⟩
            have n5_ : Ad (((((w112.setCell ⟨gb432, 0, none⟩ (.int .i64 t426)).setCell ⟨gb432, 1, none⟩ (.int .i64 t427)).setCell ⟨gb432, 2, none⟩ (.int .i64 t428)).setCell ⟨gb432, 3, none⟩ (.int .i64 t429)).heap[gb418]? = some (.cells #[.int .i64 t415, .int .i64 t416] 30 (0, 0))) := ⟨by refine qkf ?_ NB418_432.out _; refine qkf ?_ NB418_432.out _; refine qkf ?_ NB418_432.out _; refine qkf ?_ NB418_432.out _; exact BK418.out⟩
            have n6_ : Ad (((((w112.setCell ⟨gb432, 0, none⟩ (.int .i64 t426)).setCell ⟨gb432, 1, none⟩ (.int .i64 t427)).setCell ⟨gb432, 2, none⟩ (.int .i64 t428)).setCell ⟨gb432, 3, none⟩ (.int .i64 t429)).heap[gb425]? = some (.cells #[.int .i64 t419, .int .i64 t420, .int .i64 t421, .int .i64 t422] 27 (0, 0))) := ⟨by refine qkf ?_ NB425_432.out _; refine qkf ?_ NB425_432.out _; refine qkf ?_ NB425_432.out _; refine qkf ?_ NB425_432.out _; exact BK425.out⟩
            have n7_ : Ad (((((w112.setCell ⟨gb432, 0, none⟩ (.int .i64 t426)).setCell ⟨gb432, 1, none⟩ (.int .i64 t427)).setCell ⟨gb432, 2, none⟩ (.int .i64 t428)).setCell ⟨gb432, 3, none⟩ (.int .i64 t429)).heap[gb432]? = some (.cells #[.int .i64 t426, .int .i64 t427, .int .i64 t428, .int .i64 t429] 27 (0, 0))) := ⟨by refine qkp (cs := #[.int .i64 t426, .int .i64 t427, .int .i64 t428, .int .i64 0]) ?_ 3 _ rfl; refine qkp (cs := #[.int .i64 t426, .int .i64 t427, .int .i64 0, .int .i64 0]) ?_ 2 _ rfl; refine qkp (cs := #[.int .i64 t426, .int .i64 0, .int .i64 0, .int .i64 0]) ?_ 1 _ rfl; refine qkp (cs := #[.int .i64 0, .int .i64 0, .int .i64 0, .int .i64 0]) ?_ 0 _ rfl; exact BK432.out⟩
            have n8_ : Ad (Below w.heap.size w ((((w112.setCell ⟨gb432, 0, none⟩ (.int .i64 t426)).setCell ⟨gb432, 1, none⟩ (.int .i64 t427)).setCell ⟨gb432, 2, none⟩ (.int .i64 t428)).setCell ⟨gb432, 3, none⟩ (.int .i64 t429))) := ⟨by repeat (first | (with_reducible first | exact HB.out | apply qbn | apply qb1 | refine qbs ?_ GE432.out) | exact HB.out)⟩
            (try clear BK392)
            (try clear BK393)
            (try clear BK394)
            (try clear BK408)
            (try clear BK414)
            (try clear BK418)
            (try clear BK425)
            (try clear BK432)
            (try clear HB)
            generalize ((((w112.setCell ⟨gb432, 0, none⟩ (.int .i64 t426)).setCell ⟨gb432, 1, none⟩ (.int .i64 t427)).setCell ⟨gb432, 2, none⟩ (.int .i64 t428)).setCell ⟨gb432, 3, none⟩ (.int .i64 t429)) = w121 at n0_ n1_ n2_ n3_ n4_ n5_ n6_ n7_ n8_ ⊢
            have BK392 := n0_
            have BK393 := n1_
            have BK394 := n2_
            have BK408 := n3_
            have BK414 := n4_
            have BK418 := n5_
            have BK425 := n6_
            have BK432 := n7_
            have HB := n8_
            clear n0_ n1_ n2_ n3_ n4_ n5_ n6_ n7_ n8_
            replace BK392 := Ad.mk (qkd BK392.out)
            replace BK393 := Ad.mk (qkd BK393.out)
            replace BK394 := Ad.mk (qkd BK394.out)
            replace BK408 := Ad.mk (qkd BK408.out)
            replace BK414 := Ad.mk (qkd BK414.out)
            replace BK418 := Ad.mk (qkd BK418.out)
            replace BK425 := Ad.mk (qkd BK425.out)
            replace BK432 := Ad.mk (qkd BK432.out)
            replace HB := Ad.mk (qb1 HB.out)
            refine start_ (n := 23) (S := fun w' => w'.cell? ⟨gb418, 0, none⟩ = some (.int .i64 t415) ∧ w'.cell? ⟨gb418, 1, none⟩ = some (.int .i64 t416) ∧ w'.cell? ⟨gb392, 0, none⟩ = some (.int .i64 t379) ∧ w'.cell? ⟨gb392, 1, none⟩ = some (.int .i64 t380) ∧ w'.cell? ⟨gb392, 2, none⟩ = some (.int .i64 t381) ∧ w'.cell? ⟨gb392, 3, none⟩ = some (.int .i64 t382) ∧ w'.cell? ⟨gb425, 0, none⟩ = some (.int .i64 t419) ∧ w'.cell? ⟨gb425, 1, none⟩ = some (.int .i64 t420) ∧ w'.cell? ⟨gb425, 2, none⟩ = some (.int .i64 t421) ∧ w'.cell? ⟨gb425, 3, none⟩ = some (.int .i64 t422) ∧ w'.cell? ⟨gb432, 0, none⟩ = some (.int .i64 t426) ∧ w'.cell? ⟨gb432, 1, none⟩ = some (.int .i64 t427) ∧ w'.cell? ⟨gb432, 2, none⟩ = some (.int .i64 t428) ∧ w'.cell? ⟨gb432, 3, none⟩ = some (.int .i64 t429)) (ds := []) #[false, false, false, false, false, false, false, false, false, false, false, false, false, false, false, false, false, false, false, false, false, false, false] (by kernel_rfl) rfl rfl ⟨(qkc BK418.out 0).trans rfl, (qkc BK418.out 1).trans rfl, (qkc BK392.out 0).trans rfl, (qkc BK392.out 1).trans rfl, (qkc BK392.out 2).trans rfl, (qkc BK392.out 3).trans rfl, (qkc BK425.out 0).trans rfl, (qkc BK425.out 1).trans rfl, (qkc BK425.out 2).trans rfl, (qkc BK425.out 3).trans rfl, (qkc BK432.out 0).trans rfl, (qkc BK432.out 1).trans rfl, (qkc BK432.out 2).trans rfl, (qkc BK432.out 3).trans rfl⟩ (fun hHeld => ?_); refine with_tabW gleelaw1_IntervalsCounted.tab16 gleelaw1_IntervalsCounted.bits16 (fun HT_ HW_ => ?_)
            generalize w121.drew = w122 at BK392 BK393 BK394 BK408 BK414 BK418 BK425 BK432 HB hHeld ⊢
            refine pure_ (i := 0) (N := some 108) (v := ?_) (a' := ?_) #[true, false, false, false, false, false, false, false, false, false, false, false, false, false, false, false, false, false, false, false, false, false, false] rfl rfl (any_of HT_.out (by kernel_rfl)) (fun _ _ _ h => h) (Or.inl ⟨by rfl, ?_⟩) ?_ ?_
            rotate_left
            ·
             intro w'
             go_simp
             with_reducible rfl
            rotate_left
            ·
             simp only [Act.put, List.setIfInBounds_toArray, List.set_cons_zero, List.set_cons_succ, i64_w, i32_w]
             rfl
            refine pure_ (i := 1) (N := some 109) (v := ?_) (a' := ?_) #[true, true, false, false, false, false, false, false, false, false, false, false, false, false, false, false, false, false, false, false, false, false, false] rfl rfl (any_of HT_.out (by kernel_rfl)) (fun _ _ _ h => h) (Or.inl ⟨by rfl, ?_⟩) ?_ ?_
            rotate_left
            ·
             intro w'
             go_simp
             with_reducible rfl
            rotate_left
            ·
             simp only [Act.put, List.setIfInBounds_toArray, List.set_cons_zero, List.set_cons_succ, i64_w, i32_w]
             rfl
            refine pure_ (i := 2) (N := some 110) (v := ?_) (a' := ?_) #[true, true, true, false, false, false, false, false, false, false, false, false, false, false, false, false, false, false, false, false, false, false, false] rfl rfl (any_of HT_.out (by kernel_rfl)) (fun _ _ _ h => h) (Or.inl ⟨by rfl, ?_⟩) ?_ ?_
            rotate_left
            ·
             intro w'
             go_simp
             with_reducible rfl
            rotate_left
            ·
             simp only [Act.put, List.setIfInBounds_toArray, List.set_cons_zero, List.set_cons_succ, i64_w, i32_w]
             rfl
            refine take_ (i := 3) (N := some 111) (v := ?_) (a' := ?_) #[true, true, true, true, false, false, false, false, false, false, false, false, false, false, false, false, false, false, false, false, false, false, false] rfl rfl (take_ofW HT_.out HW_.out (by kernel_rfl)) (fun _ _ _ h => h) (Or.inl ⟨by rfl, ?_⟩) hHeld ?_ ?_
            rotate_left
            ·
             rintro w' ⟨s0, s1, s2, s3, s4, s5, s6, s7, s8, s9, s10, s11, s12, s13⟩
             go_simp
             with_reducible rfl
            rotate_left
            ·
             simp only [Act.put, List.setIfInBounds_toArray, List.set_cons_zero, List.set_cons_succ, i64_w, i32_w]
             rfl
            refine take_ (i := 4) (N := some 112) (v := ?_) (a' := ?_) #[true, true, true, true, true, false, false, false, false, false, false, false, false, false, false, false, false, false, false, false, false, false, false] rfl rfl (take_ofW HT_.out HW_.out (by kernel_rfl)) (fun _ _ _ h => h) (Or.inl ⟨by rfl, ?_⟩) hHeld ?_ ?_
            rotate_left
            ·
             rintro w' ⟨s0, s1, s2, s3, s4, s5, s6, s7, s8, s9, s10, s11, s12, s13⟩
             go_simp
             with_reducible rfl
            rotate_left
            ·
             simp only [Act.put, List.setIfInBounds_toArray, List.set_cons_zero, List.set_cons_succ, i64_w, i32_w]
             rfl
            refine one_ (i := 5) (N := some 113) #[true, true, true, true, true, true, false, false, false, false, false, false, false, false, false, false, false, false, false, false, false, false, false] rfl rfl (one_of HT_.out (by kernel_rfl)) (by decide) (fun K hK => ?_)
            refine goes_ Tryd.func22 (by kernel_rfl) rfl #[.agg #[.int .i64 t379, .int .i64 t380, .int .i64 t381, .int .i64 t382]] (by rfl) rfl rfl (by (try simp only [List.map_toArray, List.map_cons, List.map_nil]); first | done | rfl | (simp only [List.length_drop, List.length_take]; rfl)) ?_
            with_reducible refine (gleeref1_QuotientOf.calls kj12 t379 t380 t381 t382 t433 t434 _ A99.out).mono ?_
            rintro e w123 ⟨rfl, hb⟩
            refine ⟨_, rfl, ?_⟩
            replace BK392 := Ad.mk (qkb (by exact BK392.out) hb)
            replace BK393 := Ad.mk (qkb (by exact BK393.out) hb)
            replace BK394 := Ad.mk (qkb (by exact BK394.out) hb)
            replace BK408 := Ad.mk (qkb (by exact BK408.out) hb)
            replace BK414 := Ad.mk (qkb (by exact BK414.out) hb)
            replace BK418 := Ad.mk (qkb (by exact BK418.out) hb)
            replace BK425 := Ad.mk (qkb (by exact BK425.out) hb)
            replace BK432 := Ad.mk (qkb (by exact BK432.out) hb)
            replace HB := Ad.mk (qbt (by repeat (first | (with_reducible first | exact HB.out | apply qbn | apply qb1) | exact HB.out)) hb)
            (try clear hb)
            (try clear hb2)
            (try clear hk)
            (try clear hi)
            refine hK.out _ _ ⟨(qkc BK418.out 0).trans rfl, (qkc BK418.out 1).trans rfl, (qkc BK392.out 0).trans rfl, (qkc BK392.out 1).trans rfl, (qkc BK392.out 2).trans rfl, (qkc BK392.out 3).trans rfl, (qkc BK425.out 0).trans rfl, (qkc BK425.out 1).trans rfl, (qkc BK425.out 2).trans rfl, (qkc BK425.out 3).trans rfl, (qkc BK432.out 0).trans rfl, (qkc BK432.out 1).trans rfl, (qkc BK432.out 2).trans rfl, (qkc BK432.out 3).trans rfl⟩ (fun hHeld => ?_)
            clear hK K
            refine norm_ (a' := ?_) ?_ ?_
            rotate_left
            ·
             show Act.put _ (some 113) _ = _
             simp only [Act.put, List.setIfInBounds_toArray, List.set_cons_zero, List.set_cons_succ, i64_w, i32_w]
             rfl
            refine pure_ (i := 6) (N := some 114) (v := ?_) (a' := ?_) #[true, true, true, true, true, true, true, false, false, false, false, false, false, false, false, false, false, false, false, false, false, false, false] rfl rfl (any_of HT_.out (by kernel_rfl)) (fun _ _ _ h => h) (Or.inl ⟨by rfl, ?_⟩) ?_ ?_
            rotate_left
            ·
             intro w'
             go_simp
             with_reducible rfl
            rotate_left
            ·
             simp only [Act.put, List.setIfInBounds_toArray, List.set_cons_zero, List.set_cons_succ, i64_w, i32_w]
             rfl
            refine pure_ (i := 7) (N := some 115) (v := ?_) (a' := ?_) #[true, true, true, true, true, true, true, true, false, false, false, false, false, false, false, false, false, false, false, false, false, false, false] rfl rfl (any_of HT_.out (by kernel_rfl)) (fun _ _ _ h => h) (Or.inl ⟨by rfl, ?_⟩) ?_ ?_
            rotate_left
            ·
             intro w'
             go_simp
             with_reducible rfl
            rotate_left
            ·
             simp only [Act.put, List.setIfInBounds_toArray, List.set_cons_zero, List.set_cons_succ, i64_w, i32_w]
             rfl
            refine pure_ (i := 8) (N := some 116) (v := ?_) (a' := ?_) #[true, true, true, true, true, true, true, true, true, false, false, false, false, false, false, false, false, false, false, false, false, false, false] rfl rfl (any_of HT_.out (by kernel_rfl)) (fun _ _ _ h => h) (Or.inl ⟨by rfl, ?_⟩) ?_ ?_
            rotate_left
            ·
             intro w'
             go_simp
             with_reducible rfl
            rotate_left
            ·
             simp only [Act.put, List.setIfInBounds_toArray, List.set_cons_zero, List.set_cons_succ, i64_w, i32_w]
             rfl
            refine pure_ (i := 9) (N := some 117) (v := ?_) (a' := ?_) #[true, true, true, true, true, true, true, true, true, true, false, false, false, false, false, false, false, false, false, false, false, false, false] rfl rfl (any_of HT_.out (by kernel_rfl)) (fun _ _ _ h => h) (Or.inl ⟨by rfl, ?_⟩) ?_ ?_
            rotate_left
            ·
             intro w'
             go_simp
             with_reducible rfl
            rotate_left
            ·
             simp only [Act.put, List.setIfInBounds_toArray, List.set_cons_zero, List.set_cons_succ, i64_w, i32_w]
             rfl
            refine pure_ (i := 10) (N := some 118) (v := ?_) (a' := ?_) #[true, true, true, true, true, true, true, true, true, true, true, false, false, false, false, false, false, false, false, false, false, false, false] rfl rfl (any_of HT_.out (by kernel_rfl)) (fun _ _ _ h => h) (Or.inl ⟨by rfl, ?_⟩) ?_ ?_
            rotate_left
            ·
             intro w'
             go_simp
             with_reducible rfl
            rotate_left
            ·
             simp only [Act.put, List.setIfInBounds_toArray, List.set_cons_zero, List.set_cons_succ, i64_w, i32_w]
             rfl
            refine pure_ (i := 11) (N := some 119) (v := ?_) (a' := ?_) #[true, true, true, true, true, true, true, true, true, true, true, true, false, false, false, false, false, false, false, false, false, false, false] rfl rfl (any_of HT_.out (by kernel_rfl)) (fun _ _ _ h => h) (Or.inl ⟨by rfl, ?_⟩) ?_ ?_
            rotate_left
            ·
             intro w'
             go_simp
             with_reducible rfl
            rotate_left
            ·
             simp only [Act.put, List.setIfInBounds_toArray, List.set_cons_zero, List.set_cons_succ, i64_w, i32_w]
             rfl
            refine pure_ (i := 12) (N := some 120) (v := ?_) (a' := ?_) #[true, true, true, true, true, true, true, true, true, true, true, true, true, false, false, false, false, false, false, false, false, false, false] rfl rfl (any_of HT_.out (by kernel_rfl)) (fun _ _ _ h => h) (Or.inl ⟨by rfl, ?_⟩) ?_ ?_
            rotate_left
            ·
             intro w'
             go_simp
             with_reducible rfl
            rotate_left
            ·
             simp only [Act.put, List.setIfInBounds_toArray, List.set_cons_zero, List.set_cons_succ, i64_w, i32_w]
             rfl
            refine pure_ (i := 13) (N := some 121) (v := ?_) (a' := ?_) #[true, true, true, true, true, true, true, true, true, true, true, true, true, true, false, false, false, false, false, false, false, false, false] rfl rfl (any_of HT_.out (by kernel_rfl)) (fun _ _ _ h => h) (Or.inl ⟨by rfl, ?_⟩) ?_ ?_
            rotate_left
            ·
             intro w'
             go_simp
             with_reducible rfl
            rotate_left
            ·
             simp only [Act.put, List.setIfInBounds_toArray, List.set_cons_zero, List.set_cons_succ, i64_w, i32_w]
             rfl
            refine take_ (i := 14) (N := some 122) (v := ?_) (a' := ?_) #[true, true, true, true, true, true, true, true, true, true, true, true, true, true, true, false, false, false, false, false, false, false, false] rfl rfl (take_ofW HT_.out HW_.out (by kernel_rfl)) (fun _ _ _ h => h) (Or.inl ⟨by rfl, ?_⟩) hHeld ?_ ?_
            rotate_left
            ·
             rintro w' ⟨s0, s1, s2, s3, s4, s5, s6, s7, s8, s9, s10, s11, s12, s13⟩
             go_simp
             with_reducible rfl
            rotate_left
            ·
             simp only [Act.put, List.setIfInBounds_toArray, List.set_cons_zero, List.set_cons_succ, i64_w, i32_w]
             rfl
            refine take_ (i := 15) (N := some 123) (v := ?_) (a' := ?_) #[true, true, true, true, true, true, true, true, true, true, true, true, true, true, true, true, false, false, false, false, false, false, false] rfl rfl (take_ofW HT_.out HW_.out (by kernel_rfl)) (fun _ _ _ h => h) (Or.inl ⟨by rfl, ?_⟩) hHeld ?_ ?_
            rotate_left
            ·
             rintro w' ⟨s0, s1, s2, s3, s4, s5, s6, s7, s8, s9, s10, s11, s12, s13⟩
             go_simp
             with_reducible rfl
            rotate_left
            ·
             simp only [Act.put, List.setIfInBounds_toArray, List.set_cons_zero, List.set_cons_succ, i64_w, i32_w]
             rfl
            refine pure_ (i := 16) (N := some 124) (v := ?_) (a' := ?_) #[true, true, true, true, true, true, true, true, true, true, true, true, true, true, true, true, true, false, false, false, false, false, false] rfl rfl (any_of HT_.out (by kernel_rfl)) (fun _ _ _ h => h) (Or.inl ⟨by rfl, ?_⟩) ?_ ?_
            rotate_left
            ·
             intro w'
             go_simp
             with_reducible rfl
            rotate_left
            ·
             simp only [Act.put, List.setIfInBounds_toArray, List.set_cons_zero, List.set_cons_succ, i64_w, i32_w]
             rfl
            refine pure_ (i := 17) (N := some 125) (v := ?_) (a' := ?_) #[true, true, true, true, true, true, true, true, true, true, true, true, true, true, true, true, true, true, false, false, false, false, false] rfl rfl (any_of HT_.out (by kernel_rfl)) (fun _ _ _ h => h) (Or.inl ⟨by rfl, ?_⟩) ?_ ?_
            rotate_left
            ·
             intro w'
             go_simp
             with_reducible rfl
            rotate_left
            ·
             simp only [Act.put, List.setIfInBounds_toArray, List.set_cons_zero, List.set_cons_succ, i64_w, i32_w]
             rfl
            refine pure_ (i := 18) (N := some 126) (v := ?_) (a' := ?_) #[true, true, true, true, true, true, true, true, true, true, true, true, true, true, true, true, true, true, true, false, false, false, false] rfl rfl (any_of HT_.out (by kernel_rfl)) (fun _ _ _ h => h) (Or.inl ⟨by rfl, ?_⟩) ?_ ?_
            rotate_left
            ·
             intro w'
             go_simp
             with_reducible rfl
            rotate_left
            ·
             simp only [Act.put, List.setIfInBounds_toArray, List.set_cons_zero, List.set_cons_succ, i64_w, i32_w]
             rfl
            refine pure_ (i := 19) (N := some 127) (v := ?_) (a' := ?_) #[true, true, true, true, true, true, true, true, true, true, true, true, true, true, true, true, true, true, true, true, false, false, false] rfl rfl (any_of HT_.out (by kernel_rfl)) (fun _ _ _ h => h) (Or.inl ⟨by rfl, ?_⟩) ?_ ?_
            rotate_left
            ·
             intro w'
             go_simp
             with_reducible rfl
            rotate_left
            ·
             simp only [Act.put, List.setIfInBounds_toArray, List.set_cons_zero, List.set_cons_succ, i64_w, i32_w]
             rfl
            refine pure_ (i := 20) (N := some 128) (v := ?_) (a' := ?_) #[true, true, true, true, true, true, true, true, true, true, true, true, true, true, true, true, true, true, true, true, true, false, false] rfl rfl (any_of HT_.out (by kernel_rfl)) (fun _ _ _ h => h) (Or.inl ⟨by rfl, ?_⟩) ?_ ?_
            rotate_left
            ·
             intro w'
             go_simp
             with_reducible rfl
            rotate_left
            ·
             simp only [Act.put, List.setIfInBounds_toArray, List.set_cons_zero, List.set_cons_succ, i64_w, i32_w]
             rfl
            refine pure_ (i := 21) (N := some 129) (v := ?_) (a' := ?_) #[true, true, true, true, true, true, true, true, true, true, true, true, true, true, true, true, true, true, true, true, true, true, false] rfl rfl (any_of HT_.out (by kernel_rfl)) (fun _ _ _ h => h) (Or.inl ⟨by rfl, ?_⟩) ?_ ?_
            rotate_left
            ·
             intro w'
             go_simp
             with_reducible rfl
            rotate_left
            ·
             simp only [Act.put, List.setIfInBounds_toArray, List.set_cons_zero, List.set_cons_succ, i64_w, i32_w]
             rfl
            refine pure_ (i := 22) (N := some 130) (v := ?_) (a' := ?_) #[true, true, true, true, true, true, true, true, true, true, true, true, true, true, true, true, true, true, true, true, true, true, true] rfl rfl (any_of HT_.out (by kernel_rfl)) (fun _ _ _ h => h) (Or.inl ⟨by rfl, ?_⟩) ?_ ?_
            rotate_left
            ·
             intro w'
             go_simp
             with_reducible rfl
            rotate_left
            ·
             simp only [Act.put, List.setIfInBounds_toArray, List.set_cons_zero, List.set_cons_succ, i64_w, i32_w]
             rfl
            refine done_ (done_of HT_.out (by kernel_rfl)) ?_
            try go_wp2
            go_meet
            case rel => exact ⟨_, H', ⟨by have := HJ12.out; first | omega | exact Nat.le_refl _⟩, ⟨by exact BK392.out⟩, ⟨by exact BK393.out⟩, ⟨by exact BK394.out⟩, ⟨by exact BK408.out⟩, ⟨by exact BK414.out⟩, ⟨by exact BK418.out⟩, ⟨by exact BK425.out⟩, ⟨by repeat (first | (with_reducible first | exact HB.out | apply qbn | apply qb1) | exact HB.out)⟩⟩
           ·
            rw [if_neg c103] at H
            exact absurd H (by simp)
         ·
          rw [if_neg c101] at H
          exact absurd H (by simp)
       ·
        rw [if_neg c98] at H
        exact absurd H (by simp)
      ·
       rw [if_neg c96] at H
       have c96b0 : (t395 == 0) = false := beq_eq_false_iff_ne.mpr c96
       have c96b1 : (t395 != 0) = true := bne_iff_ne.mpr c96
       (first | rw [c96b0] | (simp only [i64_w, i32_w]; rw [c96b0]) | skip)
       by_cases c124 : t417 = t395
       ·
        rw [if_pos c124] at H
        have c124b0 : (t417 == t395) = true := beq_iff_eq.mpr c124
        have c124b1 : (t417 != t395) = false := bne_eq_false_iff_eq.mpr c124
        clear c124
        by_cases c125 : t424 = t395
        ·
         rw [if_pos c125] at H
         have c125b0 : (t424 == t395) = true := beq_iff_eq.mpr c125
         have c125b1 : (t424 != t395) = false := bne_eq_false_iff_eq.mpr c125
         clear c125
         by_cases c126 : (!(t415 == 0) || (!(t416 == 0))) = true
         ·
          rw [if_pos c126] at H
          exact absurd H (by simp)
         ·
          rw [if_neg c126] at H
          have c126b0 : (!(t415 == 0) || (!(t416 == 0))) = false := by simpa using c126
          clear c126
          by_cases c127 : (!(t419 == 0) || (!(t420 == 0) || (!(t421 == 0) || (!(t422 == 0))))) = true
          ·
           rw [if_pos c127] at H
           exact absurd H (by simp)
          ·
           rw [if_neg c127] at H
           have c127b0 : (!(t419 == 0) || (!(t420 == 0) || (!(t421 == 0) || (!(t422 == 0))))) = false := by simpa using c127
           clear c127
           by_cases c128 : t423 = 0
           ·
            rw [if_pos c128] at H
            have c128b0 : (t423 == 0) = true := beq_iff_eq.mpr c128
            have c128b1 : (t423 != 0) = false := bne_eq_false_iff_eq.mpr c128
            clear c128
            have H' := Ad.mk H
            clear H
            have hnb129 := NB418_392.out
            have hnc129 := NB392_418.out
            have hnb130 := NB418_393.out
            have hnc130 := NB393_418.out
            have hnb131 := NB418_394.out
            have hnc131 := NB394_418.out
            have hnb132 := NB418_408.out
            have hnc132 := NB408_418.out
            have hnb133 := NB418_414.out
            have hnc133 := NB414_418.out
            have hnb134 := NB418_425.out
            have hnc134 := NB425_418.out
            have hcz135_0 : w88.cell? ⟨gb418, 0, none⟩ = some (.int .i64 t415) := (qkc BK418.out 0).trans rfl
            have hcz135_1 : w88.cell? ⟨gb418, 1, none⟩ = some (.int .i64 t416) := (qkc BK418.out 1).trans rfl
            have hfz135_0 := qkz BK418.out 0
            have hfz135_1 := qkz BK418.out 1
            have hnb136 := NB425_392.out
            have hnc136 := NB392_425.out
            have hnb137 := NB425_393.out
            have hnc137 := NB393_425.out
            have hnb138 := NB425_394.out
            have hnc138 := NB394_425.out
            have hnb139 := NB425_408.out
            have hnc139 := NB408_425.out
            have hnb140 := NB425_414.out
            have hnc140 := NB414_425.out
            have hcz141_0 : w88.cell? ⟨gb425, 0, none⟩ = some (.int .i64 0) := (qkc BK425.out 0).trans rfl
            have hcz141_1 : w88.cell? ⟨gb425, 1, none⟩ = some (.int .i64 0) := (qkc BK425.out 1).trans rfl
            have hcz141_2 : w88.cell? ⟨gb425, 2, none⟩ = some (.int .i64 0) := (qkc BK425.out 2).trans rfl
            have hcz141_3 : w88.cell? ⟨gb425, 3, none⟩ = some (.int .i64 0) := (qkc BK425.out 3).trans rfl
            have hfz141_0 := qkz BK425.out 0
            have hfz141_1 := qkz BK425.out 1
            have hfz141_2 := qkz BK425.out 2
            have hfz141_3 := qkz BK425.out 3
            go_wp2
            go_meet
            case rel => exact ⟨_, H', ⟨by have := HJ12.out; first | omega | exact Nat.le_refl _⟩, ⟨by (iterate 4 ((with_reducible repeat (first | apply qkn | apply qkd)); refine qkf ?_ NB392_425.out _)); (with_reducible repeat (first | apply qkn | apply qkd)); exact BK392.out⟩, ⟨by (iterate 4 ((with_reducible repeat (first | apply qkn | apply qkd)); refine qkf ?_ NB393_425.out _)); (with_reducible repeat (first | apply qkn | apply qkd)); exact BK393.out⟩, ⟨by (iterate 4 ((with_reducible repeat (first | apply qkn | apply qkd)); refine qkf ?_ NB394_425.out _)); (with_reducible repeat (first | apply qkn | apply qkd)); exact BK394.out⟩, ⟨by (iterate 4 ((with_reducible repeat (first | apply qkn | apply qkd)); refine qkf ?_ NB408_425.out _)); (with_reducible repeat (first | apply qkn | apply qkd)); exact BK408.out⟩, ⟨by (iterate 4 ((with_reducible repeat (first | apply qkn | apply qkd)); refine qkf ?_ NB414_425.out _)); (with_reducible repeat (first | apply qkn | apply qkd)); exact BK414.out⟩, ⟨by (iterate 4 ((with_reducible repeat (first | apply qkn | apply qkd)); refine qkf ?_ NB418_425.out _)); (with_reducible repeat (first | apply qkn | apply qkd)); exact BK418.out⟩, ⟨by (with_reducible repeat (first | apply qkn | apply qkd)); refine qkp (cs := #[.int .i64 t419, .int .i64 t420, .int .i64 t421, .int .i64 0]) ?_ 3 _ rfl; (with_reducible repeat (first | apply qkn | apply qkd)); refine qkp (cs := #[.int .i64 t419, .int .i64 t420, .int .i64 0, .int .i64 0]) ?_ 2 _ rfl; (with_reducible repeat (first | apply qkn | apply qkd)); refine qkp (cs := #[.int .i64 t419, .int .i64 0, .int .i64 0, .int .i64 0]) ?_ 1 _ rfl; (with_reducible repeat (first | apply qkn | apply qkd)); refine qkp (cs := #[.int .i64 0, .int .i64 0, .int .i64 0, .int .i64 0]) ?_ 0 _ rfl; (with_reducible repeat (first | apply qkn | apply qkd)); exact BK425.out⟩, ⟨by repeat (first | (with_reducible first | exact HB.out | apply qbn | apply qb1 | refine qbs ?_ GE425.out) | exact HB.out)⟩⟩
           ·
            rw [if_neg c128] at H
            exact absurd H (by simp)
        ·
         rw [if_neg c125] at H
         exact absurd H (by simp)
       ·
        rw [if_neg c124] at H
        exact absurd H (by simp)
     case rest =>
      clear HC72
      try clear c1
      try clear c2
      try clear p2
      try clear c3
      try clear c4
      try clear c5
      try clear c6
      try clear c7
      try clear c8
      try clear c9
      try clear c10
      try clear c10b0
      try clear c10b1
      try clear c11
      try clear c12
      try clear c13
      try clear c14
      try clear c15
      try clear c16
      try clear c17
      try clear c18
      try clear c19
      try clear c20
      try clear c21
      try clear c22
      try clear c23
      try clear c25
      try clear c26
      try clear c28
      try clear c43
      try clear c44
      try clear c45
      try clear c46
      try clear c51
      try clear c52
      try clear c53
      try clear c54
      try clear c55
      try clear c57
      try clear c57b0
      try clear c57b1
      try clear c58
      try clear c59
      try clear c60
      try clear c61
      try clear c62
      try clear c64
      try clear c65
      try clear c66
      try clear c67
      try clear c69
      try clear c73
      try clear c74
      try clear c75
      try clear c76
      try clear c80
      try clear c81
      try clear c82
      try clear c83
      try clear c84
      try clear c89
      try clear c90
      try clear c91
      try clear c92
      try clear c93
      try clear c94
      try clear c96
      try clear c96b0
      try clear c96b1
      try clear c98
      try clear c98b0
      try clear c98b1
      try clear c100
      try clear c100b0
      try clear c101
      try clear c101b0
      try clear c101b1
      try clear c102
      try clear c102b0
      try clear c103
      try clear c103b0
      try clear c103b1
      try clear c104
      try clear c105
      try clear c106
      try clear c107
      try clear c108
      try clear c109
      try clear c113
      try clear c114
      try clear c115
      try clear c116
      try clear c117
      try clear c118
      try clear c119
      try clear c124
      try clear c124b0
      try clear c124b1
      try clear c125
      try clear c125b0
      try clear c125b1
      try clear c126
      try clear c126b0
      try clear c127
      try clear c127b0
      try clear c128
      try clear c128b0
      try clear c128b1
      try clear c129
      try clear c130
      try clear c131
      try clear c132
      try clear c133
      try clear c134
      try clear c136
      try clear c137
      try clear c138
      try clear c139
      try clear c140
      try clear hcz110_0
      try clear hcz110_1
      try clear hcz110_2
      try clear hcz110_3
      try clear hcz120_0
      try clear hcz120_1
      try clear hcz120_2
      try clear hcz120_3
      try clear hcz135_0
      try clear hcz135_1
      try clear hcz141_0
      try clear hcz141_1
      try clear hcz141_2
      try clear hcz141_3
      try clear hcz24_0
      try clear hcz24_1
      try clear hcz24_2
      try clear hcz24_3
      try clear hcz27_0
      try clear hcz27_1
      try clear hcz27_2
      try clear hcz27_3
      try clear hcz29_0
      try clear hcz29_1
      try clear hcz38_0
      try clear hcz38_1
      try clear hcz38_2
      try clear hcz38_3
      try clear hcz40_0
      try clear hcz40_1
      try clear hcz47_0
      try clear hcz47_1
      try clear hcz47_2
      try clear hcz47_3
      try clear hcz48_0
      try clear hcz48_1
      try clear hcz56_0
      try clear hcz56_1
      try clear hcz56_2
      try clear hcz56_3
      try clear hcz63_0
      try clear hcz63_1
      try clear hcz63_2
      try clear hcz63_3
      try clear hcz68_0
      try clear hcz68_1
      try clear hcz68_2
      try clear hcz68_3
      try clear hcz77_0
      try clear hcz77_1
      try clear hcz77_2
      try clear hcz77_3
      try clear hcz85_0
      try clear hcz85_1
      try clear hcz86_0
      try clear hcz86_1
      try clear hcz86_2
      try clear hcz86_3
      try clear hcz95_0
      try clear hcz95_1
      try clear hcz95_2
      try clear hcz95_3
      try clear hfz110_0
      try clear hfz110_1
      try clear hfz110_2
      try clear hfz110_3
      try clear hfz120_0
      try clear hfz120_1
      try clear hfz120_2
      try clear hfz120_3
      try clear hfz135_0
      try clear hfz135_1
      try clear hfz141_0
      try clear hfz141_1
      try clear hfz141_2
      try clear hfz141_3
      try clear hfz24_0
      try clear hfz24_1
      try clear hfz24_2
      try clear hfz24_3
      try clear hfz27_0
      try clear hfz27_1
      try clear hfz27_2
      try clear hfz27_3
      try clear hfz29_0
      try clear hfz29_1
      try clear hfz38_0
      try clear hfz38_1
      try clear hfz38_2
      try clear hfz38_3
      try clear hfz40_0
      try clear hfz40_1
      try clear hfz47_0
      try clear hfz47_1
      try clear hfz47_2
      try clear hfz47_3
      try clear hfz48_0
      try clear hfz48_1
      try clear hfz56_0
      try clear hfz56_1
      try clear hfz56_2
      try clear hfz56_3
      try clear hfz63_0
      try clear hfz63_1
      try clear hfz63_2
      try clear hfz63_3
      try clear hfz68_0
      try clear hfz68_1
      try clear hfz68_2
      try clear hfz68_3
      try clear hfz77_0
      try clear hfz77_1
      try clear hfz77_2
      try clear hfz77_3
      try clear hfz85_0
      try clear hfz85_1
      try clear hfz86_0
      try clear hfz86_1
      try clear hfz86_2
      try clear hfz86_3
      try clear hfz95_0
      try clear hfz95_1
      try clear hfz95_2
      try clear hfz95_3
      try clear p2
      obtain ⟨kq, HA, HJ71, BK392, BK393, BK394, BK408, BK414, BK418, BK425, HB⟩ := hcut
      cases kq with
      | zero => exact absurd HA.out (by simp [gleelaw1_IntervalsCounted.j1])
      | succ kj71 =>
       have H := HA.out
       clear HA
       simp only [gleelaw1_IntervalsCounted.j1] at H
       replace H := Option.bind_eq_some_iff.mp H
       obtain ⟨⟨t435, t436, t437, t438, t439⟩, A1420, H⟩ := H
       replace H : ((tune_Difference.f kj71 t379 t380 t381 t382 t384 t385 t386 t387).bind fun bt441 => ((tune_Compare.f kj71 t379 t380 t381 t382 t384 t385 t386 t387).bind fun bt447 => (if t401 = 0 then ((gleeref1_SumOf.f kj71 t379 t380 t381 t382 t384 t385 t386 t387 1).bind fun bt450 => ((gleeref1_SumOf.f kj71 t379 t380 t381 t382 t384 t385 t386 t387 (-1)).bind fun bt456 => (if t439 = bt450.2.2.2.2 then (if (t435 == bt450.1 && (t436 == bt450.2.1 && (t437 == bt450.2.2.1 && (t438 == bt450.2.2.2.1)))) = true then (if bt441.2.2.2.2 = bt456.2.2.2.2 then (if (bt441.1 == bt456.1 && (bt441.2.1 == bt456.2.1 && (bt441.2.2.1 == bt456.2.2.1 && (bt441.2.2.2.1 == bt456.2.2.2.1)))) = true then (if bt447.2 = 0 then ((gleeref1_ComparedOf.f kj71 t379 t380 t381 t382 t384 t385 t386 t387).bind fun t462 => (if bt447.1 = t462 then ((gleelaw1_tuned.f).bind fun t463 => (some t463)) else (none))) else (none)) else (none)) else (none)) else (none)) else (none)))) else (if t439 = t401 then (if bt441.2.2.2.2 = t401 then (if bt447.2 = t401 then (if (t435 == 0 && (t436 == 0 && (t437 == 0 && (t438 == 0)))) = true then (if (bt441.1 == 0 && (bt441.2.1 == 0 && (bt441.2.2.1 == 0 && (bt441.2.2.2.1 == 0)))) = true then (if bt447.1 = 0 then ((gleelaw1_tuned.f).bind fun t449 => (some t449)) else (none)) else (none)) else (none)) else (none)) else (none)) else (none))))) = some r := H
       have A142 := Ad.mk A1420
       clear A1420
       replace H := Option.bind_eq_some_iff.mp H
       obtain ⟨⟨t441, t442, t443, t444, t445⟩, A1430, H⟩ := H
       replace H : ((tune_Compare.f kj71 t379 t380 t381 t382 t384 t385 t386 t387).bind fun bt447 => (if t401 = 0 then ((gleeref1_SumOf.f kj71 t379 t380 t381 t382 t384 t385 t386 t387 1).bind fun bt450 => ((gleeref1_SumOf.f kj71 t379 t380 t381 t382 t384 t385 t386 t387 (-1)).bind fun bt456 => (if t439 = bt450.2.2.2.2 then (if (t435 == bt450.1 && (t436 == bt450.2.1 && (t437 == bt450.2.2.1 && (t438 == bt450.2.2.2.1)))) = true then (if t445 = bt456.2.2.2.2 then (if (t441 == bt456.1 && (t442 == bt456.2.1 && (t443 == bt456.2.2.1 && (t444 == bt456.2.2.2.1)))) = true then (if bt447.2 = 0 then ((gleeref1_ComparedOf.f kj71 t379 t380 t381 t382 t384 t385 t386 t387).bind fun t462 => (if bt447.1 = t462 then ((gleelaw1_tuned.f).bind fun t463 => (some t463)) else (none))) else (none)) else (none)) else (none)) else (none)) else (none)))) else (if t439 = t401 then (if t445 = t401 then (if bt447.2 = t401 then (if (t435 == 0 && (t436 == 0 && (t437 == 0 && (t438 == 0)))) = true then (if (t441 == 0 && (t442 == 0 && (t443 == 0 && (t444 == 0)))) = true then (if bt447.1 = 0 then ((gleelaw1_tuned.f).bind fun t449 => (some t449)) else (none)) else (none)) else (none)) else (none)) else (none)) else (none)))) = some r := H
       have A143 := Ad.mk A1430
       clear A1430
       replace H := Option.bind_eq_some_iff.mp H
       obtain ⟨⟨t447, t448⟩, A1440, H⟩ := H
       replace H : (if t401 = 0 then ((gleeref1_SumOf.f kj71 t379 t380 t381 t382 t384 t385 t386 t387 1).bind fun bt450 => ((gleeref1_SumOf.f kj71 t379 t380 t381 t382 t384 t385 t386 t387 (-1)).bind fun bt456 => (if t439 = bt450.2.2.2.2 then (if (t435 == bt450.1 && (t436 == bt450.2.1 && (t437 == bt450.2.2.1 && (t438 == bt450.2.2.2.1)))) = true then (if t445 = bt456.2.2.2.2 then (if (t441 == bt456.1 && (t442 == bt456.2.1 && (t443 == bt456.2.2.1 && (t444 == bt456.2.2.2.1)))) = true then (if t448 = 0 then ((gleeref1_ComparedOf.f kj71 t379 t380 t381 t382 t384 t385 t386 t387).bind fun t462 => (if t447 = t462 then ((gleelaw1_tuned.f).bind fun t463 => (some t463)) else (none))) else (none)) else (none)) else (none)) else (none)) else (none)))) else (if t439 = t401 then (if t445 = t401 then (if t448 = t401 then (if (t435 == 0 && (t436 == 0 && (t437 == 0 && (t438 == 0)))) = true then (if (t441 == 0 && (t442 == 0 && (t443 == 0 && (t444 == 0)))) = true then (if t447 = 0 then ((gleelaw1_tuned.f).bind fun t449 => (some t449)) else (none)) else (none)) else (none)) else (none)) else (none)) else (none))) = some r := H
       have A144 := Ad.mk A1440
       clear A1440
       by_cases c145 : t401 = 0
       ·
        rw [if_pos c145] at H
        have c145b0 : (t401 == 0) = true := beq_iff_eq.mpr c145
        have c145b1 : (t401 != 0) = false := bne_eq_false_iff_eq.mpr c145
        clear c145
        replace H := Option.bind_eq_some_iff.mp H
        obtain ⟨⟨t450, t451, t452, t453, t454⟩, A1460, H⟩ := H
        replace H : ((gleeref1_SumOf.f kj71 t379 t380 t381 t382 t384 t385 t386 t387 (-1)).bind fun bt456 => (if t439 = t454 then (if (t435 == t450 && (t436 == t451 && (t437 == t452 && (t438 == t453)))) = true then (if t445 = bt456.2.2.2.2 then (if (t441 == bt456.1 && (t442 == bt456.2.1 && (t443 == bt456.2.2.1 && (t444 == bt456.2.2.2.1)))) = true then (if t448 = 0 then ((gleeref1_ComparedOf.f kj71 t379 t380 t381 t382 t384 t385 t386 t387).bind fun t462 => (if t447 = t462 then ((gleelaw1_tuned.f).bind fun t463 => (some t463)) else (none))) else (none)) else (none)) else (none)) else (none)) else (none))) = some r := H
        have A146 := Ad.mk A1460
        clear A1460
        replace H := Option.bind_eq_some_iff.mp H
        obtain ⟨⟨t456, t457, t458, t459, t460⟩, A1470, H⟩ := H
        replace H : (if t439 = t454 then (if (t435 == t450 && (t436 == t451 && (t437 == t452 && (t438 == t453)))) = true then (if t445 = t460 then (if (t441 == t456 && (t442 == t457 && (t443 == t458 && (t444 == t459)))) = true then (if t448 = 0 then ((gleeref1_ComparedOf.f kj71 t379 t380 t381 t382 t384 t385 t386 t387).bind fun t462 => (if t447 = t462 then ((gleelaw1_tuned.f).bind fun t463 => (some t463)) else (none))) else (none)) else (none)) else (none)) else (none)) else (none)) = some r := H
        have A147 := Ad.mk A1470
        clear A1470
        by_cases c148 : t439 = t454
        ·
         rw [if_pos c148] at H
         have c148b0 : (t439 == t454) = true := beq_iff_eq.mpr c148
         have c148b1 : (t439 != t454) = false := bne_eq_false_iff_eq.mpr c148
         clear c148
         by_cases c149 : (t435 == t450 && (t436 == t451 && (t437 == t452 && (t438 == t453)))) = true
         ·
          rw [if_pos c149] at H
          have c149b0 : (t435 == t450 && (t436 == t451 && (t437 == t452 && (t438 == t453)))) = true := c149
          (try (have c149b1 : decide (t435 = t450 && (t436 == t451 && (t437 == t452 && (t438 == t453)))) = true := by simpa using c149))
          (try (have c149b2 : (t435 == t450 && (t436 == t451 && (t437 == t452 && (t438 == t453)))) = true := by simpa using c149))
          clear c149
          by_cases c150 : t445 = t460
          ·
           rw [if_pos c150] at H
           have c150b0 : (t445 == t460) = true := beq_iff_eq.mpr c150
           have c150b1 : (t445 != t460) = false := bne_eq_false_iff_eq.mpr c150
           clear c150
           by_cases c151 : (t441 == t456 && (t442 == t457 && (t443 == t458 && (t444 == t459)))) = true
           ·
            rw [if_pos c151] at H
            have c151b0 : (t441 == t456 && (t442 == t457 && (t443 == t458 && (t444 == t459)))) = true := c151
            (try (have c151b1 : decide (t441 = t456 && (t442 == t457 && (t443 == t458 && (t444 == t459)))) = true := by simpa using c151))
            (try (have c151b2 : (t441 == t456 && (t442 == t457 && (t443 == t458 && (t444 == t459)))) = true := by simpa using c151))
            clear c151
            by_cases c152 : t448 = 0
            ·
             rw [if_pos c152] at H
             have c152b0 : (t448 == 0) = true := beq_iff_eq.mpr c152
             have c152b1 : (t448 != 0) = false := bne_eq_false_iff_eq.mpr c152
             clear c152
             replace H := Option.bind_eq_some_iff.mp H
             obtain ⟨t462, A1530, H⟩ := H
             replace H : (if t447 = t462 then ((gleelaw1_tuned.f).bind fun t463 => (some t463)) else (none)) = some r := H
             have A153 := Ad.mk A1530
             clear A1530
             by_cases c154 : t447 = t462
             ·
              rw [if_pos c154] at H
              have c154b0 : (t447 == t462) = true := beq_iff_eq.mpr c154
              have c154b1 : (t447 != t462) = false := bne_eq_false_iff_eq.mpr c154
              clear c154
              replace H := Option.bind_eq_some_iff.mp H
              obtain ⟨t463, A1550, H⟩ := H
              replace H : (some t463) = some r := H
              have A155 := Ad.mk A1550
              clear A1550
              obtain rfl := Option.some.inj H
              have hnb156 := NB392_393.out
              have hnc156 := NB393_392.out
              have hnb157 := NB392_394.out
              have hnc157 := NB394_392.out
              have hnb158 := NB392_408.out
              have hnc158 := NB408_392.out
              have hnb159 := NB392_414.out
              have hnc159 := NB414_392.out
              have hnb160 := NB392_418.out
              have hnc160 := NB418_392.out
              have hnb161 := NB392_425.out
              have hnc161 := NB425_392.out
              have hcz162_0 : wc.cell? ⟨gb392, 0, none⟩ = some (.int .i64 t379) := (qkc BK392.out 0).trans rfl
              have hcz162_1 : wc.cell? ⟨gb392, 1, none⟩ = some (.int .i64 t380) := (qkc BK392.out 1).trans rfl
              have hcz162_2 : wc.cell? ⟨gb392, 2, none⟩ = some (.int .i64 t381) := (qkc BK392.out 2).trans rfl
              have hcz162_3 : wc.cell? ⟨gb392, 3, none⟩ = some (.int .i64 t382) := (qkc BK392.out 3).trans rfl
              have hfz162_0 := qkz BK392.out 0
              have hfz162_1 := qkz BK392.out 1
              have hfz162_2 := qkz BK392.out 2
              have hfz162_3 := qkz BK392.out 3
              have hnb163 := NB393_394.out
              have hnc163 := NB394_393.out
              have hnb164 := NB393_408.out
              have hnc164 := NB408_393.out
              have hnb165 := NB393_414.out
              have hnc165 := NB414_393.out
              have hnb166 := NB393_418.out
              have hnc166 := NB418_393.out
              have hnb167 := NB393_425.out
              have hnc167 := NB425_393.out
              have hcz168_0 : wc.cell? ⟨gb393, 0, none⟩ = some (.int .i64 t384) := (qkc BK393.out 0).trans rfl
              have hcz168_1 : wc.cell? ⟨gb393, 1, none⟩ = some (.int .i64 t385) := (qkc BK393.out 1).trans rfl
              have hcz168_2 : wc.cell? ⟨gb393, 2, none⟩ = some (.int .i64 t386) := (qkc BK393.out 2).trans rfl
              have hcz168_3 : wc.cell? ⟨gb393, 3, none⟩ = some (.int .i64 t387) := (qkc BK393.out 3).trans rfl
              have hfz168_0 := qkz BK393.out 0
              have hfz168_1 := qkz BK393.out 1
              have hfz168_2 := qkz BK393.out 2
              have hfz168_3 := qkz BK393.out 3
              go_wp2_with (first | ((with_reducible refine qgc (f := 23) rfl ?_); refine goesL_ (some 134) rfl rfl Tryd.func23 (by kernel_rfl) rfl #[.agg #[.int .i64 t379, .int .i64 t380, .int .i64 t381, .int .i64 t382], .agg #[.int .i64 t384, .int .i64 t385, .int .i64 t386, .int .i64 t387]] rfl (by (try simp only [List.map_toArray, List.map_cons, List.map_nil]); first | done | rfl) ?_; (with_reducible refine (tune_Sum.calls kj71 t379 t380 t381 t382 t384 t385 t386 t387 t435 t436 t437 t438 t439 _ A142.out).mono ?_); rintro e w169 ⟨rfl, hb⟩; refine ⟨_, rfl, ?_⟩; replace BK392 := Ad.mk (qkb (by exact BK392.out) hb); replace BK393 := Ad.mk (qkb (by exact BK393.out) hb); replace BK394 := Ad.mk (qkb (by exact BK394.out) hb); replace BK408 := Ad.mk (qkb (by exact BK408.out) hb); replace BK414 := Ad.mk (qkb (by exact BK414.out) hb); replace BK418 := Ad.mk (qkb (by exact BK418.out) hb); replace BK425 := Ad.mk (qkb (by exact BK425.out) hb); replace HB := Ad.mk (qbt (by repeat (first | (with_reducible first | exact HB.out | apply qbn | apply qb1) | exact HB.out)) hb); (try clear hb)) | ((with_reducible refine qgd (N := 20) rfl ?_); refine qbe ?hg (N := 20) ?hd (cs := #[.int .i64 0, .int .i64 0, .int .i64 0, .int .i64 0]) (t := 27) ?hr ?_; (case hd => rfl); (case hg => rfl); (case hr => first | (go_simp; done) | (go_simp; rfl)); intro gb440 hg w170 hbox hb; have BK440 := Ad.mk (hbox); have GW440 := Ad.mk ((by rw [hg]; exact (qbz (by repeat (first | (with_reducible first | exact HB.out | apply qbn | apply qb1) | exact HB.out))) : w.heap.size ≤ gb440)); have GE440 := Ad.mk ((by rw [hg]; exact (qbz (by repeat (first | (with_reducible first | exact HB.out | apply qbn | apply qb1) | exact HB.out))) : w.heap.size ≤ gb440)); have NB392_440 := Ad.mk ((by rw [hg]; exact Nat.ne_of_lt (qkl (by exact BK392.out)) : gb392 ≠ gb440)); have NB440_392 := Ad.mk ((by rw [hg]; exact Nat.ne_of_gt (qkl (by exact BK392.out)) : gb440 ≠ gb392)); have NB393_440 := Ad.mk ((by rw [hg]; exact Nat.ne_of_lt (qkl (by exact BK393.out)) : gb393 ≠ gb440)); have NB440_393 := Ad.mk ((by rw [hg]; exact Nat.ne_of_gt (qkl (by exact BK393.out)) : gb440 ≠ gb393)); have NB394_440 := Ad.mk ((by rw [hg]; exact Nat.ne_of_lt (qkl (by exact BK394.out)) : gb394 ≠ gb440)); have NB440_394 := Ad.mk ((by rw [hg]; exact Nat.ne_of_gt (qkl (by exact BK394.out)) : gb440 ≠ gb394)); have NB408_440 := Ad.mk ((by rw [hg]; exact Nat.ne_of_lt (qkl (by exact BK408.out)) : gb408 ≠ gb440)); have NB440_408 := Ad.mk ((by rw [hg]; exact Nat.ne_of_gt (qkl (by exact BK408.out)) : gb440 ≠ gb408)); have NB414_440 := Ad.mk ((by rw [hg]; exact Nat.ne_of_lt (qkl (by exact BK414.out)) : gb414 ≠ gb440)); have NB440_414 := Ad.mk ((by rw [hg]; exact Nat.ne_of_gt (qkl (by exact BK414.out)) : gb440 ≠ gb414)); have NB418_440 := Ad.mk ((by rw [hg]; exact Nat.ne_of_lt (qkl (by exact BK418.out)) : gb418 ≠ gb440)); have NB440_418 := Ad.mk ((by rw [hg]; exact Nat.ne_of_gt (qkl (by exact BK418.out)) : gb440 ≠ gb418)); have NB425_440 := Ad.mk ((by rw [hg]; exact Nat.ne_of_lt (qkl (by exact BK425.out)) : gb425 ≠ gb440)); have NB440_425 := Ad.mk ((by rw [hg]; exact Nat.ne_of_gt (qkl (by exact BK425.out)) : gb440 ≠ gb425)); replace BK392 := Ad.mk (qkb (by exact BK392.out) hb); replace BK393 := Ad.mk (qkb (by exact BK393.out) hb); replace BK394 := Ad.mk (qkb (by exact BK394.out) hb); replace BK408 := Ad.mk (qkb (by exact BK408.out) hb); replace BK414 := Ad.mk (qkb (by exact BK414.out) hb); replace BK418 := Ad.mk (qkb (by exact BK418.out) hb); replace BK425 := Ad.mk (qkb (by exact BK425.out) hb); replace HB := Ad.mk (qbt (by repeat (first | (with_reducible first | exact HB.out | apply qbn | apply qb1) | exact HB.out)) hb); clear hb hbox hg; have hnb171 := NB440_392.out; have hnc171 := NB392_440.out; have hnb172 := NB440_393.out; have hnc172 := NB393_440.out; have hnb173 := NB440_394.out; have hnc173 := NB394_440.out; have hnb174 := NB440_408.out; have hnc174 := NB408_440.out; have hnb175 := NB440_414.out; have hnc175 := NB414_440.out; have hnb176 := NB440_418.out; have hnc176 := NB418_440.out; have hnb177 := NB440_425.out; have hnc177 := NB425_440.out; have hcz178_0 : w170.cell? ⟨gb440, 0, none⟩ = some (.int .i64 0) := (qkc BK440.out 0).trans rfl; have hcz178_1 : w170.cell? ⟨gb440, 1, none⟩ = some (.int .i64 0) := (qkc BK440.out 1).trans rfl; have hcz178_2 : w170.cell? ⟨gb440, 2, none⟩ = some (.int .i64 0) := (qkc BK440.out 2).trans rfl; have hcz178_3 : w170.cell? ⟨gb440, 3, none⟩ = some (.int .i64 0) := (qkc BK440.out 3).trans rfl; have hfz178_0 := qkz BK440.out 0; have hfz178_1 := qkz BK440.out 1; have hfz178_2 := qkz BK440.out 2; have hfz178_3 := qkz BK440.out 3; have hcz179_0 : w170.cell? ⟨gb392, 0, none⟩ = some (.int .i64 t379) := (qkc BK392.out 0).trans rfl; have hcz179_1 : w170.cell? ⟨gb392, 1, none⟩ = some (.int .i64 t380) := (qkc BK392.out 1).trans rfl; have hcz179_2 : w170.cell? ⟨gb392, 2, none⟩ = some (.int .i64 t381) := (qkc BK392.out 2).trans rfl; have hcz179_3 : w170.cell? ⟨gb392, 3, none⟩ = some (.int .i64 t382) := (qkc BK392.out 3).trans rfl; have hfz179_0 := qkz BK392.out 0; have hfz179_1 := qkz BK392.out 1; have hfz179_2 := qkz BK392.out 2; have hfz179_3 := qkz BK392.out 3; have hcz180_0 : w170.cell? ⟨gb393, 0, none⟩ = some (.int .i64 t384) := (qkc BK393.out 0).trans rfl; have hcz180_1 : w170.cell? ⟨gb393, 1, none⟩ = some (.int .i64 t385) := (qkc BK393.out 1).trans rfl; have hcz180_2 : w170.cell? ⟨gb393, 2, none⟩ = some (.int .i64 t386) := (qkc BK393.out 2).trans rfl; have hcz180_3 : w170.cell? ⟨gb393, 3, none⟩ = some (.int .i64 t387) := (qkc BK393.out 3).trans rfl; have hfz180_0 := qkz BK393.out 0; have hfz180_1 := qkz BK393.out 1; have hfz180_2 := qkz BK393.out 2; have hfz180_3 := qkz BK393.out 3) | ((with_reducible refine qgc (f := 24) rfl ?_); refine goesL_ (some 140) rfl rfl Tryd.func24 (by kernel_rfl) rfl #[.agg #[.int .i64 t379, .int .i64 t380, .int .i64 t381, .int .i64 t382], .agg #[.int .i64 t384, .int .i64 t385, .int .i64 t386, .int .i64 t387]] rfl (by (try simp only [List.map_toArray, List.map_cons, List.map_nil]); first | done | rfl) ?_; (with_reducible refine (tune_Difference.calls kj71 t379 t380 t381 t382 t384 t385 t386 t387 t441 t442 t443 t444 t445 _ A143.out).mono ?_); rintro e w181 ⟨rfl, hb⟩; refine ⟨_, rfl, ?_⟩; replace BK392 := Ad.mk (qkb (g := gb392) (o := .cells #[.int .i64 t379, .int .i64 t380, .int .i64 t381, .int .i64 t382] 27 (0, 0)) (by (iterate 4 ((with_reducible repeat (first | apply qkn | apply qkd)); refine qkf ?_ NB392_440.out _)); (with_reducible repeat (first | apply qkn | apply qkd)); exact BK392.out) hb); replace BK393 := Ad.mk (qkb (g := gb393) (o := .cells #[.int .i64 t384, .int .i64 t385, .int .i64 t386, .int .i64 t387] 27 (0, 0)) (by (iterate 4 ((with_reducible repeat (first | apply qkn | apply qkd)); refine qkf ?_ NB393_440.out _)); (with_reducible repeat (first | apply qkn | apply qkd)); exact BK393.out) hb); replace BK394 := Ad.mk (qkb (g := gb394) (o := .cells #[.int .i64 t389, .int .i64 t390] 30 (0, 0)) (by (iterate 4 ((with_reducible repeat (first | apply qkn | apply qkd)); refine qkf ?_ NB394_440.out _)); (with_reducible repeat (first | apply qkn | apply qkd)); exact BK394.out) hb); replace BK408 := Ad.mk (qkb (g := gb408) (o := .cells #[.int .i64 t403, .int .i64 t404, .int .i64 t405, .int .i64 t406] 27 (0, 0)) (by (iterate 4 ((with_reducible repeat (first | apply qkn | apply qkd)); refine qkf ?_ NB408_440.out _)); (with_reducible repeat (first | apply qkn | apply qkd)); exact BK408.out) hb); replace BK414 := Ad.mk (qkb (g := gb414) (o := .cells #[.int .i64 t409, .int .i64 t410, .int .i64 t411, .int .i64 t412] 27 (0, 0)) (by (iterate 4 ((with_reducible repeat (first | apply qkn | apply qkd)); refine qkf ?_ NB414_440.out _)); (with_reducible repeat (first | apply qkn | apply qkd)); exact BK414.out) hb); replace BK418 := Ad.mk (qkb (g := gb418) (o := .cells #[.int .i64 t415, .int .i64 t416] 30 (0, 0)) (by (iterate 4 ((with_reducible repeat (first | apply qkn | apply qkd)); refine qkf ?_ NB418_440.out _)); (with_reducible repeat (first | apply qkn | apply qkd)); exact BK418.out) hb); replace BK425 := Ad.mk (qkb (g := gb425) (o := .cells #[.int .i64 t419, .int .i64 t420, .int .i64 t421, .int .i64 t422] 27 (0, 0)) (by (iterate 4 ((with_reducible repeat (first | apply qkn | apply qkd)); refine qkf ?_ NB425_440.out _)); (with_reducible repeat (first | apply qkn | apply qkd)); exact BK425.out) hb); replace BK440 := Ad.mk (qkb (g := gb440) (o := .cells #[.int .i64 t435, .int .i64 t436, .int .i64 t437, .int .i64 t438] 27 (0, 0)) (by (with_reducible repeat (first | apply qkn | apply qkd)); refine qkp (cs := #[.int .i64 t435, .int .i64 t436, .int .i64 t437, .int .i64 0]) ?_ 3 _ rfl; (with_reducible repeat (first | apply qkn | apply qkd)); refine qkp (cs := #[.int .i64 t435, .int .i64 t436, .int .i64 0, .int .i64 0]) ?_ 2 _ rfl; (with_reducible repeat (first | apply qkn | apply qkd)); refine qkp (cs := #[.int .i64 t435, .int .i64 0, .int .i64 0, .int .i64 0]) ?_ 1 _ rfl; (with_reducible repeat (first | apply qkn | apply qkd)); refine qkp (cs := #[.int .i64 0, .int .i64 0, .int .i64 0, .int .i64 0]) ?_ 0 _ rfl; (with_reducible repeat (first | apply qkn | apply qkd)); exact BK440.out) hb); replace HB := Ad.mk (qbt (by repeat (first | (with_reducible first | exact HB.out | apply qbn | apply qb1 | refine qbs ?_ GE440.out) | exact HB.out)) hb); (try clear hb)) | ((with_reducible refine qgd (N := 21) rfl ?_); refine qbe ?hg (N := 21) ?hd (cs := #[.int .i64 0, .int .i64 0, .int .i64 0, .int .i64 0]) (t := 27) ?hr ?_; (case hd => rfl); (case hg => rfl); (case hr => first | (go_simp; done) | (go_simp; rfl)); intro gb446 hg w182 hbox hb; have BK446 := Ad.mk (hbox); have GW446 := Ad.mk ((by rw [hg]; exact (qbz (by repeat (first | (with_reducible first | exact HB.out | apply qbn | apply qb1) | exact HB.out))) : w.heap.size ≤ gb446)); have GE446 := Ad.mk ((by rw [hg]; exact (qbz (by repeat (first | (with_reducible first | exact HB.out | apply qbn | apply qb1) | exact HB.out))) : w.heap.size ≤ gb446)); have NB392_446 := Ad.mk ((by rw [hg]; exact Nat.ne_of_lt (qkl (by exact BK392.out)) : gb392 ≠ gb446)); have NB446_392 := Ad.mk ((by rw [hg]; exact Nat.ne_of_gt (qkl (by exact BK392.out)) : gb446 ≠ gb392)); have NB393_446 := Ad.mk ((by rw [hg]; exact Nat.ne_of_lt (qkl (by exact BK393.out)) : gb393 ≠ gb446)); have NB446_393 := Ad.mk ((by rw [hg]; exact Nat.ne_of_gt (qkl (by exact BK393.out)) : gb446 ≠ gb393)); have NB394_446 := Ad.mk ((by rw [hg]; exact Nat.ne_of_lt (qkl (by exact BK394.out)) : gb394 ≠ gb446)); have NB446_394 := Ad.mk ((by rw [hg]; exact Nat.ne_of_gt (qkl (by exact BK394.out)) : gb446 ≠ gb394)); have NB408_446 := Ad.mk ((by rw [hg]; exact Nat.ne_of_lt (qkl (by exact BK408.out)) : gb408 ≠ gb446)); have NB446_408 := Ad.mk ((by rw [hg]; exact Nat.ne_of_gt (qkl (by exact BK408.out)) : gb446 ≠ gb408)); have NB414_446 := Ad.mk ((by rw [hg]; exact Nat.ne_of_lt (qkl (by exact BK414.out)) : gb414 ≠ gb446)); have NB446_414 := Ad.mk ((by rw [hg]; exact Nat.ne_of_gt (qkl (by exact BK414.out)) : gb446 ≠ gb414)); have NB418_446 := Ad.mk ((by rw [hg]; exact Nat.ne_of_lt (qkl (by exact BK418.out)) : gb418 ≠ gb446)); have NB446_418 := Ad.mk ((by rw [hg]; exact Nat.ne_of_gt (qkl (by exact BK418.out)) : gb446 ≠ gb418)); have NB425_446 := Ad.mk ((by rw [hg]; exact Nat.ne_of_lt (qkl (by exact BK425.out)) : gb425 ≠ gb446)); have NB446_425 := Ad.mk ((by rw [hg]; exact Nat.ne_of_gt (qkl (by exact BK425.out)) : gb446 ≠ gb425)); have NB440_446 := Ad.mk ((by rw [hg]; exact Nat.ne_of_lt (qkl (by exact BK440.out)) : gb440 ≠ gb446)); have NB446_440 := Ad.mk ((by rw [hg]; exact Nat.ne_of_gt (qkl (by exact BK440.out)) : gb446 ≠ gb440)); replace BK392 := Ad.mk (qkb (by exact BK392.out) hb); replace BK393 := Ad.mk (qkb (by exact BK393.out) hb); replace BK394 := Ad.mk (qkb (by exact BK394.out) hb); replace BK408 := Ad.mk (qkb (by exact BK408.out) hb); replace BK414 := Ad.mk (qkb (by exact BK414.out) hb); replace BK418 := Ad.mk (qkb (by exact BK418.out) hb); replace BK425 := Ad.mk (qkb (by exact BK425.out) hb); replace BK440 := Ad.mk (qkb (by exact BK440.out) hb); replace HB := Ad.mk (qbt (by repeat (first | (with_reducible first | exact HB.out | apply qbn | apply qb1) | exact HB.out)) hb); clear hb hbox hg; have hnb183 := NB446_392.out; have hnc183 := NB392_446.out; have hnb184 := NB446_393.out; have hnc184 := NB393_446.out; have hnb185 := NB446_394.out; have hnc185 := NB394_446.out; have hnb186 := NB446_408.out; have hnc186 := NB408_446.out; have hnb187 := NB446_414.out; have hnc187 := NB414_446.out; have hnb188 := NB446_418.out; have hnc188 := NB418_446.out; have hnb189 := NB446_425.out; have hnc189 := NB425_446.out; have hnb190 := NB446_440.out; have hnc190 := NB440_446.out; have hcz191_0 : w182.cell? ⟨gb446, 0, none⟩ = some (.int .i64 0) := (qkc BK446.out 0).trans rfl; have hcz191_1 : w182.cell? ⟨gb446, 1, none⟩ = some (.int .i64 0) := (qkc BK446.out 1).trans rfl; have hcz191_2 : w182.cell? ⟨gb446, 2, none⟩ = some (.int .i64 0) := (qkc BK446.out 2).trans rfl; have hcz191_3 : w182.cell? ⟨gb446, 3, none⟩ = some (.int .i64 0) := (qkc BK446.out 3).trans rfl; have hfz191_0 := qkz BK446.out 0; have hfz191_1 := qkz BK446.out 1; have hfz191_2 := qkz BK446.out 2; have hfz191_3 := qkz BK446.out 3; have hcz192_0 : w182.cell? ⟨gb392, 0, none⟩ = some (.int .i64 t379) := (qkc BK392.out 0).trans rfl; have hcz192_1 : w182.cell? ⟨gb392, 1, none⟩ = some (.int .i64 t380) := (qkc BK392.out 1).trans rfl; have hcz192_2 : w182.cell? ⟨gb392, 2, none⟩ = some (.int .i64 t381) := (qkc BK392.out 2).trans rfl; have hcz192_3 : w182.cell? ⟨gb392, 3, none⟩ = some (.int .i64 t382) := (qkc BK392.out 3).trans rfl; have hfz192_0 := qkz BK392.out 0; have hfz192_1 := qkz BK392.out 1; have hfz192_2 := qkz BK392.out 2; have hfz192_3 := qkz BK392.out 3; have hcz193_0 : w182.cell? ⟨gb393, 0, none⟩ = some (.int .i64 t384) := (qkc BK393.out 0).trans rfl; have hcz193_1 : w182.cell? ⟨gb393, 1, none⟩ = some (.int .i64 t385) := (qkc BK393.out 1).trans rfl; have hcz193_2 : w182.cell? ⟨gb393, 2, none⟩ = some (.int .i64 t386) := (qkc BK393.out 2).trans rfl; have hcz193_3 : w182.cell? ⟨gb393, 3, none⟩ = some (.int .i64 t387) := (qkc BK393.out 3).trans rfl; have hfz193_0 := qkz BK393.out 0; have hfz193_1 := qkz BK393.out 1; have hfz193_2 := qkz BK393.out 2; have hfz193_3 := qkz BK393.out 3) | ((with_reducible refine qgc (f := 25) rfl ?_); refine goesL_ (some 146) rfl rfl Tryd.func25 (by kernel_rfl) rfl #[.agg #[.int .i64 t379, .int .i64 t380, .int .i64 t381, .int .i64 t382], .agg #[.int .i64 t384, .int .i64 t385, .int .i64 t386, .int .i64 t387]] rfl (by (try simp only [List.map_toArray, List.map_cons, List.map_nil]); first | done | rfl) ?_; (with_reducible refine (tune_Compare.calls kj71 t379 t380 t381 t382 t384 t385 t386 t387 t447 t448 _ A144.out).mono ?_); rintro e w194 ⟨rfl, hb⟩; refine ⟨_, rfl, ?_⟩; replace BK392 := Ad.mk (qkb (g := gb392) (o := .cells #[.int .i64 t379, .int .i64 t380, .int .i64 t381, .int .i64 t382] 27 (0, 0)) (by (iterate 4 ((with_reducible repeat (first | apply qkn | apply qkd)); refine qkf ?_ NB392_446.out _)); (with_reducible repeat (first | apply qkn | apply qkd)); exact BK392.out) hb); replace BK393 := Ad.mk (qkb (g := gb393) (o := .cells #[.int .i64 t384, .int .i64 t385, .int .i64 t386, .int .i64 t387] 27 (0, 0)) (by (iterate 4 ((with_reducible repeat (first | apply qkn | apply qkd)); refine qkf ?_ NB393_446.out _)); (with_reducible repeat (first | apply qkn | apply qkd)); exact BK393.out) hb); replace BK394 := Ad.mk (qkb (g := gb394) (o := .cells #[.int .i64 t389, .int .i64 t390] 30 (0, 0)) (by (iterate 4 ((with_reducible repeat (first | apply qkn | apply qkd)); refine qkf ?_ NB394_446.out _)); (with_reducible repeat (first | apply qkn | apply qkd)); exact BK394.out) hb); replace BK408 := Ad.mk (qkb (g := gb408) (o := .cells #[.int .i64 t403, .int .i64 t404, .int .i64 t405, .int .i64 t406] 27 (0, 0)) (by (iterate 4 ((with_reducible repeat (first | apply qkn | apply qkd)); refine qkf ?_ NB408_446.out _)); (with_reducible repeat (first | apply qkn | apply qkd)); exact BK408.out) hb); replace BK414 := Ad.mk (qkb (g := gb414) (o := .cells #[.int .i64 t409, .int .i64 t410, .int .i64 t411, .int .i64 t412] 27 (0, 0)) (by (iterate 4 ((with_reducible repeat (first | apply qkn | apply qkd)); refine qkf ?_ NB414_446.out _)); (with_reducible repeat (first | apply qkn | apply qkd)); exact BK414.out) hb); replace BK418 := Ad.mk (qkb (g := gb418) (o := .cells #[.int .i64 t415, .int .i64 t416] 30 (0, 0)) (by (iterate 4 ((with_reducible repeat (first | apply qkn | apply qkd)); refine qkf ?_ NB418_446.out _)); (with_reducible repeat (first | apply qkn | apply qkd)); exact BK418.out) hb); replace BK425 := Ad.mk (qkb (g := gb425) (o := .cells #[.int .i64 t419, .int .i64 t420, .int .i64 t421, .int .i64 t422] 27 (0, 0)) (by (iterate 4 ((with_reducible repeat (first | apply qkn | apply qkd)); refine qkf ?_ NB425_446.out _)); (with_reducible repeat (first | apply qkn | apply qkd)); exact BK425.out) hb); replace BK440 := Ad.mk (qkb (g := gb440) (o := .cells #[.int .i64 t435, .int .i64 t436, .int .i64 t437, .int .i64 t438] 27 (0, 0)) (by (iterate 4 ((with_reducible repeat (first | apply qkn | apply qkd)); refine qkf ?_ NB440_446.out _)); (with_reducible repeat (first | apply qkn | apply qkd)); exact BK440.out) hb); replace BK446 := Ad.mk (qkb (g := gb446) (o := .cells #[.int .i64 t441, .int .i64 t442, .int .i64 t443, .int .i64 t444] 27 (0, 0)) (by (with_reducible repeat (first | apply qkn | apply qkd)); refine qkp (cs := #[.int .i64 t441, .int .i64 t442, .int .i64 t443, .int .i64 0]) ?_ 3 _ rfl; (with_reducible repeat (first | apply qkn | apply qkd)); refine qkp (cs := #[.int .i64 t441, .int .i64 t442, .int .i64 0, .int .i64 0]) ?_ 2 _ rfl; (with_reducible repeat (first | apply qkn | apply qkd)); refine qkp (cs := #[.int .i64 t441, .int .i64 0, .int .i64 0, .int .i64 0]) ?_ 1 _ rfl; (with_reducible repeat (first | apply qkn | apply qkd)); refine qkp (cs := #[.int .i64 0, .int .i64 0, .int .i64 0, .int .i64 0]) ?_ 0 _ rfl; (with_reducible repeat (first | apply qkn | apply qkd)); exact BK446.out) hb); replace HB := Ad.mk (qbt (by repeat (first | (with_reducible first | exact HB.out | apply qbn | apply qb1 | refine qbs ?_ GE446.out) | exact HB.out)) hb); (try clear hb); have hcz195_0 : w194.cell? ⟨gb392, 0, none⟩ = some (.int .i64 t379) := (qkc BK392.out 0).trans rfl; have hcz195_1 : w194.cell? ⟨gb392, 1, none⟩ = some (.int .i64 t380) := (qkc BK392.out 1).trans rfl; have hcz195_2 : w194.cell? ⟨gb392, 2, none⟩ = some (.int .i64 t381) := (qkc BK392.out 2).trans rfl; have hcz195_3 : w194.cell? ⟨gb392, 3, none⟩ = some (.int .i64 t382) := (qkc BK392.out 3).trans rfl; have hfz195_0 := qkz BK392.out 0; have hfz195_1 := qkz BK392.out 1; have hfz195_2 := qkz BK392.out 2; have hfz195_3 := qkz BK392.out 3; have hcz196_0 : w194.cell? ⟨gb393, 0, none⟩ = some (.int .i64 t384) := (qkc BK393.out 0).trans rfl; have hcz196_1 : w194.cell? ⟨gb393, 1, none⟩ = some (.int .i64 t385) := (qkc BK393.out 1).trans rfl; have hcz196_2 : w194.cell? ⟨gb393, 2, none⟩ = some (.int .i64 t386) := (qkc BK393.out 2).trans rfl; have hcz196_3 : w194.cell? ⟨gb393, 3, none⟩ = some (.int .i64 t387) := (qkc BK393.out 3).trans rfl; have hfz196_0 := qkz BK393.out 0; have hfz196_1 := qkz BK393.out 1; have hfz196_2 := qkz BK393.out 2; have hfz196_3 := qkz BK393.out 3) | ((with_reducible refine qgc (f := 27) rfl ?_); refine goesL_ (some 184) rfl rfl Tryd.func27 (by kernel_rfl) rfl #[.agg #[.int .i64 t379, .int .i64 t380, .int .i64 t381, .int .i64 t382], .agg #[.int .i64 t384, .int .i64 t385, .int .i64 t386, .int .i64 t387], .int .i64 1] rfl (by (try simp only [List.map_toArray, List.map_cons, List.map_nil]); first | done | rfl) ?_; (with_reducible refine (gleeref1_SumOf.calls kj71 t379 t380 t381 t382 t384 t385 t386 t387 1 t450 t451 t452 t453 t454 _ A146.out).mono ?_); rintro e w197 ⟨rfl, hb⟩; refine ⟨_, rfl, ?_⟩; replace BK392 := Ad.mk (qkb (by exact BK392.out) hb); replace BK393 := Ad.mk (qkb (by exact BK393.out) hb); replace BK394 := Ad.mk (qkb (by exact BK394.out) hb); replace BK408 := Ad.mk (qkb (by exact BK408.out) hb); replace BK414 := Ad.mk (qkb (by exact BK414.out) hb); replace BK418 := Ad.mk (qkb (by exact BK418.out) hb); replace BK425 := Ad.mk (qkb (by exact BK425.out) hb); replace BK440 := Ad.mk (qkb (by exact BK440.out) hb); replace BK446 := Ad.mk (qkb (by exact BK446.out) hb); replace HB := Ad.mk (qbt (by repeat (first | (with_reducible first | exact HB.out | apply qbn | apply qb1) | exact HB.out)) hb); (try clear hb)) | ((with_reducible refine qgd (N := 24) rfl ?_); refine qbe ?hg (N := 24) ?hd (cs := #[.int .i64 0, .int .i64 0, .int .i64 0, .int .i64 0]) (t := 27) ?hr ?_; (case hd => rfl); (case hg => rfl); (case hr => first | (go_simp; done) | (go_simp; rfl)); intro gb455 hg w198 hbox hb; have BK455 := Ad.mk (hbox); have GW455 := Ad.mk ((by rw [hg]; exact (qbz (by repeat (first | (with_reducible first | exact HB.out | apply qbn | apply qb1) | exact HB.out))) : w.heap.size ≤ gb455)); have GE455 := Ad.mk ((by rw [hg]; exact (qbz (by repeat (first | (with_reducible first | exact HB.out | apply qbn | apply qb1) | exact HB.out))) : w.heap.size ≤ gb455)); have NB392_455 := Ad.mk ((by rw [hg]; exact Nat.ne_of_lt (qkl (by exact BK392.out)) : gb392 ≠ gb455)); have NB455_392 := Ad.mk ((by rw [hg]; exact Nat.ne_of_gt (qkl (by exact BK392.out)) : gb455 ≠ gb392)); have NB393_455 := Ad.mk ((by rw [hg]; exact Nat.ne_of_lt (qkl (by exact BK393.out)) : gb393 ≠ gb455)); have NB455_393 := Ad.mk ((by rw [hg]; exact Nat.ne_of_gt (qkl (by exact BK393.out)) : gb455 ≠ gb393)); have NB394_455 := Ad.mk ((by rw [hg]; exact Nat.ne_of_lt (qkl (by exact BK394.out)) : gb394 ≠ gb455)); have NB455_394 := Ad.mk ((by rw [hg]; exact Nat.ne_of_gt (qkl (by exact BK394.out)) : gb455 ≠ gb394)); have NB408_455 := Ad.mk ((by rw [hg]; exact Nat.ne_of_lt (qkl (by exact BK408.out)) : gb408 ≠ gb455)); have NB455_408 := Ad.mk ((by rw [hg]; exact Nat.ne_of_gt (qkl (by exact BK408.out)) : gb455 ≠ gb408)); have NB414_455 := Ad.mk ((by rw [hg]; exact Nat.ne_of_lt (qkl (by exact BK414.out)) : gb414 ≠ gb455)); have NB455_414 := Ad.mk ((by rw [hg]; exact Nat.ne_of_gt (qkl (by exact BK414.out)) : gb455 ≠ gb414)); have NB418_455 := Ad.mk ((by rw [hg]; exact Nat.ne_of_lt (qkl (by exact BK418.out)) : gb418 ≠ gb455)); have NB455_418 := Ad.mk ((by rw [hg]; exact Nat.ne_of_gt (qkl (by exact BK418.out)) : gb455 ≠ gb418)); have NB425_455 := Ad.mk ((by rw [hg]; exact Nat.ne_of_lt (qkl (by exact BK425.out)) : gb425 ≠ gb455)); have NB455_425 := Ad.mk ((by rw [hg]; exact Nat.ne_of_gt (qkl (by exact BK425.out)) : gb455 ≠ gb425)); have NB440_455 := Ad.mk ((by rw [hg]; exact Nat.ne_of_lt (qkl (by exact BK440.out)) : gb440 ≠ gb455)); have NB455_440 := Ad.mk ((by rw [hg]; exact Nat.ne_of_gt (qkl (by exact BK440.out)) : gb455 ≠ gb440)); have NB446_455 := Ad.mk ((by rw [hg]; exact Nat.ne_of_lt (qkl (by exact BK446.out)) : gb446 ≠ gb455)); have NB455_446 := Ad.mk ((by rw [hg]; exact Nat.ne_of_gt (qkl (by exact BK446.out)) : gb455 ≠ gb446)); replace BK392 := Ad.mk (qkb (by exact BK392.out) hb); replace BK393 := Ad.mk (qkb (by exact BK393.out) hb); replace BK394 := Ad.mk (qkb (by exact BK394.out) hb); replace BK408 := Ad.mk (qkb (by exact BK408.out) hb); replace BK414 := Ad.mk (qkb (by exact BK414.out) hb); replace BK418 := Ad.mk (qkb (by exact BK418.out) hb); replace BK425 := Ad.mk (qkb (by exact BK425.out) hb); replace BK440 := Ad.mk (qkb (by exact BK440.out) hb); replace BK446 := Ad.mk (qkb (by exact BK446.out) hb); replace HB := Ad.mk (qbt (by repeat (first | (with_reducible first | exact HB.out | apply qbn | apply qb1) | exact HB.out)) hb); clear hb hbox hg; have hnb199 := NB455_392.out; have hnc199 := NB392_455.out; have hnb200 := NB455_393.out; have hnc200 := NB393_455.out; have hnb201 := NB455_394.out; have hnc201 := NB394_455.out; have hnb202 := NB455_408.out; have hnc202 := NB408_455.out; have hnb203 := NB455_414.out; have hnc203 := NB414_455.out; have hnb204 := NB455_418.out; have hnc204 := NB418_455.out; have hnb205 := NB455_425.out; have hnc205 := NB425_455.out; have hnb206 := NB455_440.out; have hnc206 := NB440_455.out; have hnb207 := NB455_446.out; have hnc207 := NB446_455.out; have hcz208_0 : w198.cell? ⟨gb455, 0, none⟩ = some (.int .i64 0) := (qkc BK455.out 0).trans rfl; have hcz208_1 : w198.cell? ⟨gb455, 1, none⟩ = some (.int .i64 0) := (qkc BK455.out 1).trans rfl; have hcz208_2 : w198.cell? ⟨gb455, 2, none⟩ = some (.int .i64 0) := (qkc BK455.out 2).trans rfl; have hcz208_3 : w198.cell? ⟨gb455, 3, none⟩ = some (.int .i64 0) := (qkc BK455.out 3).trans rfl; have hfz208_0 := qkz BK455.out 0; have hfz208_1 := qkz BK455.out 1; have hfz208_2 := qkz BK455.out 2; have hfz208_3 := qkz BK455.out 3; have hcz209_0 : w198.cell? ⟨gb392, 0, none⟩ = some (.int .i64 t379) := (qkc BK392.out 0).trans rfl; have hcz209_1 : w198.cell? ⟨gb392, 1, none⟩ = some (.int .i64 t380) := (qkc BK392.out 1).trans rfl; have hcz209_2 : w198.cell? ⟨gb392, 2, none⟩ = some (.int .i64 t381) := (qkc BK392.out 2).trans rfl; have hcz209_3 : w198.cell? ⟨gb392, 3, none⟩ = some (.int .i64 t382) := (qkc BK392.out 3).trans rfl; have hfz209_0 := qkz BK392.out 0; have hfz209_1 := qkz BK392.out 1; have hfz209_2 := qkz BK392.out 2; have hfz209_3 := qkz BK392.out 3; have hcz210_0 : w198.cell? ⟨gb393, 0, none⟩ = some (.int .i64 t384) := (qkc BK393.out 0).trans rfl; have hcz210_1 : w198.cell? ⟨gb393, 1, none⟩ = some (.int .i64 t385) := (qkc BK393.out 1).trans rfl; have hcz210_2 : w198.cell? ⟨gb393, 2, none⟩ = some (.int .i64 t386) := (qkc BK393.out 2).trans rfl; have hcz210_3 : w198.cell? ⟨gb393, 3, none⟩ = some (.int .i64 t387) := (qkc BK393.out 3).trans rfl; have hfz210_0 := qkz BK393.out 0; have hfz210_1 := qkz BK393.out 1; have hfz210_2 := qkz BK393.out 2; have hfz210_3 := qkz BK393.out 3) | ((with_reducible refine qgc (f := 27) rfl ?_); refine goesL_ (some 190) rfl rfl Tryd.func27 (by kernel_rfl) rfl #[.agg #[.int .i64 t379, .int .i64 t380, .int .i64 t381, .int .i64 t382], .agg #[.int .i64 t384, .int .i64 t385, .int .i64 t386, .int .i64 t387], .int .i64 (-1)] rfl (by (try simp only [List.map_toArray, List.map_cons, List.map_nil]); first | done | rfl) ?_; (with_reducible refine (gleeref1_SumOf.calls kj71 t379 t380 t381 t382 t384 t385 t386 t387 (-1) t456 t457 t458 t459 t460 _ A147.out).mono ?_); rintro e w211 ⟨rfl, hb⟩; refine ⟨_, rfl, ?_⟩; replace BK392 := Ad.mk (qkb (g := gb392) (o := .cells #[.int .i64 t379, .int .i64 t380, .int .i64 t381, .int .i64 t382] 27 (0, 0)) (by (iterate 4 ((with_reducible repeat (first | apply qkn | apply qkd)); refine qkf ?_ NB392_455.out _)); (with_reducible repeat (first | apply qkn | apply qkd)); exact BK392.out) hb); replace BK393 := Ad.mk (qkb (g := gb393) (o := .cells #[.int .i64 t384, .int .i64 t385, .int .i64 t386, .int .i64 t387] 27 (0, 0)) (by (iterate 4 ((with_reducible repeat (first | apply qkn | apply qkd)); refine qkf ?_ NB393_455.out _)); (with_reducible repeat (first | apply qkn | apply qkd)); exact BK393.out) hb); replace BK394 := Ad.mk (qkb (g := gb394) (o := .cells #[.int .i64 t389, .int .i64 t390] 30 (0, 0)) (by (iterate 4 ((with_reducible repeat (first | apply qkn | apply qkd)); refine qkf ?_ NB394_455.out _)); (with_reducible repeat (first | apply qkn | apply qkd)); exact BK394.out) hb); replace BK408 := Ad.mk (qkb (g := gb408) (o := .cells #[.int .i64 t403, .int .i64 t404, .int .i64 t405, .int .i64 t406] 27 (0, 0)) (by (iterate 4 ((with_reducible repeat (first | apply qkn | apply qkd)); refine qkf ?_ NB408_455.out _)); (with_reducible repeat (first | apply qkn | apply qkd)); exact BK408.out) hb); replace BK414 := Ad.mk (qkb (g := gb414) (o := .cells #[.int .i64 t409, .int .i64 t410, .int .i64 t411, .int .i64 t412] 27 (0, 0)) (by (iterate 4 ((with_reducible repeat (first | apply qkn | apply qkd)); refine qkf ?_ NB414_455.out _)); (with_reducible repeat (first | apply qkn | apply qkd)); exact BK414.out) hb); replace BK418 := Ad.mk (qkb (g := gb418) (o := .cells #[.int .i64 t415, .int .i64 t416] 30 (0, 0)) (by (iterate 4 ((with_reducible repeat (first | apply qkn | apply qkd)); refine qkf ?_ NB418_455.out _)); (with_reducible repeat (first | apply qkn | apply qkd)); exact BK418.out) hb); replace BK425 := Ad.mk (qkb (g := gb425) (o := .cells #[.int .i64 t419, .int .i64 t420, .int .i64 t421, .int .i64 t422] 27 (0, 0)) (by (iterate 4 ((with_reducible repeat (first | apply qkn | apply qkd)); refine qkf ?_ NB425_455.out _)); (with_reducible repeat (first | apply qkn | apply qkd)); exact BK425.out) hb); replace BK440 := Ad.mk (qkb (g := gb440) (o := .cells #[.int .i64 t435, .int .i64 t436, .int .i64 t437, .int .i64 t438] 27 (0, 0)) (by (iterate 4 ((with_reducible repeat (first | apply qkn | apply qkd)); refine qkf ?_ NB440_455.out _)); (with_reducible repeat (first | apply qkn | apply qkd)); exact BK440.out) hb); replace BK446 := Ad.mk (qkb (g := gb446) (o := .cells #[.int .i64 t441, .int .i64 t442, .int .i64 t443, .int .i64 t444] 27 (0, 0)) (by (iterate 4 ((with_reducible repeat (first | apply qkn | apply qkd)); refine qkf ?_ NB446_455.out _)); (with_reducible repeat (first | apply qkn | apply qkd)); exact BK446.out) hb); replace BK455 := Ad.mk (qkb (g := gb455) (o := .cells #[.int .i64 t450, .int .i64 t451, .int .i64 t452, .int .i64 t453] 27 (0, 0)) (by (with_reducible repeat (first | apply qkn | apply qkd)); refine qkp (cs := #[.int .i64 t450, .int .i64 t451, .int .i64 t452, .int .i64 0]) ?_ 3 _ rfl; (with_reducible repeat (first | apply qkn | apply qkd)); refine qkp (cs := #[.int .i64 t450, .int .i64 t451, .int .i64 0, .int .i64 0]) ?_ 2 _ rfl; (with_reducible repeat (first | apply qkn | apply qkd)); refine qkp (cs := #[.int .i64 t450, .int .i64 0, .int .i64 0, .int .i64 0]) ?_ 1 _ rfl; (with_reducible repeat (first | apply qkn | apply qkd)); refine qkp (cs := #[.int .i64 0, .int .i64 0, .int .i64 0, .int .i64 0]) ?_ 0 _ rfl; (with_reducible repeat (first | apply qkn | apply qkd)); exact BK455.out) hb); replace HB := Ad.mk (qbt (by repeat (first | (with_reducible first | exact HB.out | apply qbn | apply qb1 | refine qbs ?_ GE455.out) | exact HB.out)) hb); (try clear hb)) | ((with_reducible refine qgd (N := 26) rfl ?_); refine qbe ?hg (N := 26) ?hd (cs := #[.int .i64 0, .int .i64 0, .int .i64 0, .int .i64 0]) (t := 27) ?hr ?_; (case hd => rfl); (case hg => rfl); (case hr => first | (go_simp; done) | (go_simp; rfl)); intro gb461 hg w212 hbox hb; have BK461 := Ad.mk (hbox); have GW461 := Ad.mk ((by rw [hg]; exact (qbz (by repeat (first | (with_reducible first | exact HB.out | apply qbn | apply qb1) | exact HB.out))) : w.heap.size ≤ gb461)); have GE461 := Ad.mk ((by rw [hg]; exact (qbz (by repeat (first | (with_reducible first | exact HB.out | apply qbn | apply qb1) | exact HB.out))) : w.heap.size ≤ gb461)); have NB392_461 := Ad.mk ((by rw [hg]; exact Nat.ne_of_lt (qkl (by exact BK392.out)) : gb392 ≠ gb461)); have NB461_392 := Ad.mk ((by rw [hg]; exact Nat.ne_of_gt (qkl (by exact BK392.out)) : gb461 ≠ gb392)); have NB393_461 := Ad.mk ((by rw [hg]; exact Nat.ne_of_lt (qkl (by exact BK393.out)) : gb393 ≠ gb461)); have NB461_393 := Ad.mk ((by rw [hg]; exact Nat.ne_of_gt (qkl (by exact BK393.out)) : gb461 ≠ gb393)); have NB394_461 := Ad.mk ((by rw [hg]; exact Nat.ne_of_lt (qkl (by exact BK394.out)) : gb394 ≠ gb461)); have NB461_394 := Ad.mk ((by rw [hg]; exact Nat.ne_of_gt (qkl (by exact BK394.out)) : gb461 ≠ gb394)); have NB408_461 := Ad.mk ((by rw [hg]; exact Nat.ne_of_lt (qkl (by exact BK408.out)) : gb408 ≠ gb461)); have NB461_408 := Ad.mk ((by rw [hg]; exact Nat.ne_of_gt (qkl (by exact BK408.out)) : gb461 ≠ gb408)); have NB414_461 := Ad.mk ((by rw [hg]; exact Nat.ne_of_lt (qkl (by exact BK414.out)) : gb414 ≠ gb461)); have NB461_414 := Ad.mk ((by rw [hg]; exact Nat.ne_of_gt (qkl (by exact BK414.out)) : gb461 ≠ gb414)); have NB418_461 := Ad.mk ((by rw [hg]; exact Nat.ne_of_lt (qkl (by exact BK418.out)) : gb418 ≠ gb461)); have NB461_418 := Ad.mk ((by rw [hg]; exact Nat.ne_of_gt (qkl (by exact BK418.out)) : gb461 ≠ gb418)); have NB425_461 := Ad.mk ((by rw [hg]; exact Nat.ne_of_lt (qkl (by exact BK425.out)) : gb425 ≠ gb461)); have NB461_425 := Ad.mk ((by rw [hg]; exact Nat.ne_of_gt (qkl (by exact BK425.out)) : gb461 ≠ gb425)); have NB440_461 := Ad.mk ((by rw [hg]; exact Nat.ne_of_lt (qkl (by exact BK440.out)) : gb440 ≠ gb461)); have NB461_440 := Ad.mk ((by rw [hg]; exact Nat.ne_of_gt (qkl (by exact BK440.out)) : gb461 ≠ gb440)); have NB446_461 := Ad.mk ((by rw [hg]; exact Nat.ne_of_lt (qkl (by exact BK446.out)) : gb446 ≠ gb461)); have NB461_446 := Ad.mk ((by rw [hg]; exact Nat.ne_of_gt (qkl (by exact BK446.out)) : gb461 ≠ gb446)); have NB455_461 := Ad.mk ((by rw [hg]; exact Nat.ne_of_lt (qkl (by exact BK455.out)) : gb455 ≠ gb461)); have NB461_455 := Ad.mk ((by rw [hg]; exact Nat.ne_of_gt (qkl (by exact BK455.out)) : gb461 ≠ gb455)); replace BK392 := Ad.mk (qkb (by exact BK392.out) hb); replace BK393 := Ad.mk (qkb (by exact BK393.out) hb); replace BK394 := Ad.mk (qkb (by exact BK394.out) hb); replace BK408 := Ad.mk (qkb (by exact BK408.out) hb); replace BK414 := Ad.mk (qkb (by exact BK414.out) hb); replace BK418 := Ad.mk (qkb (by exact BK418.out) hb); replace BK425 := Ad.mk (qkb (by exact BK425.out) hb); replace BK440 := Ad.mk (qkb (by exact BK440.out) hb); replace BK446 := Ad.mk (qkb (by exact BK446.out) hb); replace BK455 := Ad.mk (qkb (by exact BK455.out) hb); replace HB := Ad.mk (qbt (by repeat (first | (with_reducible first | exact HB.out | apply qbn | apply qb1) | exact HB.out)) hb); clear hb hbox hg; have hnb213 := NB461_392.out; have hnc213 := NB392_461.out; have hnb214 := NB461_393.out; have hnc214 := NB393_461.out; have hnb215 := NB461_394.out; have hnc215 := NB394_461.out; have hnb216 := NB461_408.out; have hnc216 := NB408_461.out; have hnb217 := NB461_414.out; have hnc217 := NB414_461.out; have hnb218 := NB461_418.out; have hnc218 := NB418_461.out; have hnb219 := NB461_425.out; have hnc219 := NB425_461.out; have hnb220 := NB461_440.out; have hnc220 := NB440_461.out; have hnb221 := NB461_446.out; have hnc221 := NB446_461.out; have hnb222 := NB461_455.out; have hnc222 := NB455_461.out; have hcz223_0 : w212.cell? ⟨gb461, 0, none⟩ = some (.int .i64 0) := (qkc BK461.out 0).trans rfl; have hcz223_1 : w212.cell? ⟨gb461, 1, none⟩ = some (.int .i64 0) := (qkc BK461.out 1).trans rfl; have hcz223_2 : w212.cell? ⟨gb461, 2, none⟩ = some (.int .i64 0) := (qkc BK461.out 2).trans rfl; have hcz223_3 : w212.cell? ⟨gb461, 3, none⟩ = some (.int .i64 0) := (qkc BK461.out 3).trans rfl; have hfz223_0 := qkz BK461.out 0; have hfz223_1 := qkz BK461.out 1; have hfz223_2 := qkz BK461.out 2; have hfz223_3 := qkz BK461.out 3; have hcz224_0 : w212.cell? ⟨gb440, 0, none⟩ = some (.int .i64 t435) := (qkc BK440.out 0).trans rfl; have hcz224_1 : w212.cell? ⟨gb440, 1, none⟩ = some (.int .i64 t436) := (qkc BK440.out 1).trans rfl; have hcz224_2 : w212.cell? ⟨gb440, 2, none⟩ = some (.int .i64 t437) := (qkc BK440.out 2).trans rfl; have hcz224_3 : w212.cell? ⟨gb440, 3, none⟩ = some (.int .i64 t438) := (qkc BK440.out 3).trans rfl; have hfz224_0 := qkz BK440.out 0; have hfz224_1 := qkz BK440.out 1; have hfz224_2 := qkz BK440.out 2; have hfz224_3 := qkz BK440.out 3; have hcz225_0 : w212.cell? ⟨gb455, 0, none⟩ = some (.int .i64 t450) := (qkc BK455.out 0).trans rfl; have hcz225_1 : w212.cell? ⟨gb455, 1, none⟩ = some (.int .i64 t451) := (qkc BK455.out 1).trans rfl; have hcz225_2 : w212.cell? ⟨gb455, 2, none⟩ = some (.int .i64 t452) := (qkc BK455.out 2).trans rfl; have hcz225_3 : w212.cell? ⟨gb455, 3, none⟩ = some (.int .i64 t453) := (qkc BK455.out 3).trans rfl; have hfz225_0 := qkz BK455.out 0; have hfz225_1 := qkz BK455.out 1; have hfz225_2 := qkz BK455.out 2; have hfz225_3 := qkz BK455.out 3; have hcz226_0 : w212.cell? ⟨gb446, 0, none⟩ = some (.int .i64 t441) := (qkc BK446.out 0).trans rfl; have hcz226_1 : w212.cell? ⟨gb446, 1, none⟩ = some (.int .i64 t442) := (qkc BK446.out 1).trans rfl; have hcz226_2 : w212.cell? ⟨gb446, 2, none⟩ = some (.int .i64 t443) := (qkc BK446.out 2).trans rfl; have hcz226_3 : w212.cell? ⟨gb446, 3, none⟩ = some (.int .i64 t444) := (qkc BK446.out 3).trans rfl; have hfz226_0 := qkz BK446.out 0; have hfz226_1 := qkz BK446.out 1; have hfz226_2 := qkz BK446.out 2; have hfz226_3 := qkz BK446.out 3; have hcz227_0 : w212.cell? ⟨gb392, 0, none⟩ = some (.int .i64 t379) := (qkc BK392.out 0).trans rfl; have hcz227_1 : w212.cell? ⟨gb392, 1, none⟩ = some (.int .i64 t380) := (qkc BK392.out 1).trans rfl; have hcz227_2 : w212.cell? ⟨gb392, 2, none⟩ = some (.int .i64 t381) := (qkc BK392.out 2).trans rfl; have hcz227_3 : w212.cell? ⟨gb392, 3, none⟩ = some (.int .i64 t382) := (qkc BK392.out 3).trans rfl; have hfz227_0 := qkz BK392.out 0; have hfz227_1 := qkz BK392.out 1; have hfz227_2 := qkz BK392.out 2; have hfz227_3 := qkz BK392.out 3; have hcz228_0 : w212.cell? ⟨gb393, 0, none⟩ = some (.int .i64 t384) := (qkc BK393.out 0).trans rfl; have hcz228_1 : w212.cell? ⟨gb393, 1, none⟩ = some (.int .i64 t385) := (qkc BK393.out 1).trans rfl; have hcz228_2 : w212.cell? ⟨gb393, 2, none⟩ = some (.int .i64 t386) := (qkc BK393.out 2).trans rfl; have hcz228_3 : w212.cell? ⟨gb393, 3, none⟩ = some (.int .i64 t387) := (qkc BK393.out 3).trans rfl; have hfz228_0 := qkz BK393.out 0; have hfz228_1 := qkz BK393.out 1; have hfz228_2 := qkz BK393.out 2; have hfz228_3 := qkz BK393.out 3) | (go_at_call 28; (with_reducible refine (gleeref1_ComparedOf.calls kj71 t379 t380 t381 t382 t384 t385 t386 t387 t462 _ A153.out).mono ?_); rintro e w229 ⟨rfl, hb⟩; replace BK392 := Ad.mk (qkb (g := gb392) (o := .cells #[.int .i64 t379, .int .i64 t380, .int .i64 t381, .int .i64 t382] 27 (0, 0)) (by (iterate 4 ((with_reducible repeat (first | apply qkn | apply qkd)); refine qkf ?_ NB392_461.out _)); (with_reducible repeat (first | apply qkn | apply qkd)); exact BK392.out) hb); replace BK393 := Ad.mk (qkb (g := gb393) (o := .cells #[.int .i64 t384, .int .i64 t385, .int .i64 t386, .int .i64 t387] 27 (0, 0)) (by (iterate 4 ((with_reducible repeat (first | apply qkn | apply qkd)); refine qkf ?_ NB393_461.out _)); (with_reducible repeat (first | apply qkn | apply qkd)); exact BK393.out) hb); replace BK394 := Ad.mk (qkb (g := gb394) (o := .cells #[.int .i64 t389, .int .i64 t390] 30 (0, 0)) (by (iterate 4 ((with_reducible repeat (first | apply qkn | apply qkd)); refine qkf ?_ NB394_461.out _)); (with_reducible repeat (first | apply qkn | apply qkd)); exact BK394.out) hb); replace BK408 := Ad.mk (qkb (g := gb408) (o := .cells #[.int .i64 t403, .int .i64 t404, .int .i64 t405, .int .i64 t406] 27 (0, 0)) (by (iterate 4 ((with_reducible repeat (first | apply qkn | apply qkd)); refine qkf ?_ NB408_461.out _)); (with_reducible repeat (first | apply qkn | apply qkd)); exact BK408.out) hb); replace BK414 := Ad.mk (qkb (g := gb414) (o := .cells #[.int .i64 t409, .int .i64 t410, .int .i64 t411, .int .i64 t412] 27 (0, 0)) (by (iterate 4 ((with_reducible repeat (first | apply qkn | apply qkd)); refine qkf ?_ NB414_461.out _)); (with_reducible repeat (first | apply qkn | apply qkd)); exact BK414.out) hb); replace BK418 := Ad.mk (qkb (g := gb418) (o := .cells #[.int .i64 t415, .int .i64 t416] 30 (0, 0)) (by (iterate 4 ((with_reducible repeat (first | apply qkn | apply qkd)); refine qkf ?_ NB418_461.out _)); (with_reducible repeat (first | apply qkn | apply qkd)); exact BK418.out) hb); replace BK425 := Ad.mk (qkb (g := gb425) (o := .cells #[.int .i64 t419, .int .i64 t420, .int .i64 t421, .int .i64 t422] 27 (0, 0)) (by (iterate 4 ((with_reducible repeat (first | apply qkn | apply qkd)); refine qkf ?_ NB425_461.out _)); (with_reducible repeat (first | apply qkn | apply qkd)); exact BK425.out) hb); replace BK440 := Ad.mk (qkb (g := gb440) (o := .cells #[.int .i64 t435, .int .i64 t436, .int .i64 t437, .int .i64 t438] 27 (0, 0)) (by (iterate 4 ((with_reducible repeat (first | apply qkn | apply qkd)); refine qkf ?_ NB440_461.out _)); (with_reducible repeat (first | apply qkn | apply qkd)); exact BK440.out) hb); replace BK446 := Ad.mk (qkb (g := gb446) (o := .cells #[.int .i64 t441, .int .i64 t442, .int .i64 t443, .int .i64 t444] 27 (0, 0)) (by (iterate 4 ((with_reducible repeat (first | apply qkn | apply qkd)); refine qkf ?_ NB446_461.out _)); (with_reducible repeat (first | apply qkn | apply qkd)); exact BK446.out) hb); replace BK455 := Ad.mk (qkb (g := gb455) (o := .cells #[.int .i64 t450, .int .i64 t451, .int .i64 t452, .int .i64 t453] 27 (0, 0)) (by (iterate 4 ((with_reducible repeat (first | apply qkn | apply qkd)); refine qkf ?_ NB455_461.out _)); (with_reducible repeat (first | apply qkn | apply qkd)); exact BK455.out) hb); replace BK461 := Ad.mk (qkb (g := gb461) (o := .cells #[.int .i64 t456, .int .i64 t457, .int .i64 t458, .int .i64 t459] 27 (0, 0)) (by (with_reducible repeat (first | apply qkn | apply qkd)); refine qkp (cs := #[.int .i64 t456, .int .i64 t457, .int .i64 t458, .int .i64 0]) ?_ 3 _ rfl; (with_reducible repeat (first | apply qkn | apply qkd)); refine qkp (cs := #[.int .i64 t456, .int .i64 t457, .int .i64 0, .int .i64 0]) ?_ 2 _ rfl; (with_reducible repeat (first | apply qkn | apply qkd)); refine qkp (cs := #[.int .i64 t456, .int .i64 0, .int .i64 0, .int .i64 0]) ?_ 1 _ rfl; (with_reducible repeat (first | apply qkn | apply qkd)); refine qkp (cs := #[.int .i64 0, .int .i64 0, .int .i64 0, .int .i64 0]) ?_ 0 _ rfl; (with_reducible repeat (first | apply qkn | apply qkd)); exact BK461.out) hb); replace HB := Ad.mk (qbt (by repeat (first | (with_reducible first | exact HB.out | apply qbn | apply qb1 | refine qbs ?_ GE461.out) | exact HB.out)) hb); (try clear hb)) | (go_at_call 26; (with_reducible refine (gleelaw1_tuned.calls  t463 _ A155.out).mono ?_); rintro e w230 ⟨rfl, hb⟩; replace BK392 := Ad.mk (qkb (by exact BK392.out) hb); replace BK393 := Ad.mk (qkb (by exact BK393.out) hb); replace BK394 := Ad.mk (qkb (by exact BK394.out) hb); replace BK408 := Ad.mk (qkb (by exact BK408.out) hb); replace BK414 := Ad.mk (qkb (by exact BK414.out) hb); replace BK418 := Ad.mk (qkb (by exact BK418.out) hb); replace BK425 := Ad.mk (qkb (by exact BK425.out) hb); replace BK440 := Ad.mk (qkb (by exact BK440.out) hb); replace BK446 := Ad.mk (qkb (by exact BK446.out) hb); replace BK455 := Ad.mk (qkb (by exact BK455.out) hb); replace BK461 := Ad.mk (qkb (by exact BK461.out) hb); replace HB := Ad.mk (qbt (by repeat (first | (with_reducible first | exact HB.out | apply qbn | apply qb1) | exact HB.out)) hb); (try clear hb)))
              go_ret
              exact ⟨by first | rfl | (simp [errW_none, errW_some] <;> rfl) | (simp [*, errW_none, errW_some] <;> rfl), by repeat (first | (with_reducible first | exact HB.out | apply qbn | apply qb1) | exact HB.out)⟩
             ·
              rw [if_neg c154] at H
              exact absurd H (by simp)
            ·
             rw [if_neg c152] at H
             exact absurd H (by simp)
           ·
            rw [if_neg c151] at H
            exact absurd H (by simp)
          ·
           rw [if_neg c150] at H
           exact absurd H (by simp)
         ·
          rw [if_neg c149] at H
          exact absurd H (by simp)
        ·
         rw [if_neg c148] at H
         exact absurd H (by simp)
       ·
        rw [if_neg c145] at H
        have c145b0 : (t401 == 0) = false := beq_eq_false_iff_ne.mpr c145
        have c145b1 : (t401 != 0) = true := bne_iff_ne.mpr c145
        by_cases c231 : t439 = t401
        ·
         rw [if_pos c231] at H
         have c231b0 : (t439 == t401) = true := beq_iff_eq.mpr c231
         have c231b1 : (t439 != t401) = false := bne_eq_false_iff_eq.mpr c231
         clear c231
         by_cases c232 : t445 = t401
         ·
          rw [if_pos c232] at H
          have c232b0 : (t445 == t401) = true := beq_iff_eq.mpr c232
          have c232b1 : (t445 != t401) = false := bne_eq_false_iff_eq.mpr c232
          clear c232
          by_cases c233 : t448 = t401
          ·
           rw [if_pos c233] at H
           have c233b0 : (t448 == t401) = true := beq_iff_eq.mpr c233
           have c233b1 : (t448 != t401) = false := bne_eq_false_iff_eq.mpr c233
           clear c233
           by_cases c234 : (t435 == 0 && (t436 == 0 && (t437 == 0 && (t438 == 0)))) = true
           ·
            rw [if_pos c234] at H
            have c234b0 : (t435 == 0 && (t436 == 0 && (t437 == 0 && (t438 == 0)))) = true := c234
            (try (have c234b1 : decide (t435 = 0 && (t436 == 0 && (t437 == 0 && (t438 == 0)))) = true := by simpa using c234))
            (try (have c234b2 : (t435 == 0 && (t436 == 0 && (t437 == 0 && (t438 == 0)))) = true := by simpa using c234))
            clear c234
            by_cases c235 : (t441 == 0 && (t442 == 0 && (t443 == 0 && (t444 == 0)))) = true
            ·
             rw [if_pos c235] at H
             have c235b0 : (t441 == 0 && (t442 == 0 && (t443 == 0 && (t444 == 0)))) = true := c235
             (try (have c235b1 : decide (t441 = 0 && (t442 == 0 && (t443 == 0 && (t444 == 0)))) = true := by simpa using c235))
             (try (have c235b2 : (t441 == 0 && (t442 == 0 && (t443 == 0 && (t444 == 0)))) = true := by simpa using c235))
             clear c235
             by_cases c236 : t447 = 0
             ·
              rw [if_pos c236] at H
              have c236b0 : (t447 == 0) = true := beq_iff_eq.mpr c236
              have c236b1 : (t447 != 0) = false := bne_eq_false_iff_eq.mpr c236
              clear c236
              replace H := Option.bind_eq_some_iff.mp H
              obtain ⟨t449, A2370, H⟩ := H
              replace H : (some t449) = some r := H
              have A237 := Ad.mk A2370
              clear A2370
              obtain rfl := Option.some.inj H
              have hnb238 := NB392_393.out
              have hnc238 := NB393_392.out
              have hnb239 := NB392_394.out
              have hnc239 := NB394_392.out
              have hnb240 := NB392_408.out
              have hnc240 := NB408_392.out
              have hnb241 := NB392_414.out
              have hnc241 := NB414_392.out
              have hnb242 := NB392_418.out
              have hnc242 := NB418_392.out
              have hnb243 := NB392_425.out
              have hnc243 := NB425_392.out
              have hcz244_0 : wc.cell? ⟨gb392, 0, none⟩ = some (.int .i64 t379) := (qkc BK392.out 0).trans rfl
              have hcz244_1 : wc.cell? ⟨gb392, 1, none⟩ = some (.int .i64 t380) := (qkc BK392.out 1).trans rfl
              have hcz244_2 : wc.cell? ⟨gb392, 2, none⟩ = some (.int .i64 t381) := (qkc BK392.out 2).trans rfl
              have hcz244_3 : wc.cell? ⟨gb392, 3, none⟩ = some (.int .i64 t382) := (qkc BK392.out 3).trans rfl
              have hfz244_0 := qkz BK392.out 0
              have hfz244_1 := qkz BK392.out 1
              have hfz244_2 := qkz BK392.out 2
              have hfz244_3 := qkz BK392.out 3
              have hnb245 := NB393_394.out
              have hnc245 := NB394_393.out
              have hnb246 := NB393_408.out
              have hnc246 := NB408_393.out
              have hnb247 := NB393_414.out
              have hnc247 := NB414_393.out
              have hnb248 := NB393_418.out
              have hnc248 := NB418_393.out
              have hnb249 := NB393_425.out
              have hnc249 := NB425_393.out
              have hcz250_0 : wc.cell? ⟨gb393, 0, none⟩ = some (.int .i64 t384) := (qkc BK393.out 0).trans rfl
              have hcz250_1 : wc.cell? ⟨gb393, 1, none⟩ = some (.int .i64 t385) := (qkc BK393.out 1).trans rfl
              have hcz250_2 : wc.cell? ⟨gb393, 2, none⟩ = some (.int .i64 t386) := (qkc BK393.out 2).trans rfl
              have hcz250_3 : wc.cell? ⟨gb393, 3, none⟩ = some (.int .i64 t387) := (qkc BK393.out 3).trans rfl
              have hfz250_0 := qkz BK393.out 0
              have hfz250_1 := qkz BK393.out 1
              have hfz250_2 := qkz BK393.out 2
              have hfz250_3 := qkz BK393.out 3
              go_wp2_with (first | ((with_reducible refine qgc (f := 23) rfl ?_); refine goesL_ (some 134) rfl rfl Tryd.func23 (by kernel_rfl) rfl #[.agg #[.int .i64 t379, .int .i64 t380, .int .i64 t381, .int .i64 t382], .agg #[.int .i64 t384, .int .i64 t385, .int .i64 t386, .int .i64 t387]] rfl (by (try simp only [List.map_toArray, List.map_cons, List.map_nil]); first | done | rfl) ?_; (with_reducible refine (tune_Sum.calls kj71 t379 t380 t381 t382 t384 t385 t386 t387 t435 t436 t437 t438 t439 _ A142.out).mono ?_); rintro e w251 ⟨rfl, hb⟩; refine ⟨_, rfl, ?_⟩; replace BK392 := Ad.mk (qkb (by exact BK392.out) hb); replace BK393 := Ad.mk (qkb (by exact BK393.out) hb); replace BK394 := Ad.mk (qkb (by exact BK394.out) hb); replace BK408 := Ad.mk (qkb (by exact BK408.out) hb); replace BK414 := Ad.mk (qkb (by exact BK414.out) hb); replace BK418 := Ad.mk (qkb (by exact BK418.out) hb); replace BK425 := Ad.mk (qkb (by exact BK425.out) hb); replace HB := Ad.mk (qbt (by repeat (first | (with_reducible first | exact HB.out | apply qbn | apply qb1) | exact HB.out)) hb); (try clear hb)) | ((with_reducible refine qgd (N := 20) rfl ?_); refine qbe ?hg (N := 20) ?hd (cs := #[.int .i64 0, .int .i64 0, .int .i64 0, .int .i64 0]) (t := 27) ?hr ?_; (case hd => rfl); (case hg => rfl); (case hr => first | (go_simp; done) | (go_simp; rfl)); intro gb440 hg w252 hbox hb; have BK440 := Ad.mk (hbox); have GW440 := Ad.mk ((by rw [hg]; exact (qbz (by repeat (first | (with_reducible first | exact HB.out | apply qbn | apply qb1) | exact HB.out))) : w.heap.size ≤ gb440)); have GE440 := Ad.mk ((by rw [hg]; exact (qbz (by repeat (first | (with_reducible first | exact HB.out | apply qbn | apply qb1) | exact HB.out))) : w.heap.size ≤ gb440)); have NB392_440 := Ad.mk ((by rw [hg]; exact Nat.ne_of_lt (qkl (by exact BK392.out)) : gb392 ≠ gb440)); have NB440_392 := Ad.mk ((by rw [hg]; exact Nat.ne_of_gt (qkl (by exact BK392.out)) : gb440 ≠ gb392)); have NB393_440 := Ad.mk ((by rw [hg]; exact Nat.ne_of_lt (qkl (by exact BK393.out)) : gb393 ≠ gb440)); have NB440_393 := Ad.mk ((by rw [hg]; exact Nat.ne_of_gt (qkl (by exact BK393.out)) : gb440 ≠ gb393)); have NB394_440 := Ad.mk ((by rw [hg]; exact Nat.ne_of_lt (qkl (by exact BK394.out)) : gb394 ≠ gb440)); have NB440_394 := Ad.mk ((by rw [hg]; exact Nat.ne_of_gt (qkl (by exact BK394.out)) : gb440 ≠ gb394)); have NB408_440 := Ad.mk ((by rw [hg]; exact Nat.ne_of_lt (qkl (by exact BK408.out)) : gb408 ≠ gb440)); have NB440_408 := Ad.mk ((by rw [hg]; exact Nat.ne_of_gt (qkl (by exact BK408.out)) : gb440 ≠ gb408)); have NB414_440 := Ad.mk ((by rw [hg]; exact Nat.ne_of_lt (qkl (by exact BK414.out)) : gb414 ≠ gb440)); have NB440_414 := Ad.mk ((by rw [hg]; exact Nat.ne_of_gt (qkl (by exact BK414.out)) : gb440 ≠ gb414)); have NB418_440 := Ad.mk ((by rw [hg]; exact Nat.ne_of_lt (qkl (by exact BK418.out)) : gb418 ≠ gb440)); have NB440_418 := Ad.mk ((by rw [hg]; exact Nat.ne_of_gt (qkl (by exact BK418.out)) : gb440 ≠ gb418)); have NB425_440 := Ad.mk ((by rw [hg]; exact Nat.ne_of_lt (qkl (by exact BK425.out)) : gb425 ≠ gb440)); have NB440_425 := Ad.mk ((by rw [hg]; exact Nat.ne_of_gt (qkl (by exact BK425.out)) : gb440 ≠ gb425)); replace BK392 := Ad.mk (qkb (by exact BK392.out) hb); replace BK393 := Ad.mk (qkb (by exact BK393.out) hb); replace BK394 := Ad.mk (qkb (by exact BK394.out) hb); replace BK408 := Ad.mk (qkb (by exact BK408.out) hb); replace BK414 := Ad.mk (qkb (by exact BK414.out) hb); replace BK418 := Ad.mk (qkb (by exact BK418.out) hb); replace BK425 := Ad.mk (qkb (by exact BK425.out) hb); replace HB := Ad.mk (qbt (by repeat (first | (with_reducible first | exact HB.out | apply qbn | apply qb1) | exact HB.out)) hb); clear hb hbox hg; have hnb253 := NB440_392.out; have hnc253 := NB392_440.out; have hnb254 := NB440_393.out; have hnc254 := NB393_440.out; have hnb255 := NB440_394.out; have hnc255 := NB394_440.out; have hnb256 := NB440_408.out; have hnc256 := NB408_440.out; have hnb257 := NB440_414.out; have hnc257 := NB414_440.out; have hnb258 := NB440_418.out; have hnc258 := NB418_440.out; have hnb259 := NB440_425.out; have hnc259 := NB425_440.out; have hcz260_0 : w252.cell? ⟨gb440, 0, none⟩ = some (.int .i64 0) := (qkc BK440.out 0).trans rfl; have hcz260_1 : w252.cell? ⟨gb440, 1, none⟩ = some (.int .i64 0) := (qkc BK440.out 1).trans rfl; have hcz260_2 : w252.cell? ⟨gb440, 2, none⟩ = some (.int .i64 0) := (qkc BK440.out 2).trans rfl; have hcz260_3 : w252.cell? ⟨gb440, 3, none⟩ = some (.int .i64 0) := (qkc BK440.out 3).trans rfl; have hfz260_0 := qkz BK440.out 0; have hfz260_1 := qkz BK440.out 1; have hfz260_2 := qkz BK440.out 2; have hfz260_3 := qkz BK440.out 3; have hcz261_0 : w252.cell? ⟨gb392, 0, none⟩ = some (.int .i64 t379) := (qkc BK392.out 0).trans rfl; have hcz261_1 : w252.cell? ⟨gb392, 1, none⟩ = some (.int .i64 t380) := (qkc BK392.out 1).trans rfl; have hcz261_2 : w252.cell? ⟨gb392, 2, none⟩ = some (.int .i64 t381) := (qkc BK392.out 2).trans rfl; have hcz261_3 : w252.cell? ⟨gb392, 3, none⟩ = some (.int .i64 t382) := (qkc BK392.out 3).trans rfl; have hfz261_0 := qkz BK392.out 0; have hfz261_1 := qkz BK392.out 1; have hfz261_2 := qkz BK392.out 2; have hfz261_3 := qkz BK392.out 3; have hcz262_0 : w252.cell? ⟨gb393, 0, none⟩ = some (.int .i64 t384) := (qkc BK393.out 0).trans rfl; have hcz262_1 : w252.cell? ⟨gb393, 1, none⟩ = some (.int .i64 t385) := (qkc BK393.out 1).trans rfl; have hcz262_2 : w252.cell? ⟨gb393, 2, none⟩ = some (.int .i64 t386) := (qkc BK393.out 2).trans rfl; have hcz262_3 : w252.cell? ⟨gb393, 3, none⟩ = some (.int .i64 t387) := (qkc BK393.out 3).trans rfl; have hfz262_0 := qkz BK393.out 0; have hfz262_1 := qkz BK393.out 1; have hfz262_2 := qkz BK393.out 2; have hfz262_3 := qkz BK393.out 3) | ((with_reducible refine qgc (f := 24) rfl ?_); refine goesL_ (some 140) rfl rfl Tryd.func24 (by kernel_rfl) rfl #[.agg #[.int .i64 t379, .int .i64 t380, .int .i64 t381, .int .i64 t382], .agg #[.int .i64 t384, .int .i64 t385, .int .i64 t386, .int .i64 t387]] rfl (by (try simp only [List.map_toArray, List.map_cons, List.map_nil]); first | done | rfl) ?_; (with_reducible refine (tune_Difference.calls kj71 t379 t380 t381 t382 t384 t385 t386 t387 t441 t442 t443 t444 t445 _ A143.out).mono ?_); rintro e w263 ⟨rfl, hb⟩; refine ⟨_, rfl, ?_⟩; replace BK392 := Ad.mk (qkb (g := gb392) (o := .cells #[.int .i64 t379, .int .i64 t380, .int .i64 t381, .int .i64 t382] 27 (0, 0)) (by (iterate 4 ((with_reducible repeat (first | apply qkn | apply qkd)); refine qkf ?_ NB392_440.out _)); (with_reducible repeat (first | apply qkn | apply qkd)); exact BK392.out) hb); replace BK393 := Ad.mk (qkb (g := gb393) (o := .cells #[.int .i64 t384, .int .i64 t385, .int .i64 t386, .int .i64 t387] 27 (0, 0)) (by (iterate 4 ((with_reducible repeat (first | apply qkn | apply qkd)); refine qkf ?_ NB393_440.out _)); (with_reducible repeat (first | apply qkn | apply qkd)); exact BK393.out) hb); replace BK394 := Ad.mk (qkb (g := gb394) (o := .cells #[.int .i64 t389, .int .i64 t390] 30 (0, 0)) (by (iterate 4 ((with_reducible repeat (first | apply qkn | apply qkd)); refine qkf ?_ NB394_440.out _)); (with_reducible repeat (first | apply qkn | apply qkd)); exact BK394.out) hb); replace BK408 := Ad.mk (qkb (g := gb408) (o := .cells #[.int .i64 t403, .int .i64 t404, .int .i64 t405, .int .i64 t406] 27 (0, 0)) (by (iterate 4 ((with_reducible repeat (first | apply qkn | apply qkd)); refine qkf ?_ NB408_440.out _)); (with_reducible repeat (first | apply qkn | apply qkd)); exact BK408.out) hb); replace BK414 := Ad.mk (qkb (g := gb414) (o := .cells #[.int .i64 t409, .int .i64 t410, .int .i64 t411, .int .i64 t412] 27 (0, 0)) (by (iterate 4 ((with_reducible repeat (first | apply qkn | apply qkd)); refine qkf ?_ NB414_440.out _)); (with_reducible repeat (first | apply qkn | apply qkd)); exact BK414.out) hb); replace BK418 := Ad.mk (qkb (g := gb418) (o := .cells #[.int .i64 t415, .int .i64 t416] 30 (0, 0)) (by (iterate 4 ((with_reducible repeat (first | apply qkn | apply qkd)); refine qkf ?_ NB418_440.out _)); (with_reducible repeat (first | apply qkn | apply qkd)); exact BK418.out) hb); replace BK425 := Ad.mk (qkb (g := gb425) (o := .cells #[.int .i64 t419, .int .i64 t420, .int .i64 t421, .int .i64 t422] 27 (0, 0)) (by (iterate 4 ((with_reducible repeat (first | apply qkn | apply qkd)); refine qkf ?_ NB425_440.out _)); (with_reducible repeat (first | apply qkn | apply qkd)); exact BK425.out) hb); replace BK440 := Ad.mk (qkb (g := gb440) (o := .cells #[.int .i64 t435, .int .i64 t436, .int .i64 t437, .int .i64 t438] 27 (0, 0)) (by (with_reducible repeat (first | apply qkn | apply qkd)); refine qkp (cs := #[.int .i64 t435, .int .i64 t436, .int .i64 t437, .int .i64 0]) ?_ 3 _ rfl; (with_reducible repeat (first | apply qkn | apply qkd)); refine qkp (cs := #[.int .i64 t435, .int .i64 t436, .int .i64 0, .int .i64 0]) ?_ 2 _ rfl; (with_reducible repeat (first | apply qkn | apply qkd)); refine qkp (cs := #[.int .i64 t435, .int .i64 0, .int .i64 0, .int .i64 0]) ?_ 1 _ rfl; (with_reducible repeat (first | apply qkn | apply qkd)); refine qkp (cs := #[.int .i64 0, .int .i64 0, .int .i64 0, .int .i64 0]) ?_ 0 _ rfl; (with_reducible repeat (first | apply qkn | apply qkd)); exact BK440.out) hb); replace HB := Ad.mk (qbt (by repeat (first | (with_reducible first | exact HB.out | apply qbn | apply qb1 | refine qbs ?_ GE440.out) | exact HB.out)) hb); (try clear hb)) | ((with_reducible refine qgd (N := 21) rfl ?_); refine qbe ?hg (N := 21) ?hd (cs := #[.int .i64 0, .int .i64 0, .int .i64 0, .int .i64 0]) (t := 27) ?hr ?_; (case hd => rfl); (case hg => rfl); (case hr => first | (go_simp; done) | (go_simp; rfl)); intro gb446 hg w264 hbox hb; have BK446 := Ad.mk (hbox); have GW446 := Ad.mk ((by rw [hg]; exact (qbz (by repeat (first | (with_reducible first | exact HB.out | apply qbn | apply qb1) | exact HB.out))) : w.heap.size ≤ gb446)); have GE446 := Ad.mk ((by rw [hg]; exact (qbz (by repeat (first | (with_reducible first | exact HB.out | apply qbn | apply qb1) | exact HB.out))) : w.heap.size ≤ gb446)); have NB392_446 := Ad.mk ((by rw [hg]; exact Nat.ne_of_lt (qkl (by exact BK392.out)) : gb392 ≠ gb446)); have NB446_392 := Ad.mk ((by rw [hg]; exact Nat.ne_of_gt (qkl (by exact BK392.out)) : gb446 ≠ gb392)); have NB393_446 := Ad.mk ((by rw [hg]; exact Nat.ne_of_lt (qkl (by exact BK393.out)) : gb393 ≠ gb446)); have NB446_393 := Ad.mk ((by rw [hg]; exact Nat.ne_of_gt (qkl (by exact BK393.out)) : gb446 ≠ gb393)); have NB394_446 := Ad.mk ((by rw [hg]; exact Nat.ne_of_lt (qkl (by exact BK394.out)) : gb394 ≠ gb446)); have NB446_394 := Ad.mk ((by rw [hg]; exact Nat.ne_of_gt (qkl (by exact BK394.out)) : gb446 ≠ gb394)); have NB408_446 := Ad.mk ((by rw [hg]; exact Nat.ne_of_lt (qkl (by exact BK408.out)) : gb408 ≠ gb446)); have NB446_408 := Ad.mk ((by rw [hg]; exact Nat.ne_of_gt (qkl (by exact BK408.out)) : gb446 ≠ gb408)); have NB414_446 := Ad.mk ((by rw [hg]; exact Nat.ne_of_lt (qkl (by exact BK414.out)) : gb414 ≠ gb446)); have NB446_414 := Ad.mk ((by rw [hg]; exact Nat.ne_of_gt (qkl (by exact BK414.out)) : gb446 ≠ gb414)); have NB418_446 := Ad.mk ((by rw [hg]; exact Nat.ne_of_lt (qkl (by exact BK418.out)) : gb418 ≠ gb446)); have NB446_418 := Ad.mk ((by rw [hg]; exact Nat.ne_of_gt (qkl (by exact BK418.out)) : gb446 ≠ gb418)); have NB425_446 := Ad.mk ((by rw [hg]; exact Nat.ne_of_lt (qkl (by exact BK425.out)) : gb425 ≠ gb446)); have NB446_425 := Ad.mk ((by rw [hg]; exact Nat.ne_of_gt (qkl (by exact BK425.out)) : gb446 ≠ gb425)); have NB440_446 := Ad.mk ((by rw [hg]; exact Nat.ne_of_lt (qkl (by exact BK440.out)) : gb440 ≠ gb446)); have NB446_440 := Ad.mk ((by rw [hg]; exact Nat.ne_of_gt (qkl (by exact BK440.out)) : gb446 ≠ gb440)); replace BK392 := Ad.mk (qkb (by exact BK392.out) hb); replace BK393 := Ad.mk (qkb (by exact BK393.out) hb); replace BK394 := Ad.mk (qkb (by exact BK394.out) hb); replace BK408 := Ad.mk (qkb (by exact BK408.out) hb); replace BK414 := Ad.mk (qkb (by exact BK414.out) hb); replace BK418 := Ad.mk (qkb (by exact BK418.out) hb); replace BK425 := Ad.mk (qkb (by exact BK425.out) hb); replace BK440 := Ad.mk (qkb (by exact BK440.out) hb); replace HB := Ad.mk (qbt (by repeat (first | (with_reducible first | exact HB.out | apply qbn | apply qb1) | exact HB.out)) hb); clear hb hbox hg; have hnb265 := NB446_392.out; have hnc265 := NB392_446.out; have hnb266 := NB446_393.out; have hnc266 := NB393_446.out; have hnb267 := NB446_394.out; have hnc267 := NB394_446.out; have hnb268 := NB446_408.out; have hnc268 := NB408_446.out; have hnb269 := NB446_414.out; have hnc269 := NB414_446.out; have hnb270 := NB446_418.out; have hnc270 := NB418_446.out; have hnb271 := NB446_425.out; have hnc271 := NB425_446.out; have hnb272 := NB446_440.out; have hnc272 := NB440_446.out; have hcz273_0 : w264.cell? ⟨gb446, 0, none⟩ = some (.int .i64 0) := (qkc BK446.out 0).trans rfl; have hcz273_1 : w264.cell? ⟨gb446, 1, none⟩ = some (.int .i64 0) := (qkc BK446.out 1).trans rfl; have hcz273_2 : w264.cell? ⟨gb446, 2, none⟩ = some (.int .i64 0) := (qkc BK446.out 2).trans rfl; have hcz273_3 : w264.cell? ⟨gb446, 3, none⟩ = some (.int .i64 0) := (qkc BK446.out 3).trans rfl; have hfz273_0 := qkz BK446.out 0; have hfz273_1 := qkz BK446.out 1; have hfz273_2 := qkz BK446.out 2; have hfz273_3 := qkz BK446.out 3; have hcz274_0 : w264.cell? ⟨gb392, 0, none⟩ = some (.int .i64 t379) := (qkc BK392.out 0).trans rfl; have hcz274_1 : w264.cell? ⟨gb392, 1, none⟩ = some (.int .i64 t380) := (qkc BK392.out 1).trans rfl; have hcz274_2 : w264.cell? ⟨gb392, 2, none⟩ = some (.int .i64 t381) := (qkc BK392.out 2).trans rfl; have hcz274_3 : w264.cell? ⟨gb392, 3, none⟩ = some (.int .i64 t382) := (qkc BK392.out 3).trans rfl; have hfz274_0 := qkz BK392.out 0; have hfz274_1 := qkz BK392.out 1; have hfz274_2 := qkz BK392.out 2; have hfz274_3 := qkz BK392.out 3; have hcz275_0 : w264.cell? ⟨gb393, 0, none⟩ = some (.int .i64 t384) := (qkc BK393.out 0).trans rfl; have hcz275_1 : w264.cell? ⟨gb393, 1, none⟩ = some (.int .i64 t385) := (qkc BK393.out 1).trans rfl; have hcz275_2 : w264.cell? ⟨gb393, 2, none⟩ = some (.int .i64 t386) := (qkc BK393.out 2).trans rfl; have hcz275_3 : w264.cell? ⟨gb393, 3, none⟩ = some (.int .i64 t387) := (qkc BK393.out 3).trans rfl; have hfz275_0 := qkz BK393.out 0; have hfz275_1 := qkz BK393.out 1; have hfz275_2 := qkz BK393.out 2; have hfz275_3 := qkz BK393.out 3) | ((with_reducible refine qgc (f := 25) rfl ?_); refine goesL_ (some 146) rfl rfl Tryd.func25 (by kernel_rfl) rfl #[.agg #[.int .i64 t379, .int .i64 t380, .int .i64 t381, .int .i64 t382], .agg #[.int .i64 t384, .int .i64 t385, .int .i64 t386, .int .i64 t387]] rfl (by (try simp only [List.map_toArray, List.map_cons, List.map_nil]); first | done | rfl) ?_; (with_reducible refine (tune_Compare.calls kj71 t379 t380 t381 t382 t384 t385 t386 t387 t447 t448 _ A144.out).mono ?_); rintro e w276 ⟨rfl, hb⟩; refine ⟨_, rfl, ?_⟩; replace BK392 := Ad.mk (qkb (g := gb392) (o := .cells #[.int .i64 t379, .int .i64 t380, .int .i64 t381, .int .i64 t382] 27 (0, 0)) (by (iterate 4 ((with_reducible repeat (first | apply qkn | apply qkd)); refine qkf ?_ NB392_446.out _)); (with_reducible repeat (first | apply qkn | apply qkd)); exact BK392.out) hb); replace BK393 := Ad.mk (qkb (g := gb393) (o := .cells #[.int .i64 t384, .int .i64 t385, .int .i64 t386, .int .i64 t387] 27 (0, 0)) (by (iterate 4 ((with_reducible repeat (first | apply qkn | apply qkd)); refine qkf ?_ NB393_446.out _)); (with_reducible repeat (first | apply qkn | apply qkd)); exact BK393.out) hb); replace BK394 := Ad.mk (qkb (g := gb394) (o := .cells #[.int .i64 t389, .int .i64 t390] 30 (0, 0)) (by (iterate 4 ((with_reducible repeat (first | apply qkn | apply qkd)); refine qkf ?_ NB394_446.out _)); (with_reducible repeat (first | apply qkn | apply qkd)); exact BK394.out) hb); replace BK408 := Ad.mk (qkb (g := gb408) (o := .cells #[.int .i64 t403, .int .i64 t404, .int .i64 t405, .int .i64 t406] 27 (0, 0)) (by (iterate 4 ((with_reducible repeat (first | apply qkn | apply qkd)); refine qkf ?_ NB408_446.out _)); (with_reducible repeat (first | apply qkn | apply qkd)); exact BK408.out) hb); replace BK414 := Ad.mk (qkb (g := gb414) (o := .cells #[.int .i64 t409, .int .i64 t410, .int .i64 t411, .int .i64 t412] 27 (0, 0)) (by (iterate 4 ((with_reducible repeat (first | apply qkn | apply qkd)); refine qkf ?_ NB414_446.out _)); (with_reducible repeat (first | apply qkn | apply qkd)); exact BK414.out) hb); replace BK418 := Ad.mk (qkb (g := gb418) (o := .cells #[.int .i64 t415, .int .i64 t416] 30 (0, 0)) (by (iterate 4 ((with_reducible repeat (first | apply qkn | apply qkd)); refine qkf ?_ NB418_446.out _)); (with_reducible repeat (first | apply qkn | apply qkd)); exact BK418.out) hb); replace BK425 := Ad.mk (qkb (g := gb425) (o := .cells #[.int .i64 t419, .int .i64 t420, .int .i64 t421, .int .i64 t422] 27 (0, 0)) (by (iterate 4 ((with_reducible repeat (first | apply qkn | apply qkd)); refine qkf ?_ NB425_446.out _)); (with_reducible repeat (first | apply qkn | apply qkd)); exact BK425.out) hb); replace BK440 := Ad.mk (qkb (g := gb440) (o := .cells #[.int .i64 t435, .int .i64 t436, .int .i64 t437, .int .i64 t438] 27 (0, 0)) (by (iterate 4 ((with_reducible repeat (first | apply qkn | apply qkd)); refine qkf ?_ NB440_446.out _)); (with_reducible repeat (first | apply qkn | apply qkd)); exact BK440.out) hb); replace BK446 := Ad.mk (qkb (g := gb446) (o := .cells #[.int .i64 t441, .int .i64 t442, .int .i64 t443, .int .i64 t444] 27 (0, 0)) (by (with_reducible repeat (first | apply qkn | apply qkd)); refine qkp (cs := #[.int .i64 t441, .int .i64 t442, .int .i64 t443, .int .i64 0]) ?_ 3 _ rfl; (with_reducible repeat (first | apply qkn | apply qkd)); refine qkp (cs := #[.int .i64 t441, .int .i64 t442, .int .i64 0, .int .i64 0]) ?_ 2 _ rfl; (with_reducible repeat (first | apply qkn | apply qkd)); refine qkp (cs := #[.int .i64 t441, .int .i64 0, .int .i64 0, .int .i64 0]) ?_ 1 _ rfl; (with_reducible repeat (first | apply qkn | apply qkd)); refine qkp (cs := #[.int .i64 0, .int .i64 0, .int .i64 0, .int .i64 0]) ?_ 0 _ rfl; (with_reducible repeat (first | apply qkn | apply qkd)); exact BK446.out) hb); replace HB := Ad.mk (qbt (by repeat (first | (with_reducible first | exact HB.out | apply qbn | apply qb1 | refine qbs ?_ GE446.out) | exact HB.out)) hb); (try clear hb); have hcz277_0 : w276.cell? ⟨gb440, 0, none⟩ = some (.int .i64 t435) := (qkc BK440.out 0).trans rfl; have hcz277_1 : w276.cell? ⟨gb440, 1, none⟩ = some (.int .i64 t436) := (qkc BK440.out 1).trans rfl; have hcz277_2 : w276.cell? ⟨gb440, 2, none⟩ = some (.int .i64 t437) := (qkc BK440.out 2).trans rfl; have hcz277_3 : w276.cell? ⟨gb440, 3, none⟩ = some (.int .i64 t438) := (qkc BK440.out 3).trans rfl; have hfz277_0 := qkz BK440.out 0; have hfz277_1 := qkz BK440.out 1; have hfz277_2 := qkz BK440.out 2; have hfz277_3 := qkz BK440.out 3; have hcz278_0 : w276.cell? ⟨gb446, 0, none⟩ = some (.int .i64 t441) := (qkc BK446.out 0).trans rfl; have hcz278_1 : w276.cell? ⟨gb446, 1, none⟩ = some (.int .i64 t442) := (qkc BK446.out 1).trans rfl; have hcz278_2 : w276.cell? ⟨gb446, 2, none⟩ = some (.int .i64 t443) := (qkc BK446.out 2).trans rfl; have hcz278_3 : w276.cell? ⟨gb446, 3, none⟩ = some (.int .i64 t444) := (qkc BK446.out 3).trans rfl; have hfz278_0 := qkz BK446.out 0; have hfz278_1 := qkz BK446.out 1; have hfz278_2 := qkz BK446.out 2; have hfz278_3 := qkz BK446.out 3) | (go_at_call 26; (with_reducible refine (gleelaw1_tuned.calls  t449 _ A237.out).mono ?_); rintro e w279 ⟨rfl, hb⟩; replace BK392 := Ad.mk (qkb (by exact BK392.out) hb); replace BK393 := Ad.mk (qkb (by exact BK393.out) hb); replace BK394 := Ad.mk (qkb (by exact BK394.out) hb); replace BK408 := Ad.mk (qkb (by exact BK408.out) hb); replace BK414 := Ad.mk (qkb (by exact BK414.out) hb); replace BK418 := Ad.mk (qkb (by exact BK418.out) hb); replace BK425 := Ad.mk (qkb (by exact BK425.out) hb); replace BK440 := Ad.mk (qkb (by exact BK440.out) hb); replace BK446 := Ad.mk (qkb (by exact BK446.out) hb); replace HB := Ad.mk (qbt (by repeat (first | (with_reducible first | exact HB.out | apply qbn | apply qb1) | exact HB.out)) hb); (try clear hb)))
              go_ret
              exact ⟨by first | rfl | (simp [errW_none, errW_some] <;> rfl) | (simp [*, errW_none, errW_some] <;> rfl), by repeat (first | (with_reducible first | exact HB.out | apply qbn | apply qb1) | exact HB.out)⟩
             ·
              rw [if_neg c236] at H
              exact absurd H (by simp)
            ·
             rw [if_neg c235] at H
             exact absurd H (by simp)
           ·
            rw [if_neg c234] at H
            exact absurd H (by simp)
          ·
           rw [if_neg c233] at H
           exact absurd H (by simp)
         ·
          rw [if_neg c232] at H
          exact absurd H (by simp)
        ·
         rw [if_neg c231] at H
         exact absurd H (by simp)
 ·
  rw [if_neg c10] at H
  exact absurd H (by simp)

/-- THE ONE PURE STATEMENT of gleelaw1_IntervalsCounted: yours. -/
def gleelaw1_IntervalsCounted.Pure : Prop := ∀ (l0 : List Int), l0.length ≤ maxLen → l0.length * 8 ≤ 140737488351232 → (∀ x ∈ l0, (Lit.int .i64 x).wf = true) → ∃ k, gleelaw1_IntervalsCounted.f k l0 = some true
theorem gleelaw1_IntervalsCounted.walk (P : gleelaw1_IntervalsCounted.Pure) (a0 : Option Addr) (len0 cap0 : Nat) (z0 : List Int) (w : World) (w0 : (a0 = none ∧ len0 = 0 ∧ cap0 = 0 ∧ z0 = []) ∨ ∃ x, a0 = some x ∧ len0 ≤ cap0 ∧ cap0 ≤ maxLen ∧ z0.length = cap0 ∧ (∀ i, i < z0.length → w.cell? (x.add i) = some (.int .i64 (z0.getD i 0))) ∧ ∀ n ∈ z0, (Lit.int .i64 n).wf = true) (y0 : len0 * 8 ≤ 140737488351232) :
  Calls Tryd.prog 3 #[.slice a0 len0 cap0] w fun e w' => e = .returned (.bool true) ∧ Below w.heap.size w w' := by
 obtain ⟨l0, rfl, hr0, hm0, hw0, hc0⟩ := ReadsInt.ofRowC w0
 obtain ⟨k, h⟩ := P l0 hm0 y0 hw0
 refine (gleelaw1_IntervalsCounted.calls k _ _ l0 true w (Kd.C_of_reads (d := (0 : Int)) (h1 := fun _ => rfl) hr0) hc0 h).mono ?_
 rintro e w' ⟨rfl, hd⟩
 exact ⟨rfl, hd⟩

end Go.Proofs.YtdagocpgefjmdaaDoor.PIntervalsCounted
