import Derived.Test.YtdagocpgefjmdaaDoorGInx0
import Derived.Test.YtdagocpgefjmdaaDoorGInx4
import Derived.Test.YtdagocpgefjmdaaDoorGInx5
import Derived.Test.YtdagocpgefjmdaaDoorGInx9
namespace Go.Proofs.YtdagocpgefjmdaaDoor.PIntervalsCounted
open Go.RowKit Go.Proofs.YtdagocpgefjmdaaDoorW.PrintWords Go.Proofs.YtdagocpgefjmdaaDoorW.PrintLast Go.Proofs.YtdagocpgefjmdaaDoorW.PrintMore
attribute [local go_sem] max2_int min2_int max_two min_two max_three min_three max_four min_four   -- for this text's walks alone
set_option linter.unusedVariables false
set_option linter.unusedSimpArgs false

/-! ### tune_Within: function 20 -/
mutual
def tune_Within.l0 : Nat → Int → Int → Int → Int → Int → Int → Int → Option (Int × Int × Int × Int × Int × Int)
 | 0, _, _, _, _, _, _, _ => none
 | k + 1, x7, x250000, x250001, x250002, x250003, x255000, x255001 => if (wrap64 (Int.tdiv x255000 2)) ≥ x255001 then (tune_Within.l0 k (wrap64 (x7 + 1)) x250000 x250001 x250002 x250003 x255000 (wrap64 (x255001 * 2))) else (tune_Within.l1 k x7 x250000 x250001 x250002 x250003 x255000 x255001)
def tune_Within.l1 : Nat → Int → Int → Int → Int → Int → Int → Int → Option (Int × Int × Int × Int × Int × Int)
 | 0, _, _, _, _, _, _, _ => none
 | k + 1, x7, x250000, x250001, x250002, x250003, x255000, x255001 => if x255000 < x255001 then (tune_Within.l1 k (wrap64 (x7 - 1)) x250000 x250001 x250002 x250003 (wrap64 (x255000 * 2)) x255001) else ((tune_CheckInterval.f (wrap64 (x250000 - x7)) x250001 x250002 x250003).bind fun t255 => (if t255 = 0 then (some (wrap64 (x250000 - x7), x250001, x250002, x250003, x7, 0)) else (some (0, 0, 0, 0, 0, t255))))
end
def tune_Within.f (k : Nat) (a0_0 : Int) (a0_1 : Int) (a0_2 : Int) (a0_3 : Int) : Option (Int × Int × Int × Int × Int × Int) := (tune_CheckInterval.f a0_0 a0_1 a0_2 a0_3).bind fun t251 => (if t251 = 0 then ((tune_quotient.f k a0_0 a0_1 a0_2 a0_3).bind fun bt252 => (tune_Within.l0 k 0 a0_0 a0_1 a0_2 a0_3 bt252.1 bt252.2)) else (some (0, 0, 0, 0, 0, t251)))
theorem tune_Within.mono_l : ∀ k, (∀ y0 y1 y2 y3 y4 y5 y6, LeO (tune_Within.l0 k y0 y1 y2 y3 y4 y5 y6) (tune_Within.l0 (k + 1) y0 y1 y2 y3 y4 y5 y6)) ∧ (∀ y0 y1 y2 y3 y4 y5 y6, LeO (tune_Within.l1 k y0 y1 y2 y3 y4 y5 y6) (tune_Within.l1 (k + 1) y0 y1 y2 y3 y4 y5 y6))
 | 0 => ⟨fun _ _ _ _ _ _ _ r h => by simp [tune_Within.l0] at h, fun _ _ _ _ _ _ _ r h => by simp [tune_Within.l1] at h⟩
 | k + 1 => by
  obtain ⟨ih0, ih1⟩ := tune_Within.mono_l k
  refine ⟨?_, ?_⟩
  ·
   intro y0 y1 y2 y3 y4 y5 y6
   unfold tune_Within.l0
   repeat' first
   | (with_reducible exact ih0 _ _ _ _ _ _ _)
   | (with_reducible exact ih1 _ _ _ _ _ _ _)
   | (with_reducible exact tune_quotient.mono _ _ _ _ _)
   | (with_reducible exact LeO.refl _)
   | (with_reducible exact LeO.none _)
   | (with_reducible refine LeO.ite ?_ ?_)
   | (with_reducible refine LeO.bind ?_ (fun _ => ?_))
   | exact ih0 _ _ _ _ _ _ _
   | exact ih1 _ _ _ _ _ _ _
   | exact tune_quotient.mono _ _ _ _ _
   | exact LeO.none _
   | refine LeO.ite ?_ ?_
   | refine LeO.bind ?_ (fun _ => ?_)
  ·
   intro y0 y1 y2 y3 y4 y5 y6
   unfold tune_Within.l1
   repeat' first
   | (with_reducible exact ih0 _ _ _ _ _ _ _)
   | (with_reducible exact ih1 _ _ _ _ _ _ _)
   | (with_reducible exact tune_quotient.mono _ _ _ _ _)
   | (with_reducible exact LeO.refl _)
   | (with_reducible exact LeO.none _)
   | (with_reducible refine LeO.ite ?_ ?_)
   | (with_reducible refine LeO.bind ?_ (fun _ => ?_))
   | exact ih0 _ _ _ _ _ _ _
   | exact ih1 _ _ _ _ _ _ _
   | exact tune_quotient.mono _ _ _ _ _
   | exact LeO.none _
   | refine LeO.ite ?_ ?_
   | refine LeO.bind ?_ (fun _ => ?_)
theorem tune_Within.mono : ∀ a0 a1 a2 a3 k, LeO (tune_Within.f k a0 a1 a2 a3) (tune_Within.f (k + 1) a0 a1 a2 a3) := by
 intro a0 a1 a2 a3 k
 obtain ⟨ih0, ih1⟩ := tune_Within.mono_l k
 unfold tune_Within.f
 repeat' first
   | (with_reducible exact ih0 _ _ _ _ _ _ _)
   | (with_reducible exact ih1 _ _ _ _ _ _ _)
   | (with_reducible exact tune_quotient.mono _ _ _ _ _)
   | (with_reducible exact LeO.refl _)
   | (with_reducible exact LeO.none _)
   | (with_reducible refine LeO.ite ?_ ?_)
   | (with_reducible refine LeO.bind ?_ (fun _ => ?_))
   | exact ih0 _ _ _ _ _ _ _
   | exact ih1 _ _ _ _ _ _ _
   | exact tune_quotient.mono _ _ _ _ _
   | exact LeO.none _
   | refine LeO.ite ?_ ?_
   | refine LeO.bind ?_ (fun _ => ?_)
set_option maxHeartbeats 8000000 in
set_option maxRecDepth 100000 in
theorem tune_Within.calls (k : Nat) (a0_0 : Int) (a0_1 : Int) (a0_2 : Int) (a0_3 : Int) (r1 : Int) (r2 : Int) (r3 : Int) (r4 : Int) (r5 : Int) (r6 : Int) (w : World) (h : tune_Within.f k a0_0 a0_1 a0_2 a0_3 = some (r1, r2, r3, r4, r5, r6)) :
  Calls Tryd.prog 20 #[.agg #[.int .i64 a0_0, .int .i64 a0_1, .int .i64 a0_2, .int .i64 a0_3]] w fun e w' => e = .returned (.tuple #[.agg #[.int .i64 r1, .int .i64 r2, .int .i64 r3, .int .i64 r4], .int .i64 r5, .int .i64 r6]) ∧ Below w.heap.size w w' := by
 have hu27 := Tryd.underlying27
 have hu30 := Tryd.underlying30
 have HB := Ad.mk (Below.refl w.heap.size w)
 have H : ((tune_CheckInterval.f a0_0 a0_1 a0_2 a0_3).bind fun t251 => (if t251 = 0 then ((tune_quotient.f k a0_0 a0_1 a0_2 a0_3).bind fun bt252 => (tune_Within.l0 k 0 a0_0 a0_1 a0_2 a0_3 bt252.1 bt252.2)) else (some (0, 0, 0, 0, 0, t251)))) = some (r1, r2, r3, r4, r5, r6) := h
 clear h
 replace H := Option.bind_eq_some_iff.mp H
 obtain ⟨t251, A20, H⟩ := H
 replace H : (if t251 = 0 then ((tune_quotient.f k a0_0 a0_1 a0_2 a0_3).bind fun bt252 => (tune_Within.l0 k 0 a0_0 a0_1 a0_2 a0_3 bt252.1 bt252.2)) else (some (0, 0, 0, 0, 0, t251))) = some (r1, r2, r3, r4, r5, r6) := H
 have A2 := Ad.mk A20
 clear A20
 by_cases c3 : t251 = 0
 ·
  rw [if_pos c3] at H
  have c3b0 : (t251 == 0) = true := beq_iff_eq.mpr c3
  have c3b1 : (t251 != 0) = false := bne_eq_false_iff_eq.mpr c3
  clear c3
  replace H := Option.bind_eq_some_iff.mp H
  obtain ⟨⟨t252, t253⟩, A40, H⟩ := H
  replace H : (tune_Within.l0 k 0 a0_0 a0_1 a0_2 a0_3 t252 t253) = some (r1, r2, r3, r4, r5, r6) := H
  have A4 := Ad.mk A40
  clear A40
  have H' := Ad.mk H
  clear H
  go_enter Tryd.func20, Tryd.ntmps20
  go_wp2_with (first | ((with_reducible refine qgd (N := 1) rfl ?_); refine qbe ?hg (N := 1) ?hd (cs := #[.int .i64 a0_0, .int .i64 a0_1, .int .i64 a0_2, .int .i64 a0_3]) (t := 27) ?hr ?_; (case hd => rfl); (case hg => rfl); (case hr => first | (go_simp; done) | (go_simp; rfl)); intro gb249 hg w5 hbox hb; have BK249 := Ad.mk (hbox); have GW249 := Ad.mk ((by rw [hg]; exact (qbz (by repeat (first | (with_reducible first | exact HB.out | apply qba | apply qbn | apply qb1) | exact HB.out))) : w.heap.size ≤ gb249)); have GE249 := Ad.mk ((by rw [hg]; exact (qbz (by repeat (first | (with_reducible first | exact HB.out | apply qba | apply qbn | apply qb1) | exact HB.out))) : w.heap.size ≤ gb249)); replace HB := Ad.mk (qbt (by repeat (first | (with_reducible first | exact HB.out | apply qba | apply qbn | apply qb1) | exact HB.out)) hb); clear hb hbox hg) | ((with_reducible refine qgd (N := 2) rfl ?_); refine qbe ?hg (N := 2) ?hd (cs := #[.int .i64 0, .int .i64 0, .int .i64 0, .int .i64 0]) (t := 27) ?hr ?_; (case hd => rfl); (case hg => rfl); (case hr => first | (go_simp; done) | (go_simp; rfl)); intro gb250 hg w6 hbox hb; have BK250 := Ad.mk (hbox); have GW250 := Ad.mk ((by rw [hg]; exact (qbz (by repeat (first | (with_reducible first | exact HB.out | apply qba | apply qbn | apply qb1 | refine qbs ?_ GE249.out) | exact HB.out))) : w.heap.size ≤ gb250)); have GE250 := Ad.mk ((by rw [hg]; exact (qbz (by repeat (first | (with_reducible first | exact HB.out | apply qba | apply qbn | apply qb1 | refine qbs ?_ GE249.out) | exact HB.out))) : w.heap.size ≤ gb250)); have NB249_250 := Ad.mk ((by rw [hg]; exact Nat.ne_of_lt (qkl (g := gb249) (o := .cells #[.int .i64 a0_0, .int .i64 a0_1, .int .i64 a0_2, .int .i64 a0_3] 27 (0, 0)) (by (with_reducible repeat (first | apply qkn | apply qkd | apply qka)); exact BK249.out)) : gb249 ≠ gb250)); have NB250_249 := Ad.mk ((by rw [hg]; exact Nat.ne_of_gt (qkl (g := gb249) (o := .cells #[.int .i64 a0_0, .int .i64 a0_1, .int .i64 a0_2, .int .i64 a0_3] 27 (0, 0)) (by (with_reducible repeat (first | apply qkn | apply qkd | apply qka)); exact BK249.out)) : gb250 ≠ gb249)); replace BK249 := Ad.mk (qkb (g := gb249) (o := .cells #[.int .i64 a0_0, .int .i64 a0_1, .int .i64 a0_2, .int .i64 a0_3] 27 (0, 0)) (by (with_reducible repeat (first | apply qkn | apply qkd | apply qka)); exact BK249.out) hb); replace HB := Ad.mk (qbt (by repeat (first | (with_reducible first | exact HB.out | apply qba | apply qbn | apply qb1 | refine qbs ?_ GE249.out) | exact HB.out)) hb); clear hb hbox hg; have hnb7 := NB249_250.out; have hnc7 := NB250_249.out; have hcz8_0 : w6.cell? ⟨gb249, 0, none⟩ = some (.int .i64 a0_0) := (qkc BK249.out 0).trans rfl; have hcz8_1 : w6.cell? ⟨gb249, 1, none⟩ = some (.int .i64 a0_1) := (qkc BK249.out 1).trans rfl; have hcz8_2 : w6.cell? ⟨gb249, 2, none⟩ = some (.int .i64 a0_2) := (qkc BK249.out 2).trans rfl; have hcz8_3 : w6.cell? ⟨gb249, 3, none⟩ = some (.int .i64 a0_3) := (qkc BK249.out 3).trans rfl; have hfz8_0 := qkz BK249.out 0; have hfz8_1 := qkz BK249.out 1; have hfz8_2 := qkz BK249.out 2; have hfz8_3 := qkz BK249.out 3) | ((with_reducible refine qgc (f := 16) rfl ?_); refine goesL_ (some 10) rfl rfl Tryd.func16 (by kernel_rfl) rfl #[.agg #[.int .i64 a0_0, .int .i64 a0_1, .int .i64 a0_2, .int .i64 a0_3]] rfl (by (try simp only [List.map_toArray, List.map_cons, List.map_nil]); first | done | rfl) ?_; (with_reducible refine (tune_CheckInterval.calls a0_0 a0_1 a0_2 a0_3 t251 _ A2.out).mono ?_); rintro e w9 ⟨rfl, hb⟩; refine ⟨_, rfl, ?_⟩; replace BK249 := Ad.mk (qkb (g := gb249) (o := .cells #[.int .i64 a0_0, .int .i64 a0_1, .int .i64 a0_2, .int .i64 a0_3] 27 (0, 0)) (by (with_reducible repeat (first | apply qkn | apply qkd | apply qka)); exact BK249.out) hb); replace BK250 := Ad.mk (qkb (g := gb250) (o := .cells #[.int .i64 0, .int .i64 0, .int .i64 0, .int .i64 0] 27 (0, 0)) (by (with_reducible repeat (first | apply qkn | apply qkd | apply qka)); exact BK250.out) hb); replace HB := Ad.mk (qbt (by repeat (first | (with_reducible first | exact HB.out | apply qba | apply qbn | apply qb1 | refine qbs ?_ GE249.out | refine qbs ?_ GE250.out) | exact HB.out)) hb); (try clear hb); have hcz10_0 : w9.cell? ⟨gb249, 0, none⟩ = some (.int .i64 a0_0) := (qkc BK249.out 0).trans rfl; have hcz10_1 : w9.cell? ⟨gb249, 1, none⟩ = some (.int .i64 a0_1) := (qkc BK249.out 1).trans rfl; have hcz10_2 : w9.cell? ⟨gb249, 2, none⟩ = some (.int .i64 a0_2) := (qkc BK249.out 2).trans rfl; have hcz10_3 : w9.cell? ⟨gb249, 3, none⟩ = some (.int .i64 a0_3) := (qkc BK249.out 3).trans rfl; have hfz10_0 := qkz BK249.out 0; have hfz10_1 := qkz BK249.out 1; have hfz10_2 := qkz BK249.out 2; have hfz10_3 := qkz BK249.out 3) | ((with_reducible refine qgc (f := 79) rfl ?_); refine goesL_ (some 16) rfl rfl Tryd.func79 (by kernel_rfl) rfl #[.agg #[.int .i64 a0_0, .int .i64 a0_1, .int .i64 a0_2, .int .i64 a0_3]] rfl (by (try simp only [List.map_toArray, List.map_cons, List.map_nil]); first | done | rfl) ?_; (with_reducible refine (tune_quotient.calls k a0_0 a0_1 a0_2 a0_3 t252 t253 _ A4.out).mono ?_); rintro e w11 ⟨rfl, hb⟩; refine ⟨_, rfl, ?_⟩; replace BK249 := Ad.mk (qkb (g := gb249) (o := .cells #[.int .i64 a0_0, .int .i64 a0_1, .int .i64 a0_2, .int .i64 a0_3] 27 (0, 0)) (by (with_reducible repeat (first | apply qkn | apply qkd | apply qka)); exact BK249.out) hb); replace BK250 := Ad.mk (qkb (g := gb250) (o := .cells #[.int .i64 0, .int .i64 0, .int .i64 0, .int .i64 0] 27 (0, 0)) (by (with_reducible repeat (first | apply qkn | apply qkd | apply qka)); exact BK250.out) hb); replace HB := Ad.mk (qbt (by repeat (first | (with_reducible first | exact HB.out | apply qba | apply qbn | apply qb1 | refine qbs ?_ GE249.out | refine qbs ?_ GE250.out) | exact HB.out)) hb); (try clear hb)) | ((with_reducible refine qgd (N := 6) rfl ?_); refine qbe ?hg (N := 6) ?hd (cs := #[.int .i64 0, .int .i64 0]) (t := 30) ?hr ?_; (case hd => rfl); (case hg => rfl); (case hr => first | (go_simp; done) | (go_simp; rfl)); intro gb254 hg w12 hbox hb; have BK254 := Ad.mk (hbox); have GW254 := Ad.mk ((by rw [hg]; exact (qbz (by repeat (first | (with_reducible first | exact HB.out | apply qba | apply qbn | apply qb1 | refine qbs ?_ GE249.out | refine qbs ?_ GE250.out) | exact HB.out))) : w.heap.size ≤ gb254)); have GE254 := Ad.mk ((by rw [hg]; exact (qbz (by repeat (first | (with_reducible first | exact HB.out | apply qba | apply qbn | apply qb1 | refine qbs ?_ GE249.out | refine qbs ?_ GE250.out) | exact HB.out))) : w.heap.size ≤ gb254)); have NB249_254 := Ad.mk ((by rw [hg]; exact Nat.ne_of_lt (qkl (g := gb249) (o := .cells #[.int .i64 a0_0, .int .i64 a0_1, .int .i64 a0_2, .int .i64 a0_3] 27 (0, 0)) (by (with_reducible repeat (first | apply qkn | apply qkd | apply qka)); exact BK249.out)) : gb249 ≠ gb254)); have NB254_249 := Ad.mk ((by rw [hg]; exact Nat.ne_of_gt (qkl (g := gb249) (o := .cells #[.int .i64 a0_0, .int .i64 a0_1, .int .i64 a0_2, .int .i64 a0_3] 27 (0, 0)) (by (with_reducible repeat (first | apply qkn | apply qkd | apply qka)); exact BK249.out)) : gb254 ≠ gb249)); have NB250_254 := Ad.mk ((by rw [hg]; exact Nat.ne_of_lt (qkl (g := gb250) (o := .cells #[.int .i64 0, .int .i64 0, .int .i64 0, .int .i64 0] 27 (0, 0)) (by (with_reducible repeat (first | apply qkn | apply qkd | apply qka)); exact BK250.out)) : gb250 ≠ gb254)); have NB254_250 := Ad.mk ((by rw [hg]; exact Nat.ne_of_gt (qkl (g := gb250) (o := .cells #[.int .i64 0, .int .i64 0, .int .i64 0, .int .i64 0] 27 (0, 0)) (by (with_reducible repeat (first | apply qkn | apply qkd | apply qka)); exact BK250.out)) : gb254 ≠ gb250)); replace BK249 := Ad.mk (qkb (g := gb249) (o := .cells #[.int .i64 a0_0, .int .i64 a0_1, .int .i64 a0_2, .int .i64 a0_3] 27 (0, 0)) (by (with_reducible repeat (first | apply qkn | apply qkd | apply qka)); exact BK249.out) hb); replace BK250 := Ad.mk (qkb (g := gb250) (o := .cells #[.int .i64 0, .int .i64 0, .int .i64 0, .int .i64 0] 27 (0, 0)) (by (with_reducible repeat (first | apply qkn | apply qkd | apply qka)); exact BK250.out) hb); replace HB := Ad.mk (qbt (by repeat (first | (with_reducible first | exact HB.out | apply qba | apply qbn | apply qb1 | refine qbs ?_ GE249.out | refine qbs ?_ GE250.out) | exact HB.out)) hb); clear hb hbox hg; have hnb13 := NB254_249.out; have hnc13 := NB249_254.out; have hnb14 := NB254_250.out; have hnc14 := NB250_254.out; have hcz15_0 : w12.cell? ⟨gb254, 0, none⟩ = some (.int .i64 0) := (qkc BK254.out 0).trans rfl; have hcz15_1 : w12.cell? ⟨gb254, 1, none⟩ = some (.int .i64 0) := (qkc BK254.out 1).trans rfl; have hfz15_0 := qkz BK254.out 0; have hfz15_1 := qkz BK254.out 1))
  go_loopg [7] k (fun kq v7 w' => ∃ (x7_1 : Int) (x255001_1 : Int), v7 = .int .i64 x7_1 ∧ Ad (tune_Within.l0 kq x7_1 a0_0 a0_1 a0_2 a0_3 t252 x255001_1 = some (r1, r2, r3, r4, r5, r6)) ∧ Ad (kq ≤ k) ∧ Ad (w'.heap[gb249]? = some (.cells #[.int .i64 a0_0, .int .i64 a0_1, .int .i64 a0_2, .int .i64 a0_3] 27 (0, 0))) ∧ Ad (w'.heap[gb250]? = some (.cells #[.int .i64 0, .int .i64 0, .int .i64 0, .int .i64 0] 27 (0, 0))) ∧ Ad (w'.heap[gb254]? = some (.cells #[.int .i64 t252, .int .i64 x255001_1] 30 (0, 0))) ∧ Ad (Below w.heap.size w w'))
  case atStart => exact ⟨(0), (t253), (by first | rfl | (simp; done) | (simp [*]; done)), H', ⟨Nat.le_refl _⟩, ⟨by (with_reducible repeat (first | apply qkn | apply qkd | apply qka)); refine qkf ?_ NB249_254.out _; (with_reducible repeat (first | apply qkn | apply qkd | apply qka)); refine qkf ?_ NB249_254.out _; (with_reducible repeat (first | apply qkn | apply qkd | apply qka)); exact BK249.out⟩, ⟨by (with_reducible repeat (first | apply qkn | apply qkd | apply qka)); refine qkf ?_ NB250_254.out _; (with_reducible repeat (first | apply qkn | apply qkd | apply qka)); refine qkf ?_ NB250_254.out _; (with_reducible repeat (first | apply qkn | apply qkd | apply qka)); exact BK250.out⟩, ⟨by (with_reducible repeat (first | apply qkn | apply qkd | apply qka)); refine qkp (cs := #[.int .i64 t252, .int .i64 0]) ?_ 1 _ rfl; (with_reducible repeat (first | apply qkn | apply qkd | apply qka)); refine qkp (cs := #[.int .i64 0, .int .i64 0]) ?_ 0 _ rfl; (with_reducible repeat (first | apply qkn | apply qkd | apply qka)); exact BK254.out⟩, ⟨by repeat (first | (with_reducible first | exact HB.out | apply qba | apply qbn | apply qb1 | refine qbs ?_ GE249.out | refine qbs ?_ GE250.out | refine qbs ?_ GE254.out) | exact HB.out)⟩⟩
  case round =>
   clear H'
   try clear c1
   try clear c2
   try clear p2
   try clear c3
   try clear c3b0
   try clear c3b1
   try clear c7
   try clear c13
   try clear c14
   try clear hcz10_0
   try clear hcz10_1
   try clear hcz10_2
   try clear hcz10_3
   try clear hcz15_0
   try clear hcz15_1
   try clear hcz8_0
   try clear hcz8_1
   try clear hcz8_2
   try clear hcz8_3
   try clear hfz10_0
   try clear hfz10_1
   try clear hfz10_2
   try clear hfz10_3
   try clear hfz15_0
   try clear hfz15_1
   try clear hfz8_0
   try clear hfz8_1
   try clear hfz8_2
   try clear hfz8_3
   obtain ⟨x7_1, x255001_1, rfl, HA, HK1, BK249, BK250, BK254, HB⟩ := hrel
   cases gk with
   | zero => exact absurd HA.out (by simp [tune_Within.l0])
   | succ k1 =>
    have H := HA.out
    clear HA
    simp only [tune_Within.l0] at H
    by_cases c16 : (wrap64 (Int.tdiv t252 2)) ≥ x255001_1
    ·
     rw [if_pos c16] at H
     have c16b0 : decide (x255001_1 ≤ (wrap64 (Int.tdiv t252 2))) = true := decide_eq_true c16
     clear c16
     have H' := Ad.mk H
     clear H
     have hnb17 := NB254_249.out
     have hnc17 := NB249_254.out
     have hnb18 := NB254_250.out
     have hnc18 := NB250_254.out
     have hcz19_0 : wr.cell? ⟨gb254, 0, none⟩ = some (.int .i64 t252) := (qkc BK254.out 0).trans rfl
     have hcz19_1 : wr.cell? ⟨gb254, 1, none⟩ = some (.int .i64 x255001_1) := (qkc BK254.out 1).trans rfl
     have hfz19_0 := qkz BK254.out 0
     have hfz19_1 := qkz BK254.out 1
     go_wp2
     go_roundg k1
     case measure => have := HK1.out; omega
     case rel => exact ⟨(wrap64 (x7_1 + 1)), (wrap64 (x255001_1 * 2)), (by first | rfl | (simp; done) | (simp [*]; done)), H', ⟨by have := HK1.out; omega⟩, ⟨by (with_reducible repeat (first | apply qkn | apply qkd | apply qka)); refine qkf ?_ NB249_254.out _; (with_reducible repeat (first | apply qkn | apply qkd | apply qka)); exact BK249.out⟩, ⟨by (with_reducible repeat (first | apply qkn | apply qkd | apply qka)); refine qkf ?_ NB250_254.out _; (with_reducible repeat (first | apply qkn | apply qkd | apply qka)); exact BK250.out⟩, ⟨by (with_reducible repeat (first | apply qkn | apply qkd | apply qka)); refine qkp (cs := #[.int .i64 t252, .int .i64 x255001_1]) ?_ 1 _ rfl; (with_reducible repeat (first | apply qkn | apply qkd | apply qka)); exact BK254.out⟩, ⟨by repeat (first | (with_reducible first | exact HB.out | apply qba | apply qbn | apply qb1 | refine qbs ?_ GE249.out | refine qbs ?_ GE250.out | refine qbs ?_ GE254.out) | exact HB.out)⟩⟩
    ·
     rw [if_neg c16] at H
     have c16b0 : decide (x255001_1 ≤ (wrap64 (Int.tdiv t252 2))) = false := decide_eq_false c16
     clear c16
     have H' := Ad.mk H
     clear H
     have hnb20 := NB254_249.out
     have hnc20 := NB249_254.out
     have hnb21 := NB254_250.out
     have hnc21 := NB250_254.out
     have hcz22_0 : wr.cell? ⟨gb254, 0, none⟩ = some (.int .i64 t252) := (qkc BK254.out 0).trans rfl
     have hcz22_1 : wr.cell? ⟨gb254, 1, none⟩ = some (.int .i64 x255001_1) := (qkc BK254.out 1).trans rfl
     have hfz22_0 := qkz BK254.out 0
     have hfz22_1 := qkz BK254.out 1
     go_wp2
     go_loopg [7] k1 (fun kq v7 w' => ∃ (x7_2 : Int) (x255000_2 : Int), v7 = .int .i64 x7_2 ∧ Ad (tune_Within.l1 kq x7_2 a0_0 a0_1 a0_2 a0_3 x255000_2 x255001_1 = some (r1, r2, r3, r4, r5, r6)) ∧ Ad (kq ≤ k1) ∧ Ad (w'.heap[gb249]? = some (.cells #[.int .i64 a0_0, .int .i64 a0_1, .int .i64 a0_2, .int .i64 a0_3] 27 (0, 0))) ∧ Ad (w'.heap[gb250]? = some (.cells #[.int .i64 0, .int .i64 0, .int .i64 0, .int .i64 0] 27 (0, 0))) ∧ Ad (w'.heap[gb254]? = some (.cells #[.int .i64 x255000_2, .int .i64 x255001_1] 30 (0, 0))) ∧ Ad (Below w.heap.size w w'))
     case atStart => exact ⟨(x7_1), (t252), (by first | rfl | (simp; done) | (simp [*]; done)), H', ⟨Nat.le_refl _⟩, ⟨by (with_reducible repeat (first | apply qkn | apply qkd | apply qka)); exact BK249.out⟩, ⟨by (with_reducible repeat (first | apply qkn | apply qkd | apply qka)); exact BK250.out⟩, ⟨by (with_reducible repeat (first | apply qkn | apply qkd | apply qka)); exact BK254.out⟩, ⟨by repeat (first | (with_reducible first | exact HB.out | apply qba | apply qbn | apply qb1 | refine qbs ?_ GE249.out | refine qbs ?_ GE250.out | refine qbs ?_ GE254.out) | exact HB.out)⟩⟩
     case round =>
      clear H'
      try clear c1
      try clear c2
      try clear p2
      try clear c3
      try clear c3b0
      try clear c3b1
      try clear p6
      try clear c7
      try clear c13
      try clear c14
      try clear c16
      try clear c16b0
      try clear c17
      try clear c18
      try clear c20
      try clear c21
      try clear hcz10_0
      try clear hcz10_1
      try clear hcz10_2
      try clear hcz10_3
      try clear hcz15_0
      try clear hcz15_1
      try clear hcz19_0
      try clear hcz19_1
      try clear hcz22_0
      try clear hcz22_1
      try clear hcz8_0
      try clear hcz8_1
      try clear hcz8_2
      try clear hcz8_3
      try clear hfz10_0
      try clear hfz10_1
      try clear hfz10_2
      try clear hfz10_3
      try clear hfz15_0
      try clear hfz15_1
      try clear hfz19_0
      try clear hfz19_1
      try clear hfz22_0
      try clear hfz22_1
      try clear hfz8_0
      try clear hfz8_1
      try clear hfz8_2
      try clear hfz8_3
      try clear p2
      obtain ⟨x7_2, x255000_2, rfl, HA, HK2, BK249, BK250, BK254, HB⟩ := hrel
      cases gk with
      | zero => exact absurd HA.out (by simp [tune_Within.l1])
      | succ k2 =>
       have H := HA.out
       clear HA
       simp only [tune_Within.l1] at H
       by_cases c23 : x255000_2 < x255001_1
       ·
        rw [if_pos c23] at H
        have c23b0 : decide (x255000_2 < x255001_1) = true := decide_eq_true c23
        clear c23
        have H' := Ad.mk H
        clear H
        have hnb24 := NB254_249.out
        have hnc24 := NB249_254.out
        have hnb25 := NB254_250.out
        have hnc25 := NB250_254.out
        have hcz26_0 : wr.cell? ⟨gb254, 0, none⟩ = some (.int .i64 x255000_2) := (qkc BK254.out 0).trans rfl
        have hcz26_1 : wr.cell? ⟨gb254, 1, none⟩ = some (.int .i64 x255001_1) := (qkc BK254.out 1).trans rfl
        have hfz26_0 := qkz BK254.out 0
        have hfz26_1 := qkz BK254.out 1
        go_wp2
        go_roundg k2
        case measure => have := HK1.out; have := HK2.out; omega
        case rel => exact ⟨(wrap64 (x7_2 - 1)), (wrap64 (x255000_2 * 2)), (by first | rfl | (simp; done) | (simp [*]; done)), H', ⟨by have := HK1.out; have := HK2.out; omega⟩, ⟨by (with_reducible repeat (first | apply qkn | apply qkd | apply qka)); refine qkf ?_ NB249_254.out _; (with_reducible repeat (first | apply qkn | apply qkd | apply qka)); exact BK249.out⟩, ⟨by (with_reducible repeat (first | apply qkn | apply qkd | apply qka)); refine qkf ?_ NB250_254.out _; (with_reducible repeat (first | apply qkn | apply qkd | apply qka)); exact BK250.out⟩, ⟨by (with_reducible repeat (first | apply qkn | apply qkd | apply qka)); refine qkp (cs := #[.int .i64 x255000_2, .int .i64 x255001_1]) ?_ 0 _ rfl; (with_reducible repeat (first | apply qkn | apply qkd | apply qka)); exact BK254.out⟩, ⟨by repeat (first | (with_reducible first | exact HB.out | apply qba | apply qbn | apply qb1 | refine qbs ?_ GE249.out | refine qbs ?_ GE250.out | refine qbs ?_ GE254.out) | exact HB.out)⟩⟩
       ·
        rw [if_neg c23] at H
        have c23b0 : decide (x255000_2 < x255001_1) = false := decide_eq_false c23
        clear c23
        replace H := Option.bind_eq_some_iff.mp H
        obtain ⟨t255, A270, H⟩ := H
        replace H : (if t255 = 0 then (some (wrap64 (a0_0 - x7_2), a0_1, a0_2, a0_3, x7_2, 0)) else (some (0, 0, 0, 0, 0, t255))) = some (r1, r2, r3, r4, r5, r6) := H
        have A27 := Ad.mk A270
        clear A270
        by_cases c28 : t255 = 0
        ·
         rw [if_pos c28] at H
         have c28b0 : (t255 == 0) = true := beq_iff_eq.mpr c28
         have c28b1 : (t255 != 0) = false := bne_eq_false_iff_eq.mpr c28
         clear c28
         simp only [Option.some.injEq, Prod.mk.injEq] at H
         obtain ⟨rfl, rfl, rfl, rfl, rfl, rfl⟩ := H
         have hnb29 := NB254_249.out
         have hnc29 := NB249_254.out
         have hnb30 := NB254_250.out
         have hnc30 := NB250_254.out
         have hcz31_0 : wr.cell? ⟨gb254, 0, none⟩ = some (.int .i64 x255000_2) := (qkc BK254.out 0).trans rfl
         have hcz31_1 : wr.cell? ⟨gb254, 1, none⟩ = some (.int .i64 x255001_1) := (qkc BK254.out 1).trans rfl
         have hfz31_0 := qkz BK254.out 0
         have hfz31_1 := qkz BK254.out 1
         have hnb32 := NB249_250.out
         have hnc32 := NB250_249.out
         have hcz33_0 : wr.cell? ⟨gb249, 0, none⟩ = some (.int .i64 a0_0) := (qkc BK249.out 0).trans rfl
         have hcz33_1 : wr.cell? ⟨gb249, 1, none⟩ = some (.int .i64 a0_1) := (qkc BK249.out 1).trans rfl
         have hcz33_2 : wr.cell? ⟨gb249, 2, none⟩ = some (.int .i64 a0_2) := (qkc BK249.out 2).trans rfl
         have hcz33_3 : wr.cell? ⟨gb249, 3, none⟩ = some (.int .i64 a0_3) := (qkc BK249.out 3).trans rfl
         have hfz33_0 := qkz BK249.out 0
         have hfz33_1 := qkz BK249.out 1
         have hfz33_2 := qkz BK249.out 2
         have hfz33_3 := qkz BK249.out 3
         go_wp2_with (first | ((with_reducible refine qgc (f := 16) rfl ?_); refine goesL_ (some 46) rfl rfl Tryd.func16 (by kernel_rfl) rfl #[.agg #[.int .i64 (wrap64 (a0_0 - x7_2)), .int .i64 a0_1, .int .i64 a0_2, .int .i64 a0_3]] rfl (by (try simp only [List.map_toArray, List.map_cons, List.map_nil]); first | done | rfl) ?_; (with_reducible refine (tune_CheckInterval.calls (wrap64 (a0_0 - x7_2)) a0_1 a0_2 a0_3 t255 _ A27.out).mono ?_); rintro e w34 ⟨rfl, hb⟩; refine ⟨_, rfl, ?_⟩; replace BK249 := Ad.mk (qkb (g := gb249) (o := .cells #[.int .i64 (wrap64 (a0_0 - x7_2)), .int .i64 a0_1, .int .i64 a0_2, .int .i64 a0_3] 27 (0, 0)) (by (with_reducible repeat (first | apply qkn | apply qkd | apply qka)); refine qkp (cs := #[.int .i64 a0_0, .int .i64 a0_1, .int .i64 a0_2, .int .i64 a0_3]) ?_ 0 _ rfl; (with_reducible repeat (first | apply qkn | apply qkd | apply qka)); exact BK249.out) hb); replace BK250 := Ad.mk (qkb (g := gb250) (o := .cells #[.int .i64 0, .int .i64 0, .int .i64 0, .int .i64 0] 27 (0, 0)) (by (with_reducible repeat (first | apply qkn | apply qkd | apply qka)); refine qkf ?_ NB250_249.out _; (with_reducible repeat (first | apply qkn | apply qkd | apply qka)); exact BK250.out) hb); replace BK254 := Ad.mk (qkb (g := gb254) (o := .cells #[.int .i64 x255000_2, .int .i64 x255001_1] 30 (0, 0)) (by (with_reducible repeat (first | apply qkn | apply qkd | apply qka)); refine qkf ?_ NB254_249.out _; (with_reducible repeat (first | apply qkn | apply qkd | apply qka)); exact BK254.out) hb); replace HB := Ad.mk (qbt (by repeat (first | (with_reducible first | exact HB.out | apply qba | apply qbn | apply qb1 | refine qbs ?_ GE249.out | refine qbs ?_ GE250.out | refine qbs ?_ GE254.out) | exact HB.out)) hb); (try clear hb); have hcz35_0 : w34.cell? ⟨gb249, 0, none⟩ = some (.int .i64 (wrap64 (a0_0 - x7_2))) := (qkc BK249.out 0).trans rfl; have hcz35_1 : w34.cell? ⟨gb249, 1, none⟩ = some (.int .i64 a0_1) := (qkc BK249.out 1).trans rfl; have hcz35_2 : w34.cell? ⟨gb249, 2, none⟩ = some (.int .i64 a0_2) := (qkc BK249.out 2).trans rfl; have hcz35_3 : w34.cell? ⟨gb249, 3, none⟩ = some (.int .i64 a0_3) := (qkc BK249.out 3).trans rfl; have hfz35_0 := qkz BK249.out 0; have hfz35_1 := qkz BK249.out 1; have hfz35_2 := qkz BK249.out 2; have hfz35_3 := qkz BK249.out 3; have hcz36_0 : w34.cell? ⟨gb250, 0, none⟩ = some (.int .i64 0) := (qkc BK250.out 0).trans rfl; have hcz36_1 : w34.cell? ⟨gb250, 1, none⟩ = some (.int .i64 0) := (qkc BK250.out 1).trans rfl; have hcz36_2 : w34.cell? ⟨gb250, 2, none⟩ = some (.int .i64 0) := (qkc BK250.out 2).trans rfl; have hcz36_3 : w34.cell? ⟨gb250, 3, none⟩ = some (.int .i64 0) := (qkc BK250.out 3).trans rfl; have hfz36_0 := qkz BK250.out 0; have hfz36_1 := qkz BK250.out 1; have hfz36_2 := qkz BK250.out 2; have hfz36_3 := qkz BK250.out 3))
         refine bodyPost_ret (results_ctt rfl _ _ gb250 27 #[.int .i64 (wrap64 (a0_0 - x7_2)), .int .i64 a0_1, .int .i64 a0_2, .int .i64 a0_3] (0, 0) _ rfl (by (with_reducible repeat (first | apply qkn | apply qkd | apply qka)); refine qkp (cs := #[.int .i64 (wrap64 (a0_0 - x7_2)), .int .i64 a0_1, .int .i64 a0_2, .int .i64 0]) ?_ 3 _ rfl; (with_reducible repeat (first | apply qkn | apply qkd | apply qka)); refine qkp (cs := #[.int .i64 (wrap64 (a0_0 - x7_2)), .int .i64 a0_1, .int .i64 0, .int .i64 0]) ?_ 2 _ rfl; (with_reducible repeat (first | apply qkn | apply qkd | apply qka)); refine qkp (cs := #[.int .i64 (wrap64 (a0_0 - x7_2)), .int .i64 0, .int .i64 0, .int .i64 0]) ?_ 1 _ rfl; (with_reducible repeat (first | apply qkn | apply qkd | apply qka)); refine qkp (cs := #[.int .i64 0, .int .i64 0, .int .i64 0, .int .i64 0]) ?_ 0 _ rfl; (with_reducible repeat (first | apply qkn | apply qkd | apply qka)); exact BK250.out) Tryd.underlying27 rfl (by kernel_rfl)) rfl ?_
         exact ⟨by first | rfl | (simp [errW_none, errW_some] <;> rfl) | (simp [*, errW_none, errW_some] <;> rfl), by repeat (first | (with_reducible first | exact HB.out | apply qba | apply qbn | apply qb1 | refine qbs ?_ GE249.out | refine qbs ?_ GE250.out | refine qbs ?_ GE254.out) | exact HB.out)⟩
        ·
         rw [if_neg c28] at H
         have c28b0 : (t255 == 0) = false := beq_eq_false_iff_ne.mpr c28
         have c28b1 : (t255 != 0) = true := bne_iff_ne.mpr c28
         simp only [Option.some.injEq, Prod.mk.injEq] at H
         obtain ⟨rfl, rfl, rfl, rfl, rfl, rfl⟩ := H
         have hnb37 := NB254_249.out
         have hnc37 := NB249_254.out
         have hnb38 := NB254_250.out
         have hnc38 := NB250_254.out
         have hcz39_0 : wr.cell? ⟨gb254, 0, none⟩ = some (.int .i64 x255000_2) := (qkc BK254.out 0).trans rfl
         have hcz39_1 : wr.cell? ⟨gb254, 1, none⟩ = some (.int .i64 x255001_1) := (qkc BK254.out 1).trans rfl
         have hfz39_0 := qkz BK254.out 0
         have hfz39_1 := qkz BK254.out 1
         have hnb40 := NB249_250.out
         have hnc40 := NB250_249.out
         have hcz41_0 : wr.cell? ⟨gb249, 0, none⟩ = some (.int .i64 a0_0) := (qkc BK249.out 0).trans rfl
         have hcz41_1 : wr.cell? ⟨gb249, 1, none⟩ = some (.int .i64 a0_1) := (qkc BK249.out 1).trans rfl
         have hcz41_2 : wr.cell? ⟨gb249, 2, none⟩ = some (.int .i64 a0_2) := (qkc BK249.out 2).trans rfl
         have hcz41_3 : wr.cell? ⟨gb249, 3, none⟩ = some (.int .i64 a0_3) := (qkc BK249.out 3).trans rfl
         have hfz41_0 := qkz BK249.out 0
         have hfz41_1 := qkz BK249.out 1
         have hfz41_2 := qkz BK249.out 2
         have hfz41_3 := qkz BK249.out 3
         go_wp2_with (first | ((with_reducible refine qgc (f := 16) rfl ?_); refine goesL_ (some 46) rfl rfl Tryd.func16 (by kernel_rfl) rfl #[.agg #[.int .i64 (wrap64 (a0_0 - x7_2)), .int .i64 a0_1, .int .i64 a0_2, .int .i64 a0_3]] rfl (by (try simp only [List.map_toArray, List.map_cons, List.map_nil]); first | done | rfl) ?_; (with_reducible refine (tune_CheckInterval.calls (wrap64 (a0_0 - x7_2)) a0_1 a0_2 a0_3 t255 _ A27.out).mono ?_); rintro e w42 ⟨rfl, hb⟩; refine ⟨_, rfl, ?_⟩; replace BK249 := Ad.mk (qkb (g := gb249) (o := .cells #[.int .i64 (wrap64 (a0_0 - x7_2)), .int .i64 a0_1, .int .i64 a0_2, .int .i64 a0_3] 27 (0, 0)) (by (with_reducible repeat (first | apply qkn | apply qkd | apply qka)); refine qkp (cs := #[.int .i64 a0_0, .int .i64 a0_1, .int .i64 a0_2, .int .i64 a0_3]) ?_ 0 _ rfl; (with_reducible repeat (first | apply qkn | apply qkd | apply qka)); exact BK249.out) hb); replace BK250 := Ad.mk (qkb (g := gb250) (o := .cells #[.int .i64 0, .int .i64 0, .int .i64 0, .int .i64 0] 27 (0, 0)) (by (with_reducible repeat (first | apply qkn | apply qkd | apply qka)); refine qkf ?_ NB250_249.out _; (with_reducible repeat (first | apply qkn | apply qkd | apply qka)); exact BK250.out) hb); replace BK254 := Ad.mk (qkb (g := gb254) (o := .cells #[.int .i64 x255000_2, .int .i64 x255001_1] 30 (0, 0)) (by (with_reducible repeat (first | apply qkn | apply qkd | apply qka)); refine qkf ?_ NB254_249.out _; (with_reducible repeat (first | apply qkn | apply qkd | apply qka)); exact BK254.out) hb); replace HB := Ad.mk (qbt (by repeat (first | (with_reducible first | exact HB.out | apply qba | apply qbn | apply qb1 | refine qbs ?_ GE249.out | refine qbs ?_ GE250.out | refine qbs ?_ GE254.out) | exact HB.out)) hb); (try clear hb); have hcz43_0 : w42.cell? ⟨gb250, 0, none⟩ = some (.int .i64 0) := (qkc BK250.out 0).trans rfl; have hcz43_1 : w42.cell? ⟨gb250, 1, none⟩ = some (.int .i64 0) := (qkc BK250.out 1).trans rfl; have hcz43_2 : w42.cell? ⟨gb250, 2, none⟩ = some (.int .i64 0) := (qkc BK250.out 2).trans rfl; have hcz43_3 : w42.cell? ⟨gb250, 3, none⟩ = some (.int .i64 0) := (qkc BK250.out 3).trans rfl; have hfz43_0 := qkz BK250.out 0; have hfz43_1 := qkz BK250.out 1; have hfz43_2 := qkz BK250.out 2; have hfz43_3 := qkz BK250.out 3))
         refine bodyPost_ret (results_ctt rfl _ _ gb250 27 #[.int .i64 0, .int .i64 0, .int .i64 0, .int .i64 0] (0, 0) _ rfl (by (with_reducible repeat (first | apply qkn | apply qkd | apply qka)); refine qkp (cs := #[.int .i64 0, .int .i64 0, .int .i64 0, .int .i64 0]) ?_ 3 _ rfl; (with_reducible repeat (first | apply qkn | apply qkd | apply qka)); refine qkp (cs := #[.int .i64 0, .int .i64 0, .int .i64 0, .int .i64 0]) ?_ 2 _ rfl; (with_reducible repeat (first | apply qkn | apply qkd | apply qka)); refine qkp (cs := #[.int .i64 0, .int .i64 0, .int .i64 0, .int .i64 0]) ?_ 1 _ rfl; (with_reducible repeat (first | apply qkn | apply qkd | apply qka)); refine qkp (cs := #[.int .i64 0, .int .i64 0, .int .i64 0, .int .i64 0]) ?_ 0 _ rfl; (with_reducible repeat (first | apply qkn | apply qkd | apply qka)); exact BK250.out) Tryd.underlying27 rfl (by kernel_rfl)) rfl ?_
         exact ⟨by first | rfl | (simp [errW_none, errW_some] <;> rfl) | (simp [*, errW_none, errW_some] <;> rfl), by repeat (first | (with_reducible first | exact HB.out | apply qba | apply qbn | apply qb1 | refine qbs ?_ GE249.out | refine qbs ?_ GE250.out | refine qbs ?_ GE254.out) | exact HB.out)⟩
 ·
  rw [if_neg c3] at H
  have c3b0 : (t251 == 0) = false := beq_eq_false_iff_ne.mpr c3
  have c3b1 : (t251 != 0) = true := bne_iff_ne.mpr c3
  simp only [Option.some.injEq, Prod.mk.injEq] at H
  obtain ⟨rfl, rfl, rfl, rfl, rfl, rfl⟩ := H
  go_enter Tryd.func20, Tryd.ntmps20
  go_wp2_with (first | ((with_reducible refine qgd (N := 1) rfl ?_); refine qbe ?hg (N := 1) ?hd (cs := #[.int .i64 a0_0, .int .i64 a0_1, .int .i64 a0_2, .int .i64 a0_3]) (t := 27) ?hr ?_; (case hd => rfl); (case hg => rfl); (case hr => first | (go_simp; done) | (go_simp; rfl)); intro gb249 hg w44 hbox hb; have BK249 := Ad.mk (hbox); have GW249 := Ad.mk ((by rw [hg]; exact (qbz (by repeat (first | (with_reducible first | exact HB.out | apply qba | apply qbn | apply qb1) | exact HB.out))) : w.heap.size ≤ gb249)); have GE249 := Ad.mk ((by rw [hg]; exact (qbz (by repeat (first | (with_reducible first | exact HB.out | apply qba | apply qbn | apply qb1) | exact HB.out))) : w.heap.size ≤ gb249)); replace HB := Ad.mk (qbt (by repeat (first | (with_reducible first | exact HB.out | apply qba | apply qbn | apply qb1) | exact HB.out)) hb); clear hb hbox hg) | ((with_reducible refine qgd (N := 2) rfl ?_); refine qbe ?hg (N := 2) ?hd (cs := #[.int .i64 0, .int .i64 0, .int .i64 0, .int .i64 0]) (t := 27) ?hr ?_; (case hd => rfl); (case hg => rfl); (case hr => first | (go_simp; done) | (go_simp; rfl)); intro gb250 hg w45 hbox hb; have BK250 := Ad.mk (hbox); have GW250 := Ad.mk ((by rw [hg]; exact (qbz (by repeat (first | (with_reducible first | exact HB.out | apply qba | apply qbn | apply qb1 | refine qbs ?_ GE249.out) | exact HB.out))) : w.heap.size ≤ gb250)); have GE250 := Ad.mk ((by rw [hg]; exact (qbz (by repeat (first | (with_reducible first | exact HB.out | apply qba | apply qbn | apply qb1 | refine qbs ?_ GE249.out) | exact HB.out))) : w.heap.size ≤ gb250)); have NB249_250 := Ad.mk ((by rw [hg]; exact Nat.ne_of_lt (qkl (g := gb249) (o := .cells #[.int .i64 a0_0, .int .i64 a0_1, .int .i64 a0_2, .int .i64 a0_3] 27 (0, 0)) (by (with_reducible repeat (first | apply qkn | apply qkd | apply qka)); exact BK249.out)) : gb249 ≠ gb250)); have NB250_249 := Ad.mk ((by rw [hg]; exact Nat.ne_of_gt (qkl (g := gb249) (o := .cells #[.int .i64 a0_0, .int .i64 a0_1, .int .i64 a0_2, .int .i64 a0_3] 27 (0, 0)) (by (with_reducible repeat (first | apply qkn | apply qkd | apply qka)); exact BK249.out)) : gb250 ≠ gb249)); replace BK249 := Ad.mk (qkb (g := gb249) (o := .cells #[.int .i64 a0_0, .int .i64 a0_1, .int .i64 a0_2, .int .i64 a0_3] 27 (0, 0)) (by (with_reducible repeat (first | apply qkn | apply qkd | apply qka)); exact BK249.out) hb); replace HB := Ad.mk (qbt (by repeat (first | (with_reducible first | exact HB.out | apply qba | apply qbn | apply qb1 | refine qbs ?_ GE249.out) | exact HB.out)) hb); clear hb hbox hg; have hnb46 := NB249_250.out; have hnc46 := NB250_249.out; have hcz47_0 : w45.cell? ⟨gb249, 0, none⟩ = some (.int .i64 a0_0) := (qkc BK249.out 0).trans rfl; have hcz47_1 : w45.cell? ⟨gb249, 1, none⟩ = some (.int .i64 a0_1) := (qkc BK249.out 1).trans rfl; have hcz47_2 : w45.cell? ⟨gb249, 2, none⟩ = some (.int .i64 a0_2) := (qkc BK249.out 2).trans rfl; have hcz47_3 : w45.cell? ⟨gb249, 3, none⟩ = some (.int .i64 a0_3) := (qkc BK249.out 3).trans rfl; have hfz47_0 := qkz BK249.out 0; have hfz47_1 := qkz BK249.out 1; have hfz47_2 := qkz BK249.out 2; have hfz47_3 := qkz BK249.out 3) | ((with_reducible refine qgc (f := 16) rfl ?_); refine goesL_ (some 10) rfl rfl Tryd.func16 (by kernel_rfl) rfl #[.agg #[.int .i64 a0_0, .int .i64 a0_1, .int .i64 a0_2, .int .i64 a0_3]] rfl (by (try simp only [List.map_toArray, List.map_cons, List.map_nil]); first | done | rfl) ?_; (with_reducible refine (tune_CheckInterval.calls a0_0 a0_1 a0_2 a0_3 t251 _ A2.out).mono ?_); rintro e w48 ⟨rfl, hb⟩; refine ⟨_, rfl, ?_⟩; replace BK249 := Ad.mk (qkb (g := gb249) (o := .cells #[.int .i64 a0_0, .int .i64 a0_1, .int .i64 a0_2, .int .i64 a0_3] 27 (0, 0)) (by (with_reducible repeat (first | apply qkn | apply qkd | apply qka)); exact BK249.out) hb); replace BK250 := Ad.mk (qkb (g := gb250) (o := .cells #[.int .i64 0, .int .i64 0, .int .i64 0, .int .i64 0] 27 (0, 0)) (by (with_reducible repeat (first | apply qkn | apply qkd | apply qka)); exact BK250.out) hb); replace HB := Ad.mk (qbt (by repeat (first | (with_reducible first | exact HB.out | apply qba | apply qbn | apply qb1 | refine qbs ?_ GE249.out | refine qbs ?_ GE250.out) | exact HB.out)) hb); (try clear hb); have hcz49_0 : w48.cell? ⟨gb250, 0, none⟩ = some (.int .i64 0) := (qkc BK250.out 0).trans rfl; have hcz49_1 : w48.cell? ⟨gb250, 1, none⟩ = some (.int .i64 0) := (qkc BK250.out 1).trans rfl; have hcz49_2 : w48.cell? ⟨gb250, 2, none⟩ = some (.int .i64 0) := (qkc BK250.out 2).trans rfl; have hcz49_3 : w48.cell? ⟨gb250, 3, none⟩ = some (.int .i64 0) := (qkc BK250.out 3).trans rfl; have hfz49_0 := qkz BK250.out 0; have hfz49_1 := qkz BK250.out 1; have hfz49_2 := qkz BK250.out 2; have hfz49_3 := qkz BK250.out 3))
  refine bodyPost_ret (results_ctt rfl _ _ gb250 27 #[.int .i64 0, .int .i64 0, .int .i64 0, .int .i64 0] (0, 0) _ rfl (by (with_reducible repeat (first | apply qkn | apply qkd | apply qka)); refine qkp (cs := #[.int .i64 0, .int .i64 0, .int .i64 0, .int .i64 0]) ?_ 3 _ rfl; (with_reducible repeat (first | apply qkn | apply qkd | apply qka)); refine qkp (cs := #[.int .i64 0, .int .i64 0, .int .i64 0, .int .i64 0]) ?_ 2 _ rfl; (with_reducible repeat (first | apply qkn | apply qkd | apply qka)); refine qkp (cs := #[.int .i64 0, .int .i64 0, .int .i64 0, .int .i64 0]) ?_ 1 _ rfl; (with_reducible repeat (first | apply qkn | apply qkd | apply qka)); refine qkp (cs := #[.int .i64 0, .int .i64 0, .int .i64 0, .int .i64 0]) ?_ 0 _ rfl; (with_reducible repeat (first | apply qkn | apply qkd | apply qka)); exact BK250.out) Tryd.underlying27 rfl (by kernel_rfl)) rfl ?_
  exact ⟨by first | rfl | (simp [errW_none, errW_some] <;> rfl) | (simp [*, errW_none, errW_some] <;> rfl), by repeat (first | (with_reducible first | exact HB.out | apply qba | apply qbn | apply qb1 | refine qbs ?_ GE249.out | refine qbs ?_ GE250.out) | exact HB.out)⟩

/-! ### gleeref1_Checked: function 80 -/
def gleeref1_Checked.f (k : Nat) (a0_0 : Int) (a0_1 : Int) (a0_2 : Int) (a0_3 : Int) : Option (Int × Int × Int × Int × Int) := (gleeref1_IntervalFault.f k a0_0 a0_1 a0_2 a0_3).bind fun t258 => (if t258 = 0 then (some (a0_0, a0_1, a0_2, a0_3, 0)) else (some (0, 0, 0, 0, t258)))
theorem gleeref1_Checked.mono : ∀ a0 a1 a2 a3 k, LeO (gleeref1_Checked.f k a0 a1 a2 a3) (gleeref1_Checked.f (k + 1) a0 a1 a2 a3) := by
 intro a0 a1 a2 a3 k
 unfold gleeref1_Checked.f
 repeat' first
   | (with_reducible exact gleeref1_IntervalFault.mono _ _ _ _ _)
   | (with_reducible exact LeO.refl _)
   | (with_reducible exact LeO.none _)
   | (with_reducible refine LeO.ite ?_ ?_)
   | (with_reducible refine LeO.bind ?_ (fun _ => ?_))
   | exact gleeref1_IntervalFault.mono _ _ _ _ _
   | exact LeO.none _
   | refine LeO.ite ?_ ?_
   | refine LeO.bind ?_ (fun _ => ?_)
set_option maxHeartbeats 8000000 in
set_option maxRecDepth 100000 in
theorem gleeref1_Checked.calls (k : Nat) (a0_0 : Int) (a0_1 : Int) (a0_2 : Int) (a0_3 : Int) (r1 : Int) (r2 : Int) (r3 : Int) (r4 : Int) (r5 : Int) (w : World) (h : gleeref1_Checked.f k a0_0 a0_1 a0_2 a0_3 = some (r1, r2, r3, r4, r5)) :
  Calls Tryd.prog 80 #[.agg #[.int .i64 a0_0, .int .i64 a0_1, .int .i64 a0_2, .int .i64 a0_3]] w fun e w' => e = .returned (.tuple #[.agg #[.int .i64 r1, .int .i64 r2, .int .i64 r3, .int .i64 r4], .int .i64 r5]) ∧ Below w.heap.size w w' := by
 have hu27 := Tryd.underlying27
 have HB := Ad.mk (Below.refl w.heap.size w)
 have H : ((gleeref1_IntervalFault.f k a0_0 a0_1 a0_2 a0_3).bind fun t258 => (if t258 = 0 then (some (a0_0, a0_1, a0_2, a0_3, 0)) else (some (0, 0, 0, 0, t258)))) = some (r1, r2, r3, r4, r5) := h
 clear h
 replace H := Option.bind_eq_some_iff.mp H
 obtain ⟨t258, A20, H⟩ := H
 replace H : (if t258 = 0 then (some (a0_0, a0_1, a0_2, a0_3, 0)) else (some (0, 0, 0, 0, t258))) = some (r1, r2, r3, r4, r5) := H
 have A2 := Ad.mk A20
 clear A20
 by_cases c3 : t258 = 0
 ·
  rw [if_pos c3] at H
  have c3b0 : (t258 == 0) = true := beq_iff_eq.mpr c3
  have c3b1 : (t258 != 0) = false := bne_eq_false_iff_eq.mpr c3
  clear c3
  simp only [Option.some.injEq, Prod.mk.injEq] at H
  obtain ⟨rfl, rfl, rfl, rfl, rfl⟩ := H
  go_enter Tryd.func80, Tryd.ntmps80
  go_wp2_with (first | ((with_reducible refine qgd (N := 1) rfl ?_); refine qbe ?hg (N := 1) ?hd (cs := #[.int .i64 a0_0, .int .i64 a0_1, .int .i64 a0_2, .int .i64 a0_3]) (t := 27) ?hr ?_; (case hd => rfl); (case hg => rfl); (case hr => first | (go_simp; done) | (go_simp; rfl)); intro gb256 hg w4 hbox hb; have BK256 := Ad.mk (hbox); have GW256 := Ad.mk ((by rw [hg]; exact (qbz (by repeat (first | (with_reducible first | exact HB.out | apply qba | apply qbn | apply qb1) | exact HB.out))) : w.heap.size ≤ gb256)); have GE256 := Ad.mk ((by rw [hg]; exact (qbz (by repeat (first | (with_reducible first | exact HB.out | apply qba | apply qbn | apply qb1) | exact HB.out))) : w.heap.size ≤ gb256)); replace HB := Ad.mk (qbt (by repeat (first | (with_reducible first | exact HB.out | apply qba | apply qbn | apply qb1) | exact HB.out)) hb); clear hb hbox hg) | ((with_reducible refine qgd (N := 2) rfl ?_); refine qbe ?hg (N := 2) ?hd (cs := #[.int .i64 0, .int .i64 0, .int .i64 0, .int .i64 0]) (t := 27) ?hr ?_; (case hd => rfl); (case hg => rfl); (case hr => first | (go_simp; done) | (go_simp; rfl)); intro gb257 hg w5 hbox hb; have BK257 := Ad.mk (hbox); have GW257 := Ad.mk ((by rw [hg]; exact (qbz (by repeat (first | (with_reducible first | exact HB.out | apply qba | apply qbn | apply qb1 | refine qbs ?_ GE256.out) | exact HB.out))) : w.heap.size ≤ gb257)); have GE257 := Ad.mk ((by rw [hg]; exact (qbz (by repeat (first | (with_reducible first | exact HB.out | apply qba | apply qbn | apply qb1 | refine qbs ?_ GE256.out) | exact HB.out))) : w.heap.size ≤ gb257)); have NB256_257 := Ad.mk ((by rw [hg]; exact Nat.ne_of_lt (qkl (g := gb256) (o := .cells #[.int .i64 a0_0, .int .i64 a0_1, .int .i64 a0_2, .int .i64 a0_3] 27 (0, 0)) (by (with_reducible repeat (first | apply qkn | apply qkd | apply qka)); exact BK256.out)) : gb256 ≠ gb257)); have NB257_256 := Ad.mk ((by rw [hg]; exact Nat.ne_of_gt (qkl (g := gb256) (o := .cells #[.int .i64 a0_0, .int .i64 a0_1, .int .i64 a0_2, .int .i64 a0_3] 27 (0, 0)) (by (with_reducible repeat (first | apply qkn | apply qkd | apply qka)); exact BK256.out)) : gb257 ≠ gb256)); replace BK256 := Ad.mk (qkb (g := gb256) (o := .cells #[.int .i64 a0_0, .int .i64 a0_1, .int .i64 a0_2, .int .i64 a0_3] 27 (0, 0)) (by (with_reducible repeat (first | apply qkn | apply qkd | apply qka)); exact BK256.out) hb); replace HB := Ad.mk (qbt (by repeat (first | (with_reducible first | exact HB.out | apply qba | apply qbn | apply qb1 | refine qbs ?_ GE256.out) | exact HB.out)) hb); clear hb hbox hg; have hnb6 := NB256_257.out; have hnc6 := NB257_256.out; have hcz7_0 : w5.cell? ⟨gb256, 0, none⟩ = some (.int .i64 a0_0) := (qkc BK256.out 0).trans rfl; have hcz7_1 : w5.cell? ⟨gb256, 1, none⟩ = some (.int .i64 a0_1) := (qkc BK256.out 1).trans rfl; have hcz7_2 : w5.cell? ⟨gb256, 2, none⟩ = some (.int .i64 a0_2) := (qkc BK256.out 2).trans rfl; have hcz7_3 : w5.cell? ⟨gb256, 3, none⟩ = some (.int .i64 a0_3) := (qkc BK256.out 3).trans rfl; have hfz7_0 := qkz BK256.out 0; have hfz7_1 := qkz BK256.out 1; have hfz7_2 := qkz BK256.out 2; have hfz7_3 := qkz BK256.out 3) | ((with_reducible refine qgc (f := 14) rfl ?_); refine goesL_ (some 6) rfl rfl Tryd.func14 (by kernel_rfl) rfl #[.agg #[.int .i64 a0_0, .int .i64 a0_1, .int .i64 a0_2, .int .i64 a0_3]] rfl (by (try simp only [List.map_toArray, List.map_cons, List.map_nil]); first | done | rfl) ?_; (with_reducible refine (gleeref1_IntervalFault.calls k a0_0 a0_1 a0_2 a0_3 t258 _ A2.out).mono ?_); rintro e w8 ⟨rfl, hb⟩; refine ⟨_, rfl, ?_⟩; replace BK256 := Ad.mk (qkb (g := gb256) (o := .cells #[.int .i64 a0_0, .int .i64 a0_1, .int .i64 a0_2, .int .i64 a0_3] 27 (0, 0)) (by (with_reducible repeat (first | apply qkn | apply qkd | apply qka)); exact BK256.out) hb); replace BK257 := Ad.mk (qkb (g := gb257) (o := .cells #[.int .i64 0, .int .i64 0, .int .i64 0, .int .i64 0] 27 (0, 0)) (by (with_reducible repeat (first | apply qkn | apply qkd | apply qka)); exact BK257.out) hb); replace HB := Ad.mk (qbt (by repeat (first | (with_reducible first | exact HB.out | apply qba | apply qbn | apply qb1 | refine qbs ?_ GE256.out | refine qbs ?_ GE257.out) | exact HB.out)) hb); (try clear hb); have hcz9_0 : w8.cell? ⟨gb256, 0, none⟩ = some (.int .i64 a0_0) := (qkc BK256.out 0).trans rfl; have hcz9_1 : w8.cell? ⟨gb256, 1, none⟩ = some (.int .i64 a0_1) := (qkc BK256.out 1).trans rfl; have hcz9_2 : w8.cell? ⟨gb256, 2, none⟩ = some (.int .i64 a0_2) := (qkc BK256.out 2).trans rfl; have hcz9_3 : w8.cell? ⟨gb256, 3, none⟩ = some (.int .i64 a0_3) := (qkc BK256.out 3).trans rfl; have hfz9_0 := qkz BK256.out 0; have hfz9_1 := qkz BK256.out 1; have hfz9_2 := qkz BK256.out 2; have hfz9_3 := qkz BK256.out 3; have hcz10_0 : w8.cell? ⟨gb257, 0, none⟩ = some (.int .i64 0) := (qkc BK257.out 0).trans rfl; have hcz10_1 : w8.cell? ⟨gb257, 1, none⟩ = some (.int .i64 0) := (qkc BK257.out 1).trans rfl; have hcz10_2 : w8.cell? ⟨gb257, 2, none⟩ = some (.int .i64 0) := (qkc BK257.out 2).trans rfl; have hcz10_3 : w8.cell? ⟨gb257, 3, none⟩ = some (.int .i64 0) := (qkc BK257.out 3).trans rfl; have hfz10_0 := qkz BK257.out 0; have hfz10_1 := qkz BK257.out 1; have hfz10_2 := qkz BK257.out 2; have hfz10_3 := qkz BK257.out 3))
  refine bodyPost_ret (results_ct rfl _ _ gb257 27 #[.int .i64 a0_0, .int .i64 a0_1, .int .i64 a0_2, .int .i64 a0_3] (0, 0) _ rfl (by (with_reducible repeat (first | apply qkn | apply qkd | apply qka)); refine qkp (cs := #[.int .i64 a0_0, .int .i64 a0_1, .int .i64 a0_2, .int .i64 0]) ?_ 3 _ rfl; (with_reducible repeat (first | apply qkn | apply qkd | apply qka)); refine qkp (cs := #[.int .i64 a0_0, .int .i64 a0_1, .int .i64 0, .int .i64 0]) ?_ 2 _ rfl; (with_reducible repeat (first | apply qkn | apply qkd | apply qka)); refine qkp (cs := #[.int .i64 a0_0, .int .i64 0, .int .i64 0, .int .i64 0]) ?_ 1 _ rfl; (with_reducible repeat (first | apply qkn | apply qkd | apply qka)); refine qkp (cs := #[.int .i64 0, .int .i64 0, .int .i64 0, .int .i64 0]) ?_ 0 _ rfl; (with_reducible repeat (first | apply qkn | apply qkd | apply qka)); exact BK257.out) Tryd.underlying27 rfl (by kernel_rfl)) rfl ?_
  exact ⟨by first | rfl | (simp [errW_none, errW_some] <;> rfl) | (simp [*, errW_none, errW_some] <;> rfl), by repeat (first | (with_reducible first | exact HB.out | apply qba | apply qbn | apply qb1 | refine qbs ?_ GE256.out | refine qbs ?_ GE257.out) | exact HB.out)⟩
 ·
  rw [if_neg c3] at H
  have c3b0 : (t258 == 0) = false := beq_eq_false_iff_ne.mpr c3
  have c3b1 : (t258 != 0) = true := bne_iff_ne.mpr c3
  simp only [Option.some.injEq, Prod.mk.injEq] at H
  obtain ⟨rfl, rfl, rfl, rfl, rfl⟩ := H
  go_enter Tryd.func80, Tryd.ntmps80
  go_wp2_with (first | ((with_reducible refine qgd (N := 1) rfl ?_); refine qbe ?hg (N := 1) ?hd (cs := #[.int .i64 a0_0, .int .i64 a0_1, .int .i64 a0_2, .int .i64 a0_3]) (t := 27) ?hr ?_; (case hd => rfl); (case hg => rfl); (case hr => first | (go_simp; done) | (go_simp; rfl)); intro gb256 hg w11 hbox hb; have BK256 := Ad.mk (hbox); have GW256 := Ad.mk ((by rw [hg]; exact (qbz (by repeat (first | (with_reducible first | exact HB.out | apply qba | apply qbn | apply qb1) | exact HB.out))) : w.heap.size ≤ gb256)); have GE256 := Ad.mk ((by rw [hg]; exact (qbz (by repeat (first | (with_reducible first | exact HB.out | apply qba | apply qbn | apply qb1) | exact HB.out))) : w.heap.size ≤ gb256)); replace HB := Ad.mk (qbt (by repeat (first | (with_reducible first | exact HB.out | apply qba | apply qbn | apply qb1) | exact HB.out)) hb); clear hb hbox hg) | ((with_reducible refine qgd (N := 2) rfl ?_); refine qbe ?hg (N := 2) ?hd (cs := #[.int .i64 0, .int .i64 0, .int .i64 0, .int .i64 0]) (t := 27) ?hr ?_; (case hd => rfl); (case hg => rfl); (case hr => first | (go_simp; done) | (go_simp; rfl)); intro gb257 hg w12 hbox hb; have BK257 := Ad.mk (hbox); have GW257 := Ad.mk ((by rw [hg]; exact (qbz (by repeat (first | (with_reducible first | exact HB.out | apply qba | apply qbn | apply qb1 | refine qbs ?_ GE256.out) | exact HB.out))) : w.heap.size ≤ gb257)); have GE257 := Ad.mk ((by rw [hg]; exact (qbz (by repeat (first | (with_reducible first | exact HB.out | apply qba | apply qbn | apply qb1 | refine qbs ?_ GE256.out) | exact HB.out))) : w.heap.size ≤ gb257)); have NB256_257 := Ad.mk ((by rw [hg]; exact Nat.ne_of_lt (qkl (g := gb256) (o := .cells #[.int .i64 a0_0, .int .i64 a0_1, .int .i64 a0_2, .int .i64 a0_3] 27 (0, 0)) (by (with_reducible repeat (first | apply qkn | apply qkd | apply qka)); exact BK256.out)) : gb256 ≠ gb257)); have NB257_256 := Ad.mk ((by rw [hg]; exact Nat.ne_of_gt (qkl (g := gb256) (o := .cells #[.int .i64 a0_0, .int .i64 a0_1, .int .i64 a0_2, .int .i64 a0_3] 27 (0, 0)) (by (with_reducible repeat (first | apply qkn | apply qkd | apply qka)); exact BK256.out)) : gb257 ≠ gb256)); replace BK256 := Ad.mk (qkb (g := gb256) (o := .cells #[.int .i64 a0_0, .int .i64 a0_1, .int .i64 a0_2, .int .i64 a0_3] 27 (0, 0)) (by (with_reducible repeat (first | apply qkn | apply qkd | apply qka)); exact BK256.out) hb); replace HB := Ad.mk (qbt (by repeat (first | (with_reducible first | exact HB.out | apply qba | apply qbn | apply qb1 | refine qbs ?_ GE256.out) | exact HB.out)) hb); clear hb hbox hg; have hnb13 := NB256_257.out; have hnc13 := NB257_256.out; have hcz14_0 : w12.cell? ⟨gb256, 0, none⟩ = some (.int .i64 a0_0) := (qkc BK256.out 0).trans rfl; have hcz14_1 : w12.cell? ⟨gb256, 1, none⟩ = some (.int .i64 a0_1) := (qkc BK256.out 1).trans rfl; have hcz14_2 : w12.cell? ⟨gb256, 2, none⟩ = some (.int .i64 a0_2) := (qkc BK256.out 2).trans rfl; have hcz14_3 : w12.cell? ⟨gb256, 3, none⟩ = some (.int .i64 a0_3) := (qkc BK256.out 3).trans rfl; have hfz14_0 := qkz BK256.out 0; have hfz14_1 := qkz BK256.out 1; have hfz14_2 := qkz BK256.out 2; have hfz14_3 := qkz BK256.out 3) | ((with_reducible refine qgc (f := 14) rfl ?_); refine goesL_ (some 6) rfl rfl Tryd.func14 (by kernel_rfl) rfl #[.agg #[.int .i64 a0_0, .int .i64 a0_1, .int .i64 a0_2, .int .i64 a0_3]] rfl (by (try simp only [List.map_toArray, List.map_cons, List.map_nil]); first | done | rfl) ?_; (with_reducible refine (gleeref1_IntervalFault.calls k a0_0 a0_1 a0_2 a0_3 t258 _ A2.out).mono ?_); rintro e w15 ⟨rfl, hb⟩; refine ⟨_, rfl, ?_⟩; replace BK256 := Ad.mk (qkb (g := gb256) (o := .cells #[.int .i64 a0_0, .int .i64 a0_1, .int .i64 a0_2, .int .i64 a0_3] 27 (0, 0)) (by (with_reducible repeat (first | apply qkn | apply qkd | apply qka)); exact BK256.out) hb); replace BK257 := Ad.mk (qkb (g := gb257) (o := .cells #[.int .i64 0, .int .i64 0, .int .i64 0, .int .i64 0] 27 (0, 0)) (by (with_reducible repeat (first | apply qkn | apply qkd | apply qka)); exact BK257.out) hb); replace HB := Ad.mk (qbt (by repeat (first | (with_reducible first | exact HB.out | apply qba | apply qbn | apply qb1 | refine qbs ?_ GE256.out | refine qbs ?_ GE257.out) | exact HB.out)) hb); (try clear hb); have hcz16_0 : w15.cell? ⟨gb257, 0, none⟩ = some (.int .i64 0) := (qkc BK257.out 0).trans rfl; have hcz16_1 : w15.cell? ⟨gb257, 1, none⟩ = some (.int .i64 0) := (qkc BK257.out 1).trans rfl; have hcz16_2 : w15.cell? ⟨gb257, 2, none⟩ = some (.int .i64 0) := (qkc BK257.out 2).trans rfl; have hcz16_3 : w15.cell? ⟨gb257, 3, none⟩ = some (.int .i64 0) := (qkc BK257.out 3).trans rfl; have hfz16_0 := qkz BK257.out 0; have hfz16_1 := qkz BK257.out 1; have hfz16_2 := qkz BK257.out 2; have hfz16_3 := qkz BK257.out 3))
  refine bodyPost_ret (results_ct rfl _ _ gb257 27 #[.int .i64 0, .int .i64 0, .int .i64 0, .int .i64 0] (0, 0) _ rfl (by (with_reducible repeat (first | apply qkn | apply qkd | apply qka)); refine qkp (cs := #[.int .i64 0, .int .i64 0, .int .i64 0, .int .i64 0]) ?_ 3 _ rfl; (with_reducible repeat (first | apply qkn | apply qkd | apply qka)); refine qkp (cs := #[.int .i64 0, .int .i64 0, .int .i64 0, .int .i64 0]) ?_ 2 _ rfl; (with_reducible repeat (first | apply qkn | apply qkd | apply qka)); refine qkp (cs := #[.int .i64 0, .int .i64 0, .int .i64 0, .int .i64 0]) ?_ 1 _ rfl; (with_reducible repeat (first | apply qkn | apply qkd | apply qka)); refine qkp (cs := #[.int .i64 0, .int .i64 0, .int .i64 0, .int .i64 0]) ?_ 0 _ rfl; (with_reducible repeat (first | apply qkn | apply qkd | apply qka)); exact BK257.out) Tryd.underlying27 rfl (by kernel_rfl)) rfl ?_
  exact ⟨by first | rfl | (simp [errW_none, errW_some] <;> rfl) | (simp [*, errW_none, errW_some] <;> rfl), by repeat (first | (with_reducible first | exact HB.out | apply qba | apply qbn | apply qb1 | refine qbs ?_ GE256.out | refine qbs ?_ GE257.out) | exact HB.out)⟩

/-! ### gleeref1_WithinOf: function 21 -/
mutual
def gleeref1_WithinOf.l0 : Nat → Int → Int → Int → Int → Int → Int → Int → Int → Int → Int → Int → Option (Int × Int × Int × Int × Int × Int)
 | 0, _, _, _, _, _, _, _, _, _, _, _ => none
 | k + 1, x7, x8, x9, x260000, x260001, x260002, x260003, x262000, x262001, x262002, x262003 => if x8 ≥ (wrap64 (2 * x9)) then (gleeref1_WithinOf.l0 k (wrap64 (x7 + 1)) x8 (wrap64 (x9 * 2)) x260000 x260001 x260002 x260003 x262000 x262001 x262002 x262003) else (gleeref1_WithinOf.l1 k x7 x8 x9 x260000 x260001 x260002 x260003 x262000 x262001 x262002 x262003)
def gleeref1_WithinOf.l1 : Nat → Int → Int → Int → Int → Int → Int → Int → Int → Int → Int → Int → Option (Int × Int × Int × Int × Int × Int)
 | 0, _, _, _, _, _, _, _, _, _, _, _ => none
 | k + 1, x7, x8, x9, x260000, x260001, x260002, x260003, x262000, x262001, x262002, x262003 => if x8 < x9 then (gleeref1_WithinOf.l1 k (wrap64 (x7 - 1)) (wrap64 (x8 * 2)) x9 x260000 x260001 x260002 x260003 x262000 x262001 x262002 x262003) else ((gleeref1_Checked.f k (wrap64 (-x7)) x262001 x262002 x262003).bind fun bt265 => (if bt265.2.2.2.2 = 0 then (some (bt265.1, bt265.2.1, bt265.2.2.1, bt265.2.2.2.1, wrap64 (x260000 + x7), 0)) else (some (0, 0, 0, 0, 0, bt265.2.2.2.2))))
end
def gleeref1_WithinOf.f (k : Nat) (a0_0 : Int) (a0_1 : Int) (a0_2 : Int) (a0_3 : Int) : Option (Int × Int × Int × Int × Int × Int) := (gleeref1_QuotientOf.f k 0 a0_1 a0_2 a0_3).bind fun bt262 => (gleeref1_WithinOf.l0 k 0 bt262.1 bt262.2 a0_0 a0_1 a0_2 a0_3 0 a0_1 a0_2 a0_3)
theorem gleeref1_WithinOf.mono_l : ∀ k, (∀ y0 y1 y2 y3 y4 y5 y6 y7 y8 y9 y10, LeO (gleeref1_WithinOf.l0 k y0 y1 y2 y3 y4 y5 y6 y7 y8 y9 y10) (gleeref1_WithinOf.l0 (k + 1) y0 y1 y2 y3 y4 y5 y6 y7 y8 y9 y10)) ∧ (∀ y0 y1 y2 y3 y4 y5 y6 y7 y8 y9 y10, LeO (gleeref1_WithinOf.l1 k y0 y1 y2 y3 y4 y5 y6 y7 y8 y9 y10) (gleeref1_WithinOf.l1 (k + 1) y0 y1 y2 y3 y4 y5 y6 y7 y8 y9 y10))
 | 0 => ⟨fun _ _ _ _ _ _ _ _ _ _ _ r h => by simp [gleeref1_WithinOf.l0] at h, fun _ _ _ _ _ _ _ _ _ _ _ r h => by simp [gleeref1_WithinOf.l1] at h⟩
 | k + 1 => by
  obtain ⟨ih0, ih1⟩ := gleeref1_WithinOf.mono_l k
  refine ⟨?_, ?_⟩
  ·
   intro y0 y1 y2 y3 y4 y5 y6 y7 y8 y9 y10
   unfold gleeref1_WithinOf.l0
   repeat' first
   | (with_reducible exact ih0 _ _ _ _ _ _ _ _ _ _ _)
   | (with_reducible exact ih1 _ _ _ _ _ _ _ _ _ _ _)
   | (with_reducible exact gleeref1_Checked.mono _ _ _ _ _)
   | (with_reducible exact gleeref1_QuotientOf.mono _ _ _ _ _)
   | (with_reducible exact LeO.refl _)
   | (with_reducible exact LeO.none _)
   | (with_reducible refine LeO.ite ?_ ?_)
   | (with_reducible refine LeO.bind ?_ (fun _ => ?_))
   | exact ih0 _ _ _ _ _ _ _ _ _ _ _
   | exact ih1 _ _ _ _ _ _ _ _ _ _ _
   | exact gleeref1_Checked.mono _ _ _ _ _
   | exact gleeref1_QuotientOf.mono _ _ _ _ _
   | exact LeO.none _
   | refine LeO.ite ?_ ?_
   | refine LeO.bind ?_ (fun _ => ?_)
  ·
   intro y0 y1 y2 y3 y4 y5 y6 y7 y8 y9 y10
   unfold gleeref1_WithinOf.l1
   repeat' first
   | (with_reducible exact ih0 _ _ _ _ _ _ _ _ _ _ _)
   | (with_reducible exact ih1 _ _ _ _ _ _ _ _ _ _ _)
   | (with_reducible exact gleeref1_Checked.mono _ _ _ _ _)
   | (with_reducible exact gleeref1_QuotientOf.mono _ _ _ _ _)
   | (with_reducible exact LeO.refl _)
   | (with_reducible exact LeO.none _)
   | (with_reducible refine LeO.ite ?_ ?_)
   | (with_reducible refine LeO.bind ?_ (fun _ => ?_))
   | exact ih0 _ _ _ _ _ _ _ _ _ _ _
   | exact ih1 _ _ _ _ _ _ _ _ _ _ _
   | exact gleeref1_Checked.mono _ _ _ _ _
   | exact gleeref1_QuotientOf.mono _ _ _ _ _
   | exact LeO.none _
   | refine LeO.ite ?_ ?_
   | refine LeO.bind ?_ (fun _ => ?_)
theorem gleeref1_WithinOf.mono : ∀ a0 a1 a2 a3 k, LeO (gleeref1_WithinOf.f k a0 a1 a2 a3) (gleeref1_WithinOf.f (k + 1) a0 a1 a2 a3) := by
 intro a0 a1 a2 a3 k
 obtain ⟨ih0, ih1⟩ := gleeref1_WithinOf.mono_l k
 unfold gleeref1_WithinOf.f
 repeat' first
   | (with_reducible exact ih0 _ _ _ _ _ _ _ _ _ _ _)
   | (with_reducible exact ih1 _ _ _ _ _ _ _ _ _ _ _)
   | (with_reducible exact gleeref1_Checked.mono _ _ _ _ _)
   | (with_reducible exact gleeref1_QuotientOf.mono _ _ _ _ _)
   | (with_reducible exact LeO.refl _)
   | (with_reducible exact LeO.none _)
   | (with_reducible refine LeO.ite ?_ ?_)
   | (with_reducible refine LeO.bind ?_ (fun _ => ?_))
   | exact ih0 _ _ _ _ _ _ _ _ _ _ _
   | exact ih1 _ _ _ _ _ _ _ _ _ _ _
   | exact gleeref1_Checked.mono _ _ _ _ _
   | exact gleeref1_QuotientOf.mono _ _ _ _ _
   | exact LeO.none _
   | refine LeO.ite ?_ ?_
   | refine LeO.bind ?_ (fun _ => ?_)
def gleeref1_WithinOf.T16 : Bool × List (List Nat × List Nat) := (true, [([], []), ([], []), ([1], [1]), ([], []), ([2, 3], [2, 3]), ([0, 0], [0]), ([4, 5, 0, 1, 2, 3, 4, 5], [4]), ([6, 0, 1, 2, 3, 4, 5, 6], [])])
def gleeref1_WithinOf.B16 : List Nat := [0, 0, 2, 0, 14, 1, 63, 127]
theorem gleeref1_WithinOf.tab16 : rtab .any (opsOf Tryd.f21 16) = gleeref1_WithinOf.T16 := by kernel_rfl
theorem gleeref1_WithinOf.bits16 : waitsOk gleeref1_WithinOf.T16.2 gleeref1_WithinOf.B16 = true := by kernel_rfl
set_option maxHeartbeats 8000000 in
set_option maxRecDepth 100000 in
theorem gleeref1_WithinOf.calls (k : Nat) (a0_0 : Int) (a0_1 : Int) (a0_2 : Int) (a0_3 : Int) (r1 : Int) (r2 : Int) (r3 : Int) (r4 : Int) (r5 : Int) (r6 : Int) (w : World) (h : gleeref1_WithinOf.f k a0_0 a0_1 a0_2 a0_3 = some (r1, r2, r3, r4, r5, r6)) :
  Calls Tryd.prog 21 #[.agg #[.int .i64 a0_0, .int .i64 a0_1, .int .i64 a0_2, .int .i64 a0_3]] w fun e w' => e = .returned (.tuple #[.agg #[.int .i64 r1, .int .i64 r2, .int .i64 r3, .int .i64 r4], .int .i64 r5, .int .i64 r6]) ∧ Below w.heap.size w w' := by
 have hu27 := Tryd.underlying27
 have hu30 := Tryd.underlying30
 have HB := Ad.mk (Below.refl w.heap.size w)
 have H : ((gleeref1_QuotientOf.f k 0 a0_1 a0_2 a0_3).bind fun bt262 => (gleeref1_WithinOf.l0 k 0 bt262.1 bt262.2 a0_0 a0_1 a0_2 a0_3 0 a0_1 a0_2 a0_3)) = some (r1, r2, r3, r4, r5, r6) := h
 clear h
 replace H := Option.bind_eq_some_iff.mp H
 obtain ⟨⟨t262, t263⟩, A20, H⟩ := H
 replace H : (gleeref1_WithinOf.l0 k 0 t262 t263 a0_0 a0_1 a0_2 a0_3 0 a0_1 a0_2 a0_3) = some (r1, r2, r3, r4, r5, r6) := H
 have A2 := Ad.mk A20
 clear A20
 have H' := Ad.mk H
 clear H
 go_enter Tryd.func21, Tryd.ntmps21
 try go_wp2_with (first | ((with_reducible refine qgd (N := 1) rfl ?_); refine qbe ?hg (N := 1) ?hd (cs := #[.int .i64 a0_0, .int .i64 a0_1, .int .i64 a0_2, .int .i64 a0_3]) (t := 27) ?hr ?_; (case hd => rfl); (case hg => rfl); (case hr => first | (go_simp; done) | (go_simp; rfl)); intro gb259 hg w3 hbox hb; have BK259 := Ad.mk (hbox); have GW259 := Ad.mk ((by rw [hg]; exact (qbz (by repeat (first | (with_reducible first | exact HB.out | apply qbn | apply qb1) | exact HB.out))) : w.heap.size ≤ gb259)); have GE259 := Ad.mk ((by rw [hg]; exact (qbz (by repeat (first | (with_reducible first | exact HB.out | apply qbn | apply qb1) | exact HB.out))) : w.heap.size ≤ gb259)); replace HB := Ad.mk (qbt (by repeat (first | (with_reducible first | exact HB.out | apply qbn | apply qb1) | exact HB.out)) hb); clear hb hbox hg) | ((with_reducible refine qgd (N := 2) rfl ?_); refine qbe ?hg (N := 2) ?hd (cs := #[.int .i64 0, .int .i64 0, .int .i64 0, .int .i64 0]) (t := 27) ?hr ?_; (case hd => rfl); (case hg => rfl); (case hr => first | (go_simp; done) | (go_simp; rfl)); intro gb260 hg w4 hbox hb; have BK260 := Ad.mk (hbox); have GW260 := Ad.mk ((by rw [hg]; exact (qbz (by repeat (first | (with_reducible first | exact HB.out | apply qbn | apply qb1) | exact HB.out))) : w.heap.size ≤ gb260)); have GE260 := Ad.mk ((by rw [hg]; exact (qbz (by repeat (first | (with_reducible first | exact HB.out | apply qbn | apply qb1) | exact HB.out))) : w.heap.size ≤ gb260)); have NB259_260 := Ad.mk ((by rw [hg]; exact Nat.ne_of_lt (qkl (by exact BK259.out)) : gb259 ≠ gb260)); have NB260_259 := Ad.mk ((by rw [hg]; exact Nat.ne_of_gt (qkl (by exact BK259.out)) : gb260 ≠ gb259)); replace BK259 := Ad.mk (qkb (by exact BK259.out) hb); replace HB := Ad.mk (qbt (by repeat (first | (with_reducible first | exact HB.out | apply qbn | apply qb1) | exact HB.out)) hb); clear hb hbox hg; have hnb5 := NB259_260.out; have hnc5 := NB260_259.out; have hcz6_0 : w4.cell? ⟨gb259, 0, none⟩ = some (.int .i64 a0_0) := (qkc BK259.out 0).trans rfl; have hcz6_1 : w4.cell? ⟨gb259, 1, none⟩ = some (.int .i64 a0_1) := (qkc BK259.out 1).trans rfl; have hcz6_2 : w4.cell? ⟨gb259, 2, none⟩ = some (.int .i64 a0_2) := (qkc BK259.out 2).trans rfl; have hcz6_3 : w4.cell? ⟨gb259, 3, none⟩ = some (.int .i64 a0_3) := (qkc BK259.out 3).trans rfl; have hfz6_0 := qkz BK259.out 0; have hfz6_1 := qkz BK259.out 1; have hfz6_2 := qkz BK259.out 2; have hfz6_3 := qkz BK259.out 3) | ((with_reducible refine qgd (N := 5) rfl ?_); refine qbe ?hg (N := 5) ?hd (cs := #[.int .i64 0, .int .i64 0, .int .i64 0, .int .i64 0]) (t := 27) ?hr ?_; (case hd => rfl); (case hg => rfl); (case hr => first | (go_simp; done) | (go_simp; rfl)); intro gb261 hg w7 hbox hb; have BK261 := Ad.mk (hbox); have GW261 := Ad.mk ((by rw [hg]; exact (qbz (by repeat (first | (with_reducible first | exact HB.out | apply qbn | apply qb1) | exact HB.out))) : w.heap.size ≤ gb261)); have GE261 := Ad.mk ((by rw [hg]; exact (qbz (by repeat (first | (with_reducible first | exact HB.out | apply qbn | apply qb1) | exact HB.out))) : w.heap.size ≤ gb261)); have NB259_261 := Ad.mk ((by rw [hg]; exact Nat.ne_of_lt (qkl (by exact BK259.out)) : gb259 ≠ gb261)); have NB261_259 := Ad.mk ((by rw [hg]; exact Nat.ne_of_gt (qkl (by exact BK259.out)) : gb261 ≠ gb259)); have NB260_261 := Ad.mk ((by rw [hg]; exact Nat.ne_of_lt (qkl (by exact BK260.out)) : gb260 ≠ gb261)); have NB261_260 := Ad.mk ((by rw [hg]; exact Nat.ne_of_gt (qkl (by exact BK260.out)) : gb261 ≠ gb260)); replace BK259 := Ad.mk (qkb (by exact BK259.out) hb); replace BK260 := Ad.mk (qkb (by exact BK260.out) hb); replace HB := Ad.mk (qbt (by repeat (first | (with_reducible first | exact HB.out | apply qbn | apply qb1) | exact HB.out)) hb); clear hb hbox hg; have hnb8 := NB261_259.out; have hnc8 := NB259_261.out; have hnb9 := NB261_260.out; have hnc9 := NB260_261.out; have hcz10_0 : w7.cell? ⟨gb261, 0, none⟩ = some (.int .i64 0) := (qkc BK261.out 0).trans rfl; have hcz10_1 : w7.cell? ⟨gb261, 1, none⟩ = some (.int .i64 0) := (qkc BK261.out 1).trans rfl; have hcz10_2 : w7.cell? ⟨gb261, 2, none⟩ = some (.int .i64 0) := (qkc BK261.out 2).trans rfl; have hcz10_3 : w7.cell? ⟨gb261, 3, none⟩ = some (.int .i64 0) := (qkc BK261.out 3).trans rfl; have hfz10_0 := qkz BK261.out 0; have hfz10_1 := qkz BK261.out 1; have hfz10_2 := qkz BK261.out 2; have hfz10_3 := qkz BK261.out 3) | ((with_reducible refine qgc (f := 22) rfl ?_); refine goesL_ (some 15) rfl rfl Tryd.func22 (by kernel_rfl) rfl #[.agg #[.int .i64 0, .int .i64 a0_1, .int .i64 a0_2, .int .i64 a0_3]] rfl (by (try simp only [List.map_toArray, List.map_cons, List.map_nil]); first | done | rfl) ?_; (with_reducible refine (gleeref1_QuotientOf.calls k 0 a0_1 a0_2 a0_3 t262 t263 _ A2.out).mono ?_); rintro e w11 ⟨rfl, hb⟩; refine ⟨_, rfl, ?_⟩; replace BK259 := Ad.mk (qkb (g := gb259) (o := .cells #[.int .i64 a0_0, .int .i64 a0_1, .int .i64 a0_2, .int .i64 a0_3] 27 (0, 0)) (by (iterate 5 ((with_reducible repeat (first | apply qkn | apply qkd)); refine qkf ?_ NB259_261.out _)); (with_reducible repeat (first | apply qkn | apply qkd)); exact BK259.out) hb); replace BK260 := Ad.mk (qkb (g := gb260) (o := .cells #[.int .i64 0, .int .i64 0, .int .i64 0, .int .i64 0] 27 (0, 0)) (by (iterate 5 ((with_reducible repeat (first | apply qkn | apply qkd)); refine qkf ?_ NB260_261.out _)); (with_reducible repeat (first | apply qkn | apply qkd)); exact BK260.out) hb); replace BK261 := Ad.mk (qkb (g := gb261) (o := .cells #[.int .i64 0, .int .i64 a0_1, .int .i64 a0_2, .int .i64 a0_3] 27 (0, 0)) (by (with_reducible repeat (first | apply qkn | apply qkd)); refine qkp (cs := #[.int .i64 a0_0, .int .i64 a0_1, .int .i64 a0_2, .int .i64 a0_3]) ?_ 0 _ rfl; (with_reducible repeat (first | apply qkn | apply qkd)); refine qkp (cs := #[.int .i64 a0_0, .int .i64 a0_1, .int .i64 a0_2, .int .i64 0]) ?_ 3 _ rfl; (with_reducible repeat (first | apply qkn | apply qkd)); refine qkp (cs := #[.int .i64 a0_0, .int .i64 a0_1, .int .i64 0, .int .i64 0]) ?_ 2 _ rfl; (with_reducible repeat (first | apply qkn | apply qkd)); refine qkp (cs := #[.int .i64 a0_0, .int .i64 0, .int .i64 0, .int .i64 0]) ?_ 1 _ rfl; (with_reducible repeat (first | apply qkn | apply qkd)); refine qkp (cs := #[.int .i64 0, .int .i64 0, .int .i64 0, .int .i64 0]) ?_ 0 _ rfl; (with_reducible repeat (first | apply qkn | apply qkd)); exact BK261.out) hb); replace HB := Ad.mk (qbt (by repeat (first | (with_reducible first | exact HB.out | apply qbn | apply qb1 | refine qbs ?_ GE261.out) | exact HB.out)) hb); (try clear hb)) | ((with_reducible refine qgd (N := 6) rfl ?_); refine qbe ?hg (N := 6) ?hd (cs := #[.int .i64 0, .int .i64 0]) (t := 30) ?hr ?_; (case hd => rfl); (case hg => rfl); (case hr => first | (go_simp; done) | (go_simp; rfl)); intro gb264 hg w12 hbox hb; have BK264 := Ad.mk (hbox); have GW264 := Ad.mk ((by rw [hg]; exact (qbz (by repeat (first | (with_reducible first | exact HB.out | apply qbn | apply qb1) | exact HB.out))) : w.heap.size ≤ gb264)); have GE264 := Ad.mk ((by rw [hg]; exact (qbz (by repeat (first | (with_reducible first | exact HB.out | apply qbn | apply qb1) | exact HB.out))) : w.heap.size ≤ gb264)); have NB259_264 := Ad.mk ((by rw [hg]; exact Nat.ne_of_lt (qkl (by exact BK259.out)) : gb259 ≠ gb264)); have NB264_259 := Ad.mk ((by rw [hg]; exact Nat.ne_of_gt (qkl (by exact BK259.out)) : gb264 ≠ gb259)); have NB260_264 := Ad.mk ((by rw [hg]; exact Nat.ne_of_lt (qkl (by exact BK260.out)) : gb260 ≠ gb264)); have NB264_260 := Ad.mk ((by rw [hg]; exact Nat.ne_of_gt (qkl (by exact BK260.out)) : gb264 ≠ gb260)); have NB261_264 := Ad.mk ((by rw [hg]; exact Nat.ne_of_lt (qkl (by exact BK261.out)) : gb261 ≠ gb264)); have NB264_261 := Ad.mk ((by rw [hg]; exact Nat.ne_of_gt (qkl (by exact BK261.out)) : gb264 ≠ gb261)); replace BK259 := Ad.mk (qkb (by exact BK259.out) hb); replace BK260 := Ad.mk (qkb (by exact BK260.out) hb); replace BK261 := Ad.mk (qkb (by exact BK261.out) hb); replace HB := Ad.mk (qbt (by repeat (first | (with_reducible first | exact HB.out | apply qbn | apply qb1) | exact HB.out)) hb); clear hb hbox hg; have hnb13 := NB264_259.out; have hnc13 := NB259_264.out; have hnb14 := NB264_260.out; have hnc14 := NB260_264.out; have hnb15 := NB264_261.out; have hnc15 := NB261_264.out; have hcz16_0 : w12.cell? ⟨gb264, 0, none⟩ = some (.int .i64 0) := (qkc BK264.out 0).trans rfl; have hcz16_1 : w12.cell? ⟨gb264, 1, none⟩ = some (.int .i64 0) := (qkc BK264.out 1).trans rfl; have hfz16_0 := qkz BK264.out 0; have hfz16_1 := qkz BK264.out 1))
 have n0_ : Ad (((w12.setCell ⟨gb264, 0, none⟩ (.int .i64 t262)).setCell ⟨gb264, 1, none⟩ (.int .i64 t263)).heap[gb259]? = some (.cells #[.int .i64 a0_0, .int .i64 a0_1, .int .i64 a0_2, .int .i64 a0_3] 27 (0, 0))) := ⟨by refine qkf ?_ NB259_264.out _; refine qkf ?_ NB259_264.out _; exact BK259.out⟩
 have n1_ : Ad (((w12.setCell ⟨gb264, 0, none⟩ (.int .i64 t262)).setCell ⟨gb264, 1, none⟩ (.int .i64 t263)).heap[gb260]? = some (.cells #[.int .i64 0, .int .i64 0, .int .i64 0, .int .i64 0] 27 (0, 0))) := ⟨by refine qkf ?_ NB260_264.out _; refine qkf ?_ NB260_264.out _; exact BK260.out⟩
 have n2_ : Ad (((w12.setCell ⟨gb264, 0, none⟩ (.int .i64 t262)).setCell ⟨gb264, 1, none⟩ (.int .i64 t263)).heap[gb261]? = some (.cells #[.int .i64 0, .int .i64 a0_1, .int .i64 a0_2, .int .i64 a0_3] 27 (0, 0))) := ⟨by refine qkf ?_ NB261_264.out _; refine qkf ?_ NB261_264.out _; exact BK261.out⟩
 have n3_ : Ad (((w12.setCell ⟨gb264, 0, none⟩ (.int .i64 t262)).setCell ⟨gb264, 1, none⟩ (.int .i64 t263)).heap[gb264]? = some (.cells #[.int .i64 t262, .int .i64 t263] 30 (0, 0))) := ⟨by refine qkp (cs := #[.int .i64 t262, .int .i64 0]) ?_ 1 _ rfl; refine qkp (cs := #[.int .i64 0, .int .i64 0]) ?_ 0 _ rfl; exact BK264.out⟩
 have n4_ : Ad (Below w.heap.size w ((w12.setCell ⟨gb264, 0, none⟩ (.int .i64 t262)).setCell ⟨gb264, 1, none⟩ (.int .i64 t263))) := ⟨by repeat (first | (with_reducible first | exact HB.out | apply qbn | apply qb1 | refine qbs ?_ GE264.out) | exact HB.out)⟩
 (try clear BK259)
 (try clear BK260)
 (try clear BK261)
 (try clear BK264)
 (try clear HB)
 generalize ((w12.setCell ⟨gb264, 0, none⟩ (.int .i64 t262)).setCell ⟨gb264, 1, none⟩ (.int .i64 t263)) = w17 at n0_ n1_ n2_ n3_ n4_ ⊢
 have BK259 := n0_
 have BK260 := n1_
 have BK261 := n2_
 have BK264 := n3_
 have HB := n4_
 clear n0_ n1_ n2_ n3_ n4_
 replace BK259 := Ad.mk (qkd BK259.out)
 replace BK260 := Ad.mk (qkd BK260.out)
 replace BK261 := Ad.mk (qkd BK261.out)
 replace BK264 := Ad.mk (qkd BK264.out)
 replace HB := Ad.mk (qb1 HB.out)
 refine start_ (n := 6) (S := fun w' => w'.cell? ⟨gb264, 0, none⟩ = some (.int .i64 t262) ∧ w'.cell? ⟨gb264, 1, none⟩ = some (.int .i64 t263)) (ds := []) #[false, false, false, false, false, false] (by kernel_rfl) rfl rfl ⟨(qkc BK264.out 0).trans rfl, (qkc BK264.out 1).trans rfl⟩ (fun hHeld => ?_)
 generalize w17.drew = w18 at BK259 BK260 BK261 BK264 HB hHeld ⊢
 refine pure_ (i := 0) (N := some 16) (v := ?_) (a' := ?_) #[true, false, false, false, false, false] rfl rfl (by kernel_rfl) (fun _ _ _ h => h) (Or.inl ⟨by rfl, ?_⟩) ?_ ?_
 rotate_left
 ·
  intro w'
  go_simp
  with_reducible rfl
 rotate_left
 ·
  simp only [Act.put, List.setIfInBounds_toArray, List.set_cons_zero, List.set_cons_succ, i64_w, i32_w]
  rfl
 refine pure_ (i := 2) (N := some 18) (v := ?_) (a' := ?_) #[true, false, true, false, false, false] rfl rfl (by kernel_rfl) (fun _ _ _ h => h) (Or.inl ⟨by rfl, ?_⟩) ?_ ?_
 rotate_left
 ·
  intro w'
  go_simp
  with_reducible rfl
 rotate_left
 ·
  simp only [Act.put, List.setIfInBounds_toArray, List.set_cons_zero, List.set_cons_succ, i64_w, i32_w]
  rfl
 refine take_ (i := 1) (N := some 17) (v := ?_) (a' := ?_) #[true, true, true, false, false, false] rfl rfl (by kernel_rfl) (fun _ _ _ h => h) (Or.inl ⟨by rfl, ?_⟩) hHeld ?_ ?_
 rotate_left
 ·
  rintro w' ⟨s0, s1⟩
  go_simp
  with_reducible rfl
 rotate_left
 ·
  simp only [Act.put, List.setIfInBounds_toArray, List.set_cons_zero, List.set_cons_succ, i64_w, i32_w]
  rfl
 refine pure_ (i := 4) (N := some 8) (v := ?_) (a' := ?_) #[true, true, true, false, true, false] rfl rfl (by kernel_rfl) (fun _ _ _ h => h) (Or.inl ⟨by rfl, ?_⟩) ?_ ?_
 rotate_left
 ·
  intro w'
  go_simp
  with_reducible rfl
 rotate_left
 ·
  simp only [Act.put, List.setIfInBounds_toArray, List.set_cons_zero, List.set_cons_succ, i64_w, i32_w]
  rfl
 refine take_ (i := 3) (N := some 19) (v := ?_) (a' := ?_) #[true, true, true, true, true, false] rfl rfl (by kernel_rfl) (fun _ _ _ h => h) (Or.inl ⟨by rfl, ?_⟩) hHeld ?_ ?_
 rotate_left
 ·
  rintro w' ⟨s0, s1⟩
  go_simp
  with_reducible rfl
 rotate_left
 ·
  simp only [Act.put, List.setIfInBounds_toArray, List.set_cons_zero, List.set_cons_succ, i64_w, i32_w]
  rfl
 refine pure_ (i := 5) (N := some 9) (v := ?_) (a' := ?_) #[true, true, true, true, true, true] rfl rfl (by kernel_rfl) (fun _ _ _ h => h) (Or.inl ⟨by rfl, ?_⟩) ?_ ?_
 rotate_left
 ·
  intro w'
  go_simp
  with_reducible rfl
 rotate_left
 ·
  simp only [Act.put, List.setIfInBounds_toArray, List.set_cons_zero, List.set_cons_succ, i64_w, i32_w]
  rfl
 refine done_ (by kernel_rfl) ?_
 try go_wp2
 go_loopg [7, 9] k (fun kq v7 v9 w' => ∃ (x7_1 : Int) (x9_1 : Int), v7 = .int .i64 x7_1 ∧ v9 = .int .i64 x9_1 ∧ Ad (gleeref1_WithinOf.l0 kq x7_1 t262 x9_1 a0_0 a0_1 a0_2 a0_3 0 a0_1 a0_2 a0_3 = some (r1, r2, r3, r4, r5, r6)) ∧ Ad (kq ≤ k) ∧ Ad (w'.heap[gb259]? = some (.cells #[.int .i64 a0_0, .int .i64 a0_1, .int .i64 a0_2, .int .i64 a0_3] 27 (0, 0))) ∧ Ad (w'.heap[gb260]? = some (.cells #[.int .i64 0, .int .i64 0, .int .i64 0, .int .i64 0] 27 (0, 0))) ∧ Ad (w'.heap[gb261]? = some (.cells #[.int .i64 0, .int .i64 a0_1, .int .i64 a0_2, .int .i64 a0_3] 27 (0, 0))) ∧ Ad (w'.heap[gb264]? = some (.cells #[.int .i64 t262, .int .i64 t263] 30 (0, 0))) ∧ Ad (Below w.heap.size w w'))
 case atStart => exact ⟨(0), (t263), (by first | rfl | (simp; done) | (simp [*]; done)), (by first | rfl | (simp; done) | (simp [*]; done)), H', ⟨Nat.le_refl _⟩, ⟨by exact BK259.out⟩, ⟨by exact BK260.out⟩, ⟨by exact BK261.out⟩, ⟨by exact BK264.out⟩, ⟨by repeat (first | (with_reducible first | exact HB.out | apply qbn | apply qb1) | exact HB.out)⟩⟩
 case round =>
  clear H'
  try clear c1
  try clear c2
  try clear p2
  try clear c5
  try clear c8
  try clear c9
  try clear c13
  try clear c14
  try clear c15
  try clear hcz10_0
  try clear hcz10_1
  try clear hcz10_2
  try clear hcz10_3
  try clear hcz16_0
  try clear hcz16_1
  try clear hcz6_0
  try clear hcz6_1
  try clear hcz6_2
  try clear hcz6_3
  try clear hfz10_0
  try clear hfz10_1
  try clear hfz10_2
  try clear hfz10_3
  try clear hfz16_0
  try clear hfz16_1
  try clear hfz6_0
  try clear hfz6_1
  try clear hfz6_2
  try clear hfz6_3
  obtain ⟨x7_1, x9_1, rfl, rfl, HA, HK1, BK259, BK260, BK261, BK264, HB⟩ := hrel
  cases gk with
  | zero => exact absurd HA.out (by simp [gleeref1_WithinOf.l0])
  | succ k1 =>
   have H := HA.out
   clear HA
   simp only [gleeref1_WithinOf.l0] at H
   by_cases c19 : t262 ≥ (wrap64 (2 * x9_1))
   ·
    rw [if_pos c19] at H
    have c19b0 : decide ((wrap64 (2 * x9_1)) ≤ t262) = true := decide_eq_true c19
    clear c19
    have H' := Ad.mk H
    clear H
    go_wp2
    go_roundg k1
    case measure => have := HK1.out; omega
    case rel => exact ⟨(wrap64 (x7_1 + 1)), (wrap64 (x9_1 * 2)), (by first | rfl | (simp; done) | (simp [*]; done)), (by first | rfl | (simp; done) | (simp [*]; done)), H', ⟨by have := HK1.out; omega⟩, ⟨by exact BK259.out⟩, ⟨by exact BK260.out⟩, ⟨by exact BK261.out⟩, ⟨by exact BK264.out⟩, ⟨by repeat (first | (with_reducible first | exact HB.out | apply qbn | apply qb1) | exact HB.out)⟩⟩
   ·
    rw [if_neg c19] at H
    have c19b0 : decide ((wrap64 (2 * x9_1)) ≤ t262) = false := decide_eq_false c19
    clear c19
    have H' := Ad.mk H
    clear H
    go_wp2
    go_loopg [7, 8] k1 (fun kq v7 v8 w' => ∃ (x7_2 : Int) (x8_2 : Int), v7 = .int .i64 x7_2 ∧ v8 = .int .i64 x8_2 ∧ Ad (gleeref1_WithinOf.l1 kq x7_2 x8_2 x9_1 a0_0 a0_1 a0_2 a0_3 0 a0_1 a0_2 a0_3 = some (r1, r2, r3, r4, r5, r6)) ∧ Ad (kq ≤ k1) ∧ Ad (w'.heap[gb259]? = some (.cells #[.int .i64 a0_0, .int .i64 a0_1, .int .i64 a0_2, .int .i64 a0_3] 27 (0, 0))) ∧ Ad (w'.heap[gb260]? = some (.cells #[.int .i64 0, .int .i64 0, .int .i64 0, .int .i64 0] 27 (0, 0))) ∧ Ad (w'.heap[gb261]? = some (.cells #[.int .i64 0, .int .i64 a0_1, .int .i64 a0_2, .int .i64 a0_3] 27 (0, 0))) ∧ Ad (w'.heap[gb264]? = some (.cells #[.int .i64 t262, .int .i64 t263] 30 (0, 0))) ∧ Ad (Below w.heap.size w w'))
    case atStart => exact ⟨(x7_1), (t262), (by first | rfl | (simp; done) | (simp [*]; done)), (by first | rfl | (simp; done) | (simp [*]; done)), H', ⟨Nat.le_refl _⟩, ⟨by exact BK259.out⟩, ⟨by exact BK260.out⟩, ⟨by exact BK261.out⟩, ⟨by exact BK264.out⟩, ⟨by repeat (first | (with_reducible first | exact HB.out | apply qbn | apply qb1) | exact HB.out)⟩⟩
    case round =>
     clear H'
     try clear c1
     try clear c2
     try clear p2
     try clear c5
     try clear p6
     try clear c8
     try clear c9
     try clear c13
     try clear c14
     try clear c15
     try clear c19
     try clear c19b0
     try clear hcz10_0
     try clear hcz10_1
     try clear hcz10_2
     try clear hcz10_3
     try clear hcz16_0
     try clear hcz16_1
     try clear hcz6_0
     try clear hcz6_1
     try clear hcz6_2
     try clear hcz6_3
     try clear hfz10_0
     try clear hfz10_1
     try clear hfz10_2
     try clear hfz10_3
     try clear hfz16_0
     try clear hfz16_1
     try clear hfz6_0
     try clear hfz6_1
     try clear hfz6_2
     try clear hfz6_3
     try clear p2
     obtain ⟨x7_2, x8_2, rfl, rfl, HA, HK2, BK259, BK260, BK261, BK264, HB⟩ := hrel
     cases gk with
     | zero => exact absurd HA.out (by simp [gleeref1_WithinOf.l1])
     | succ k2 =>
      have H := HA.out
      clear HA
      simp only [gleeref1_WithinOf.l1] at H
      by_cases c20 : x8_2 < x9_1
      ·
       rw [if_pos c20] at H
       have c20b0 : decide (x8_2 < x9_1) = true := decide_eq_true c20
       clear c20
       have H' := Ad.mk H
       clear H
       go_wp2
       go_roundg k2
       case measure => have := HK1.out; have := HK2.out; omega
       case rel => exact ⟨(wrap64 (x7_2 - 1)), (wrap64 (x8_2 * 2)), (by first | rfl | (simp; done) | (simp [*]; done)), (by first | rfl | (simp; done) | (simp [*]; done)), H', ⟨by have := HK1.out; have := HK2.out; omega⟩, ⟨by exact BK259.out⟩, ⟨by exact BK260.out⟩, ⟨by exact BK261.out⟩, ⟨by exact BK264.out⟩, ⟨by repeat (first | (with_reducible first | exact HB.out | apply qbn | apply qb1) | exact HB.out)⟩⟩
      ·
       rw [if_neg c20] at H
       have c20b0 : decide (x8_2 < x9_1) = false := decide_eq_false c20
       clear c20
       replace H := Option.bind_eq_some_iff.mp H
       obtain ⟨⟨t265, t266, t267, t268, t269⟩, A210, H⟩ := H
       replace H : (if t269 = 0 then (some (t265, t266, t267, t268, wrap64 (a0_0 + x7_2), 0)) else (some (0, 0, 0, 0, 0, t269))) = some (r1, r2, r3, r4, r5, r6) := H
       have A21 := Ad.mk A210
       clear A210
       by_cases c22 : t269 = 0
       ·
        rw [if_pos c22] at H
        have c22b0 : (t269 == 0) = true := beq_iff_eq.mpr c22
        have c22b1 : (t269 != 0) = false := bne_eq_false_iff_eq.mpr c22
        clear c22
        simp only [Option.some.injEq, Prod.mk.injEq] at H
        obtain ⟨rfl, rfl, rfl, rfl, rfl, rfl⟩ := H
        have hnb23 := NB261_259.out
        have hnc23 := NB259_261.out
        have hnb24 := NB261_260.out
        have hnc24 := NB260_261.out
        have hnb25 := NB261_264.out
        have hnc25 := NB264_261.out
        have hcz26_0 : wr.cell? ⟨gb261, 0, none⟩ = some (.int .i64 0) := (qkc BK261.out 0).trans rfl
        have hcz26_1 : wr.cell? ⟨gb261, 1, none⟩ = some (.int .i64 a0_1) := (qkc BK261.out 1).trans rfl
        have hcz26_2 : wr.cell? ⟨gb261, 2, none⟩ = some (.int .i64 a0_2) := (qkc BK261.out 2).trans rfl
        have hcz26_3 : wr.cell? ⟨gb261, 3, none⟩ = some (.int .i64 a0_3) := (qkc BK261.out 3).trans rfl
        have hfz26_0 := qkz BK261.out 0
        have hfz26_1 := qkz BK261.out 1
        have hfz26_2 := qkz BK261.out 2
        have hfz26_3 := qkz BK261.out 3
        try go_wp2_with (first | ((with_reducible refine qgc (f := 80) rfl ?_); refine goesL_ (some 40) rfl rfl Tryd.func80 (by kernel_rfl) rfl #[.agg #[.int .i64 (wrap64 (-x7_2)), .int .i64 a0_1, .int .i64 a0_2, .int .i64 a0_3]] rfl (by (try simp only [List.map_toArray, List.map_cons, List.map_nil]); first | done | rfl) ?_; (with_reducible refine (gleeref1_Checked.calls k2 (wrap64 (-x7_2)) a0_1 a0_2 a0_3 t265 t266 t267 t268 t269 _ A21.out).mono ?_); rintro e w27 ⟨rfl, hb⟩; refine ⟨_, rfl, ?_⟩; replace BK259 := Ad.mk (qkb (g := gb259) (o := .cells #[.int .i64 a0_0, .int .i64 a0_1, .int .i64 a0_2, .int .i64 a0_3] 27 (0, 0)) (by (with_reducible repeat (first | apply qkn | apply qkd)); refine qkf ?_ NB259_261.out _; (with_reducible repeat (first | apply qkn | apply qkd)); exact BK259.out) hb); replace BK260 := Ad.mk (qkb (g := gb260) (o := .cells #[.int .i64 0, .int .i64 0, .int .i64 0, .int .i64 0] 27 (0, 0)) (by (with_reducible repeat (first | apply qkn | apply qkd)); refine qkf ?_ NB260_261.out _; (with_reducible repeat (first | apply qkn | apply qkd)); exact BK260.out) hb); replace BK261 := Ad.mk (qkb (g := gb261) (o := .cells #[.int .i64 (wrap64 (-x7_2)), .int .i64 a0_1, .int .i64 a0_2, .int .i64 a0_3] 27 (0, 0)) (by (with_reducible repeat (first | apply qkn | apply qkd)); refine qkp (cs := #[.int .i64 0, .int .i64 a0_1, .int .i64 a0_2, .int .i64 a0_3]) ?_ 0 _ rfl; (with_reducible repeat (first | apply qkn | apply qkd)); exact BK261.out) hb); replace BK264 := Ad.mk (qkb (g := gb264) (o := .cells #[.int .i64 t262, .int .i64 t263] 30 (0, 0)) (by (with_reducible repeat (first | apply qkn | apply qkd)); refine qkf ?_ NB264_261.out _; (with_reducible repeat (first | apply qkn | apply qkd)); exact BK264.out) hb); replace HB := Ad.mk (qbt (by repeat (first | (with_reducible first | exact HB.out | apply qbn | apply qb1 | refine qbs ?_ GE261.out) | exact HB.out)) hb); (try clear hb)) | ((with_reducible refine qgd (N := 10) rfl ?_); refine qbe ?hg (N := 10) ?hd (cs := #[.int .i64 0, .int .i64 0, .int .i64 0, .int .i64 0]) (t := 27) ?hr ?_; (case hd => rfl); (case hg => rfl); (case hr => first | (go_simp; done) | (go_simp; rfl)); intro gb270 hg w28 hbox hb; have BK270 := Ad.mk (hbox); have GW270 := Ad.mk ((by rw [hg]; exact (qbz (by repeat (first | (with_reducible first | exact HB.out | apply qbn | apply qb1) | exact HB.out))) : w.heap.size ≤ gb270)); have GE270 := Ad.mk ((by rw [hg]; exact (qbz (by repeat (first | (with_reducible first | exact HB.out | apply qbn | apply qb1) | exact HB.out))) : w.heap.size ≤ gb270)); have NB259_270 := Ad.mk ((by rw [hg]; exact Nat.ne_of_lt (qkl (by exact BK259.out)) : gb259 ≠ gb270)); have NB270_259 := Ad.mk ((by rw [hg]; exact Nat.ne_of_gt (qkl (by exact BK259.out)) : gb270 ≠ gb259)); have NB260_270 := Ad.mk ((by rw [hg]; exact Nat.ne_of_lt (qkl (by exact BK260.out)) : gb260 ≠ gb270)); have NB270_260 := Ad.mk ((by rw [hg]; exact Nat.ne_of_gt (qkl (by exact BK260.out)) : gb270 ≠ gb260)); have NB261_270 := Ad.mk ((by rw [hg]; exact Nat.ne_of_lt (qkl (g := gb261) (o := .cells #[.int .i64 (wrap64 (-x7_2)), .int .i64 a0_1, .int .i64 a0_2, .int .i64 a0_3] 27 (0, 0)) (by exact BK261.out)) : gb261 ≠ gb270)); have NB270_261 := Ad.mk ((by rw [hg]; exact Nat.ne_of_gt (qkl (g := gb261) (o := .cells #[.int .i64 (wrap64 (-x7_2)), .int .i64 a0_1, .int .i64 a0_2, .int .i64 a0_3] 27 (0, 0)) (by exact BK261.out)) : gb270 ≠ gb261)); have NB264_270 := Ad.mk ((by rw [hg]; exact Nat.ne_of_lt (qkl (by exact BK264.out)) : gb264 ≠ gb270)); have NB270_264 := Ad.mk ((by rw [hg]; exact Nat.ne_of_gt (qkl (by exact BK264.out)) : gb270 ≠ gb264)); replace BK259 := Ad.mk (qkb (by exact BK259.out) hb); replace BK260 := Ad.mk (qkb (by exact BK260.out) hb); replace BK261 := Ad.mk (qkb (g := gb261) (o := .cells #[.int .i64 (wrap64 (-x7_2)), .int .i64 a0_1, .int .i64 a0_2, .int .i64 a0_3] 27 (0, 0)) (by exact BK261.out) hb); replace BK264 := Ad.mk (qkb (by exact BK264.out) hb); replace HB := Ad.mk (qbt (by repeat (first | (with_reducible first | exact HB.out | apply qbn | apply qb1) | exact HB.out)) hb); clear hb hbox hg; have hnb29 := NB270_259.out; have hnc29 := NB259_270.out; have hnb30 := NB270_260.out; have hnc30 := NB260_270.out; have hnb31 := NB270_261.out; have hnc31 := NB261_270.out; have hnb32 := NB270_264.out; have hnc32 := NB264_270.out; have hcz33_0 : w28.cell? ⟨gb270, 0, none⟩ = some (.int .i64 0) := (qkc BK270.out 0).trans rfl; have hcz33_1 : w28.cell? ⟨gb270, 1, none⟩ = some (.int .i64 0) := (qkc BK270.out 1).trans rfl; have hcz33_2 : w28.cell? ⟨gb270, 2, none⟩ = some (.int .i64 0) := (qkc BK270.out 2).trans rfl; have hcz33_3 : w28.cell? ⟨gb270, 3, none⟩ = some (.int .i64 0) := (qkc BK270.out 3).trans rfl; have hfz33_0 := qkz BK270.out 0; have hfz33_1 := qkz BK270.out 1; have hfz33_2 := qkz BK270.out 2; have hfz33_3 := qkz BK270.out 3))
        have n0_ : Ad (((((w28.setCell ⟨gb270, 0, none⟩ (.int .i64 t265)).setCell ⟨gb270, 1, none⟩ (.int .i64 t266)).setCell ⟨gb270, 2, none⟩ (.int .i64 t267)).setCell ⟨gb270, 3, none⟩ (.int .i64 t268)).heap[gb259]? = some (.cells #[.int .i64 a0_0, .int .i64 a0_1, .int .i64 a0_2, .int .i64 a0_3] 27 (0, 0))) := ⟨by refine qkf ?_ NB259_270.out _; refine qkf ?_ NB259_270.out _; refine qkf ?_ NB259_270.out _; refine qkf ?_ NB259_270.out _; exact BK259.out⟩
        have n1_ : Ad (((((w28.setCell ⟨gb270, 0, none⟩ (.int .i64 t265)).setCell ⟨gb270, 1, none⟩ (.int .i64 t266)).setCell ⟨gb270, 2, none⟩ (.int .i64 t267)).setCell ⟨gb270, 3, none⟩ (.int .i64 t268)).heap[gb260]? = some (.cells #[.int .i64 0, .int .i64 0, .int .i64 0, .int .i64 0] 27 (0, 0))) := ⟨by refine qkf ?_ NB260_270.out _; refine qkf ?_ NB260_270.out _; refine qkf ?_ NB260_270.out _; refine qkf ?_ NB260_270.out _; exact BK260.out⟩
        have n2_ : Ad (((((w28.setCell ⟨gb270, 0, none⟩ (.int .i64 t265)).setCell ⟨gb270, 1, none⟩ (.int .i64 t266)).setCell ⟨gb270, 2, none⟩ (.int .i64 t267)).setCell ⟨gb270, 3, none⟩ (.int .i64 t268)).heap[gb261]? = some (.cells #[.int .i64 (wrap64 (-x7_2)), .int .i64 a0_1, .int .i64 a0_2, .int .i64 a0_3] 27 (0, 0))) := ⟨by refine qkf ?_ NB261_270.out _; refine qkf ?_ NB261_270.out _; refine qkf ?_ NB261_270.out _; refine qkf ?_ NB261_270.out _; exact BK261.out⟩
        have n3_ : Ad (((((w28.setCell ⟨gb270, 0, none⟩ (.int .i64 t265)).setCell ⟨gb270, 1, none⟩ (.int .i64 t266)).setCell ⟨gb270, 2, none⟩ (.int .i64 t267)).setCell ⟨gb270, 3, none⟩ (.int .i64 t268)).heap[gb264]? = some (.cells #[.int .i64 t262, .int .i64 t263] 30 (0, 0))) := ⟨by refine qkf ?_ NB264_270.out _; refine qkf ?_ NB264_270.out _; refine qkf ?_ NB264_270.out _; refine qkf ?_ NB264_270.out _; exact BK264.out⟩
        have n4_ : Ad (((((w28.setCell ⟨gb270, 0, none⟩ (.int .i64 t265)).setCell ⟨gb270, 1, none⟩ (.int .i64 t266)).setCell ⟨gb270, 2, none⟩ (.int .i64 t267)).setCell ⟨gb270, 3, none⟩ (.int .i64 t268)).heap[gb270]? = some (.cells #[.int .i64 t265, .int .i64 t266, .int .i64 t267, .int .i64 t268] 27 (0, 0))) := ⟨by refine qkp (cs := #[.int .i64 t265, .int .i64 t266, .int .i64 t267, .int .i64 0]) ?_ 3 _ rfl; refine qkp (cs := #[.int .i64 t265, .int .i64 t266, .int .i64 0, .int .i64 0]) ?_ 2 _ rfl; refine qkp (cs := #[.int .i64 t265, .int .i64 0, .int .i64 0, .int .i64 0]) ?_ 1 _ rfl; refine qkp (cs := #[.int .i64 0, .int .i64 0, .int .i64 0, .int .i64 0]) ?_ 0 _ rfl; exact BK270.out⟩
        have n5_ : Ad (Below w.heap.size w ((((w28.setCell ⟨gb270, 0, none⟩ (.int .i64 t265)).setCell ⟨gb270, 1, none⟩ (.int .i64 t266)).setCell ⟨gb270, 2, none⟩ (.int .i64 t267)).setCell ⟨gb270, 3, none⟩ (.int .i64 t268))) := ⟨by repeat (first | (with_reducible first | exact HB.out | apply qbn | apply qb1 | refine qbs ?_ GE270.out) | exact HB.out)⟩
        (try clear BK259)
        (try clear BK260)
        (try clear BK261)
        (try clear BK264)
        (try clear BK270)
        (try clear HB)
        generalize ((((w28.setCell ⟨gb270, 0, none⟩ (.int .i64 t265)).setCell ⟨gb270, 1, none⟩ (.int .i64 t266)).setCell ⟨gb270, 2, none⟩ (.int .i64 t267)).setCell ⟨gb270, 3, none⟩ (.int .i64 t268)) = w34 at n0_ n1_ n2_ n3_ n4_ n5_ ⊢
        have BK259 := n0_
        have BK260 := n1_
        have BK261 := n2_
        have BK264 := n3_
        have BK270 := n4_
        have HB := n5_
        clear n0_ n1_ n2_ n3_ n4_ n5_
        replace BK259 := Ad.mk (qkd BK259.out)
        replace BK260 := Ad.mk (qkd BK260.out)
        replace BK261 := Ad.mk (qkd BK261.out)
        replace BK264 := Ad.mk (qkd BK264.out)
        replace BK270 := Ad.mk (qkd BK270.out)
        replace HB := Ad.mk (qb1 HB.out)
        refine start_ (n := 8) (S := fun w' => w'.cell? ⟨gb270, 0, none⟩ = some (.int .i64 t265) ∧ w'.cell? ⟨gb270, 1, none⟩ = some (.int .i64 t266) ∧ w'.cell? ⟨gb270, 2, none⟩ = some (.int .i64 t267) ∧ w'.cell? ⟨gb270, 3, none⟩ = some (.int .i64 t268) ∧ w'.cell? ⟨gb259, 0, none⟩ = some (.int .i64 a0_0) ∧ w'.cell? ⟨gb259, 1, none⟩ = some (.int .i64 a0_1) ∧ w'.cell? ⟨gb259, 2, none⟩ = some (.int .i64 a0_2) ∧ w'.cell? ⟨gb259, 3, none⟩ = some (.int .i64 a0_3)) (ds := []) #[false, false, false, false, false, false, false, false] (by kernel_rfl) rfl rfl ⟨(qkc BK270.out 0).trans rfl, (qkc BK270.out 1).trans rfl, (qkc BK270.out 2).trans rfl, (qkc BK270.out 3).trans rfl, (qkc BK259.out 0).trans rfl, (qkc BK259.out 1).trans rfl, (qkc BK259.out 2).trans rfl, (qkc BK259.out 3).trans rfl⟩ (fun hHeld => ?_); refine with_tabW gleeref1_WithinOf.tab16 gleeref1_WithinOf.bits16 (fun HT_ HW_ => ?_)
        generalize w34.drew = w35 at BK259 BK260 BK261 BK264 BK270 HB hHeld ⊢
        refine pure_ (i := 1) (N := some 48) (v := ?_) (a' := ?_) #[false, true, false, false, false, false, false, false] rfl rfl (any_of HT_.out (by kernel_rfl)) (fun _ _ _ h => h) (Or.inl ⟨by rfl, ?_⟩) ?_ ?_
        rotate_left
        ·
         intro w'
         go_simp
         with_reducible rfl
        rotate_left
        ·
         simp only [Act.put, List.setIfInBounds_toArray, List.set_cons_zero, List.set_cons_succ, i64_w, i32_w]
         rfl
        refine pure_ (i := 3) (N := some 50) (v := ?_) (a' := ?_) #[false, true, false, true, false, false, false, false] rfl rfl (any_of HT_.out (by kernel_rfl)) (fun _ _ _ h => h) (Or.inl ⟨by rfl, ?_⟩) ?_ ?_
        rotate_left
        ·
         intro w'
         go_simp
         with_reducible rfl
        rotate_left
        ·
         simp only [Act.put, List.setIfInBounds_toArray, List.set_cons_zero, List.set_cons_succ, i64_w, i32_w]
         rfl
        refine take_ (i := 0) (N := some 47) (v := ?_) (a' := ?_) #[true, true, false, true, false, false, false, false] rfl rfl (take_ofW HT_.out HW_.out (by kernel_rfl)) (fun _ _ _ h => h) (Or.inl ⟨by rfl, ?_⟩) hHeld ?_ ?_
        rotate_left
        ·
         rintro w' ⟨s0, s1, s2, s3, s4, s5, s6, s7⟩
         go_simp
         with_reducible rfl
        rotate_left
        ·
         simp only [Act.put, List.setIfInBounds_toArray, List.set_cons_zero, List.set_cons_succ, i64_w, i32_w]
         rfl
        refine take_ (i := 2) (N := some 49) (v := ?_) (a' := ?_) #[true, true, true, true, false, false, false, false] rfl rfl (take_ofW HT_.out HW_.out (by kernel_rfl)) (fun _ _ _ h => h) (Or.inl ⟨by rfl, ?_⟩) hHeld ?_ ?_
        rotate_left
        ·
         rintro w' ⟨s0, s1, s2, s3, s4, s5, s6, s7⟩
         go_simp
         with_reducible rfl
        rotate_left
        ·
         simp only [Act.put, List.setIfInBounds_toArray, List.set_cons_zero, List.set_cons_succ, i64_w, i32_w]
         rfl
        refine pure_ (i := 4) (N := some 51) (v := ?_) (a' := ?_) #[true, true, true, true, true, false, false, false] rfl rfl (any_of HT_.out (by kernel_rfl)) (fun _ _ _ h => h) (Or.inl ⟨by rfl, ?_⟩) ?_ ?_
        rotate_left
        ·
         intro w'
         go_simp
         with_reducible rfl
        rotate_left
        ·
         simp only [Act.put, List.setIfInBounds_toArray, List.set_cons_zero, List.set_cons_succ, i64_w, i32_w]
         rfl
        refine one_ (i := 5) (N := none) #[true, true, true, true, true, true, false, false] rfl rfl (one_of HT_.out (by kernel_rfl)) (by decide) (fun K hK => ?_)
        have hs36 : w35.cell? ⟨gb260, 0, none⟩ = some (.int .i64 0) := (qkc BK260.out 0).trans rfl
        have hfs36 := qkz BK260.out 0
        have hns36_0 := NB259_260.out
        have hns36_2 := NB261_260.out
        have hns36_3 := NB264_260.out
        have hns36_4 := NB270_260.out
        have hms36_0 := NB260_259.out
        have hms36_2 := NB260_261.out
        have hms36_3 := NB260_264.out
        have hms36_4 := NB260_270.out
        have hs37 : w35.cell? ⟨gb260, 1, none⟩ = some (.int .i64 0) := (qkc BK260.out 1).trans rfl
        have hfs37 := qkz BK260.out 1
        have hns37_0 := NB259_260.out
        have hns37_2 := NB261_260.out
        have hns37_3 := NB264_260.out
        have hns37_4 := NB270_260.out
        have hms37_0 := NB260_259.out
        have hms37_2 := NB260_261.out
        have hms37_3 := NB260_264.out
        have hms37_4 := NB260_270.out
        have hs38 : w35.cell? ⟨gb260, 2, none⟩ = some (.int .i64 0) := (qkc BK260.out 2).trans rfl
        have hfs38 := qkz BK260.out 2
        have hns38_0 := NB259_260.out
        have hns38_2 := NB261_260.out
        have hns38_3 := NB264_260.out
        have hns38_4 := NB270_260.out
        have hms38_0 := NB260_259.out
        have hms38_2 := NB260_261.out
        have hms38_3 := NB260_264.out
        have hms38_4 := NB260_270.out
        have hs39 : w35.cell? ⟨gb260, 3, none⟩ = some (.int .i64 0) := (qkc BK260.out 3).trans rfl
        have hfs39 := qkz BK260.out 3
        have hns39_0 := NB259_260.out
        have hns39_2 := NB261_260.out
        have hns39_3 := NB264_260.out
        have hns39_4 := NB270_260.out
        have hms39_0 := NB260_259.out
        have hms39_2 := NB260_261.out
        have hms39_3 := NB260_264.out
        have hms39_4 := NB260_270.out
        refine skip_ (w1 := ?_) (by rfl) rfl ?_ ?_
        rotate_left
        ·
         go_simp
         rfl
        refine hK.out _ _ ⟨((cell_far (p := ⟨gb260, _, none⟩) NB270_260.out _).trans (((cell_far (p := ⟨gb260, _, none⟩) NB270_260.out _).trans (((cell_far (p := ⟨gb260, _, none⟩) NB270_260.out _).trans (((cell_far (p := ⟨gb260, _, none⟩) NB270_260.out _).trans (hHeld.1)))))))), ((cell_far (p := ⟨gb260, _, none⟩) NB270_260.out _).trans (((cell_far (p := ⟨gb260, _, none⟩) NB270_260.out _).trans (((cell_far (p := ⟨gb260, _, none⟩) NB270_260.out _).trans (((cell_far (p := ⟨gb260, _, none⟩) NB270_260.out _).trans (hHeld.2.1)))))))), ((cell_far (p := ⟨gb260, _, none⟩) NB270_260.out _).trans (((cell_far (p := ⟨gb260, _, none⟩) NB270_260.out _).trans (((cell_far (p := ⟨gb260, _, none⟩) NB270_260.out _).trans (((cell_far (p := ⟨gb260, _, none⟩) NB270_260.out _).trans (hHeld.2.2.1)))))))), ((cell_far (p := ⟨gb260, _, none⟩) NB270_260.out _).trans (((cell_far (p := ⟨gb260, _, none⟩) NB270_260.out _).trans (((cell_far (p := ⟨gb260, _, none⟩) NB270_260.out _).trans (((cell_far (p := ⟨gb260, _, none⟩) NB270_260.out _).trans (hHeld.2.2.2.1)))))))), ((cell_far (p := ⟨gb260, _, none⟩) NB259_260.out _).trans (((cell_far (p := ⟨gb260, _, none⟩) NB259_260.out _).trans (((cell_far (p := ⟨gb260, _, none⟩) NB259_260.out _).trans (((cell_far (p := ⟨gb260, _, none⟩) NB259_260.out _).trans (hHeld.2.2.2.2.1)))))))), ((cell_far (p := ⟨gb260, _, none⟩) NB259_260.out _).trans (((cell_far (p := ⟨gb260, _, none⟩) NB259_260.out _).trans (((cell_far (p := ⟨gb260, _, none⟩) NB259_260.out _).trans (((cell_far (p := ⟨gb260, _, none⟩) NB259_260.out _).trans (hHeld.2.2.2.2.2.1)))))))), ((cell_far (p := ⟨gb260, _, none⟩) NB259_260.out _).trans (((cell_far (p := ⟨gb260, _, none⟩) NB259_260.out _).trans (((cell_far (p := ⟨gb260, _, none⟩) NB259_260.out _).trans (((cell_far (p := ⟨gb260, _, none⟩) NB259_260.out _).trans (hHeld.2.2.2.2.2.2.1)))))))), ((cell_far (p := ⟨gb260, _, none⟩) NB259_260.out _).trans (((cell_far (p := ⟨gb260, _, none⟩) NB259_260.out _).trans (((cell_far (p := ⟨gb260, _, none⟩) NB259_260.out _).trans (((cell_far (p := ⟨gb260, _, none⟩) NB259_260.out _).trans (hHeld.2.2.2.2.2.2.2))))))))⟩ (fun hHeld => ?_)
        clear hK K
        refine pure_ (i := 6) (N := some 3) (v := ?_) (a' := ?_) #[true, true, true, true, true, true, true, false] rfl rfl (any_of HT_.out (by kernel_rfl)) (fun _ _ _ h => h) (Or.inl ⟨by rfl, ?_⟩) ?_ ?_
        rotate_left
        ·
         intro w'
         go_simp
         with_reducible rfl
        rotate_left
        ·
         simp only [Act.put, List.setIfInBounds_toArray, List.set_cons_zero, List.set_cons_succ, i64_w, i32_w]
         rfl
        refine pure_ (i := 7) (N := some 4) (v := ?_) (a' := ?_) #[true, true, true, true, true, true, true, true] rfl rfl (any_of HT_.out (by kernel_rfl)) (fun _ _ _ h => h) (Or.inl ⟨by rfl, ?_⟩) ?_ ?_
        rotate_left
        ·
         intro w'
         go_simp
         with_reducible rfl
        rotate_left
        ·
         simp only [Act.put, List.setIfInBounds_toArray, List.set_cons_zero, List.set_cons_succ, i64_w, i32_w]
         rfl
        refine done_ (done_of HT_.out (by kernel_rfl)) ?_
        try go_wp2
        refine bodyPost_ret (results_ctt rfl _ _ gb260 27 #[.int .i64 t265, .int .i64 t266, .int .i64 t267, .int .i64 t268] (0, 0) _ rfl (by (with_reducible repeat (first | apply qkn | apply qkd)); refine qkp (cs := #[.int .i64 t265, .int .i64 t266, .int .i64 t267, .int .i64 0]) ?_ 3 _ rfl; (with_reducible repeat (first | apply qkn | apply qkd)); refine qkp (cs := #[.int .i64 t265, .int .i64 t266, .int .i64 0, .int .i64 0]) ?_ 2 _ rfl; (with_reducible repeat (first | apply qkn | apply qkd)); refine qkp (cs := #[.int .i64 t265, .int .i64 0, .int .i64 0, .int .i64 0]) ?_ 1 _ rfl; (with_reducible repeat (first | apply qkn | apply qkd)); refine qkp (cs := #[.int .i64 0, .int .i64 0, .int .i64 0, .int .i64 0]) ?_ 0 _ rfl; (with_reducible repeat (first | apply qkn | apply qkd)); exact BK260.out) Tryd.underlying27 rfl (by kernel_rfl)) rfl ?_
        exact ⟨by first | rfl | (simp [errW_none, errW_some] <;> rfl) | (simp [*, errW_none, errW_some] <;> rfl), by repeat (first | (with_reducible first | exact HB.out | apply qbn | apply qb1 | refine qbs ?_ GE260.out) | exact HB.out)⟩
       ·
        rw [if_neg c22] at H
        have c22b0 : (t269 == 0) = false := beq_eq_false_iff_ne.mpr c22
        have c22b1 : (t269 != 0) = true := bne_iff_ne.mpr c22
        simp only [Option.some.injEq, Prod.mk.injEq] at H
        obtain ⟨rfl, rfl, rfl, rfl, rfl, rfl⟩ := H
        have hnb40 := NB261_259.out
        have hnc40 := NB259_261.out
        have hnb41 := NB261_260.out
        have hnc41 := NB260_261.out
        have hnb42 := NB261_264.out
        have hnc42 := NB264_261.out
        have hcz43_0 : wr.cell? ⟨gb261, 0, none⟩ = some (.int .i64 0) := (qkc BK261.out 0).trans rfl
        have hcz43_1 : wr.cell? ⟨gb261, 1, none⟩ = some (.int .i64 a0_1) := (qkc BK261.out 1).trans rfl
        have hcz43_2 : wr.cell? ⟨gb261, 2, none⟩ = some (.int .i64 a0_2) := (qkc BK261.out 2).trans rfl
        have hcz43_3 : wr.cell? ⟨gb261, 3, none⟩ = some (.int .i64 a0_3) := (qkc BK261.out 3).trans rfl
        have hfz43_0 := qkz BK261.out 0
        have hfz43_1 := qkz BK261.out 1
        have hfz43_2 := qkz BK261.out 2
        have hfz43_3 := qkz BK261.out 3
        go_wp2_with (first | ((with_reducible refine qgc (f := 80) rfl ?_); refine goesL_ (some 40) rfl rfl Tryd.func80 (by kernel_rfl) rfl #[.agg #[.int .i64 (wrap64 (-x7_2)), .int .i64 a0_1, .int .i64 a0_2, .int .i64 a0_3]] rfl (by (try simp only [List.map_toArray, List.map_cons, List.map_nil]); first | done | rfl) ?_; (with_reducible refine (gleeref1_Checked.calls k2 (wrap64 (-x7_2)) a0_1 a0_2 a0_3 t265 t266 t267 t268 t269 _ A21.out).mono ?_); rintro e w44 ⟨rfl, hb⟩; refine ⟨_, rfl, ?_⟩; replace BK259 := Ad.mk (qkb (g := gb259) (o := .cells #[.int .i64 a0_0, .int .i64 a0_1, .int .i64 a0_2, .int .i64 a0_3] 27 (0, 0)) (by (with_reducible repeat (first | apply qkn | apply qkd)); refine qkf ?_ NB259_261.out _; (with_reducible repeat (first | apply qkn | apply qkd)); exact BK259.out) hb); replace BK260 := Ad.mk (qkb (g := gb260) (o := .cells #[.int .i64 0, .int .i64 0, .int .i64 0, .int .i64 0] 27 (0, 0)) (by (with_reducible repeat (first | apply qkn | apply qkd)); refine qkf ?_ NB260_261.out _; (with_reducible repeat (first | apply qkn | apply qkd)); exact BK260.out) hb); replace BK261 := Ad.mk (qkb (g := gb261) (o := .cells #[.int .i64 (wrap64 (-x7_2)), .int .i64 a0_1, .int .i64 a0_2, .int .i64 a0_3] 27 (0, 0)) (by (with_reducible repeat (first | apply qkn | apply qkd)); refine qkp (cs := #[.int .i64 0, .int .i64 a0_1, .int .i64 a0_2, .int .i64 a0_3]) ?_ 0 _ rfl; (with_reducible repeat (first | apply qkn | apply qkd)); exact BK261.out) hb); replace BK264 := Ad.mk (qkb (g := gb264) (o := .cells #[.int .i64 t262, .int .i64 t263] 30 (0, 0)) (by (with_reducible repeat (first | apply qkn | apply qkd)); refine qkf ?_ NB264_261.out _; (with_reducible repeat (first | apply qkn | apply qkd)); exact BK264.out) hb); replace HB := Ad.mk (qbt (by repeat (first | (with_reducible first | exact HB.out | apply qbn | apply qb1 | refine qbs ?_ GE261.out) | exact HB.out)) hb); (try clear hb)) | ((with_reducible refine qgd (N := 10) rfl ?_); refine qbe ?hg (N := 10) ?hd (cs := #[.int .i64 0, .int .i64 0, .int .i64 0, .int .i64 0]) (t := 27) ?hr ?_; (case hd => rfl); (case hg => rfl); (case hr => first | (go_simp; done) | (go_simp; rfl)); intro gb270 hg w45 hbox hb; have BK270 := Ad.mk (hbox); have GW270 := Ad.mk ((by rw [hg]; exact (qbz (by repeat (first | (with_reducible first | exact HB.out | apply qbn | apply qb1) | exact HB.out))) : w.heap.size ≤ gb270)); have GE270 := Ad.mk ((by rw [hg]; exact (qbz (by repeat (first | (with_reducible first | exact HB.out | apply qbn | apply qb1) | exact HB.out))) : w.heap.size ≤ gb270)); have NB259_270 := Ad.mk ((by rw [hg]; exact Nat.ne_of_lt (qkl (by exact BK259.out)) : gb259 ≠ gb270)); have NB270_259 := Ad.mk ((by rw [hg]; exact Nat.ne_of_gt (qkl (by exact BK259.out)) : gb270 ≠ gb259)); have NB260_270 := Ad.mk ((by rw [hg]; exact Nat.ne_of_lt (qkl (by exact BK260.out)) : gb260 ≠ gb270)); have NB270_260 := Ad.mk ((by rw [hg]; exact Nat.ne_of_gt (qkl (by exact BK260.out)) : gb270 ≠ gb260)); have NB261_270 := Ad.mk ((by rw [hg]; exact Nat.ne_of_lt (qkl (g := gb261) (o := .cells #[.int .i64 (wrap64 (-x7_2)), .int .i64 a0_1, .int .i64 a0_2, .int .i64 a0_3] 27 (0, 0)) (by exact BK261.out)) : gb261 ≠ gb270)); have NB270_261 := Ad.mk ((by rw [hg]; exact Nat.ne_of_gt (qkl (g := gb261) (o := .cells #[.int .i64 (wrap64 (-x7_2)), .int .i64 a0_1, .int .i64 a0_2, .int .i64 a0_3] 27 (0, 0)) (by exact BK261.out)) : gb270 ≠ gb261)); have NB264_270 := Ad.mk ((by rw [hg]; exact Nat.ne_of_lt (qkl (by exact BK264.out)) : gb264 ≠ gb270)); have NB270_264 := Ad.mk ((by rw [hg]; exact Nat.ne_of_gt (qkl (by exact BK264.out)) : gb270 ≠ gb264)); replace BK259 := Ad.mk (qkb (by exact BK259.out) hb); replace BK260 := Ad.mk (qkb (by exact BK260.out) hb); replace BK261 := Ad.mk (qkb (g := gb261) (o := .cells #[.int .i64 (wrap64 (-x7_2)), .int .i64 a0_1, .int .i64 a0_2, .int .i64 a0_3] 27 (0, 0)) (by exact BK261.out) hb); replace BK264 := Ad.mk (qkb (by exact BK264.out) hb); replace HB := Ad.mk (qbt (by repeat (first | (with_reducible first | exact HB.out | apply qbn | apply qb1) | exact HB.out)) hb); clear hb hbox hg; have hnb46 := NB270_259.out; have hnc46 := NB259_270.out; have hnb47 := NB270_260.out; have hnc47 := NB260_270.out; have hnb48 := NB270_261.out; have hnc48 := NB261_270.out; have hnb49 := NB270_264.out; have hnc49 := NB264_270.out; have hcz50_0 : w45.cell? ⟨gb270, 0, none⟩ = some (.int .i64 0) := (qkc BK270.out 0).trans rfl; have hcz50_1 : w45.cell? ⟨gb270, 1, none⟩ = some (.int .i64 0) := (qkc BK270.out 1).trans rfl; have hcz50_2 : w45.cell? ⟨gb270, 2, none⟩ = some (.int .i64 0) := (qkc BK270.out 2).trans rfl; have hcz50_3 : w45.cell? ⟨gb270, 3, none⟩ = some (.int .i64 0) := (qkc BK270.out 3).trans rfl; have hfz50_0 := qkz BK270.out 0; have hfz50_1 := qkz BK270.out 1; have hfz50_2 := qkz BK270.out 2; have hfz50_3 := qkz BK270.out 3; have hnb51 := NB260_259.out; have hnc51 := NB259_260.out; have hnb52 := NB260_264.out; have hnc52 := NB264_260.out; have hcz53_0 : w45.cell? ⟨gb260, 0, none⟩ = some (.int .i64 0) := (qkc BK260.out 0).trans rfl; have hcz53_1 : w45.cell? ⟨gb260, 1, none⟩ = some (.int .i64 0) := (qkc BK260.out 1).trans rfl; have hcz53_2 : w45.cell? ⟨gb260, 2, none⟩ = some (.int .i64 0) := (qkc BK260.out 2).trans rfl; have hcz53_3 : w45.cell? ⟨gb260, 3, none⟩ = some (.int .i64 0) := (qkc BK260.out 3).trans rfl; have hfz53_0 := qkz BK260.out 0; have hfz53_1 := qkz BK260.out 1; have hfz53_2 := qkz BK260.out 2; have hfz53_3 := qkz BK260.out 3))
        refine bodyPost_ret (results_ctt rfl _ _ gb260 27 #[.int .i64 0, .int .i64 0, .int .i64 0, .int .i64 0] (0, 0) _ rfl (by (with_reducible repeat (first | apply qkn | apply qkd)); refine qkp (cs := #[.int .i64 0, .int .i64 0, .int .i64 0, .int .i64 0]) ?_ 3 _ rfl; (with_reducible repeat (first | apply qkn | apply qkd)); refine qkp (cs := #[.int .i64 0, .int .i64 0, .int .i64 0, .int .i64 0]) ?_ 2 _ rfl; (with_reducible repeat (first | apply qkn | apply qkd)); refine qkp (cs := #[.int .i64 0, .int .i64 0, .int .i64 0, .int .i64 0]) ?_ 1 _ rfl; (with_reducible repeat (first | apply qkn | apply qkd)); refine qkp (cs := #[.int .i64 0, .int .i64 0, .int .i64 0, .int .i64 0]) ?_ 0 _ rfl; (iterate 4 ((with_reducible repeat (first | apply qkn | apply qkd)); refine qkf ?_ NB260_270.out _)); (with_reducible repeat (first | apply qkn | apply qkd)); exact BK260.out) Tryd.underlying27 rfl (by kernel_rfl)) rfl ?_
        exact ⟨by first | rfl | (simp [errW_none, errW_some] <;> rfl) | (simp [*, errW_none, errW_some] <;> rfl), by repeat (first | (with_reducible first | exact HB.out | apply qbn | apply qb1 | refine qbs ?_ GE260.out | refine qbs ?_ GE270.out) | exact HB.out)⟩

end Go.Proofs.YtdagocpgefjmdaaDoor.PIntervalsCounted
