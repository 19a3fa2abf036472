import Derived.Test.YtdagocpgefjmdaaDoorGInx0
import Derived.Test.YtdagocpgefjmdaaDoorGInx4
import Derived.Test.YtdagocpgefjmdaaDoorGInx10
import Derived.Test.YtdagocpgefjmdaaDoorGInx11
import Derived.Test.YtdagocpgefjmdaaDoorGInx12
namespace Go.Proofs.YtdagocpgefjmdaaDoor.PIntervalsCounted
open Go.RowKit Go.Proofs.YtdagocpgefjmdaaDoorW.PrintWords Go.Proofs.YtdagocpgefjmdaaDoorW.PrintLast Go.Proofs.YtdagocpgefjmdaaDoorW.PrintMore
attribute [local go_sem] max2_int min2_int max_two min_two max_three min_three max_four min_four   -- for this text's walks alone
set_option linter.unusedVariables false
set_option linter.unusedSimpArgs false

/-! ### gleeref1_SumOf: function 27 -/
def gleeref1_SumOf.f (k : Nat) (a0_0 : Int) (a0_1 : Int) (a0_2 : Int) (a0_3 : Int) (a1_0 : Int) (a1_1 : Int) (a1_2 : Int) (a1_3 : Int) (a2 : Int) : Option (Int × Int × Int × Int × Int) := (gleeref1_plus.f a0_0 a0_1 a0_2 a0_3 a1_0 a1_1 a1_2 a1_3 a2).bind fun bt345 => ((gleeref1_Checked.f k bt345.1 bt345.2.1 bt345.2.2.1 bt345.2.2.2).bind fun bt349 => (some (bt349.1, bt349.2.1, bt349.2.2.1, bt349.2.2.2.1, bt349.2.2.2.2)))
theorem gleeref1_SumOf.mono : ∀ a0 a1 a2 a3 a4 a5 a6 a7 a8 k, LeO (gleeref1_SumOf.f k a0 a1 a2 a3 a4 a5 a6 a7 a8) (gleeref1_SumOf.f (k + 1) a0 a1 a2 a3 a4 a5 a6 a7 a8) := by
 intro a0 a1 a2 a3 a4 a5 a6 a7 a8 k
 unfold gleeref1_SumOf.f
 repeat' first
   | (with_reducible exact gleeref1_Checked.mono _ _ _ _ _)
   | (with_reducible exact LeO.refl _)
   | (with_reducible exact LeO.none _)
   | (with_reducible refine LeO.ite ?_ ?_)
   | (with_reducible refine LeO.bind ?_ (fun _ => ?_))
   | exact gleeref1_Checked.mono _ _ _ _ _
   | exact LeO.none _
   | refine LeO.ite ?_ ?_
   | refine LeO.bind ?_ (fun _ => ?_)
set_option maxHeartbeats 8000000 in
set_option maxRecDepth 100000 in
theorem gleeref1_SumOf.calls (k : Nat) (a0_0 : Int) (a0_1 : Int) (a0_2 : Int) (a0_3 : Int) (a1_0 : Int) (a1_1 : Int) (a1_2 : Int) (a1_3 : Int) (a2 : Int) (r1 : Int) (r2 : Int) (r3 : Int) (r4 : Int) (r5 : Int) (w : World) (h : gleeref1_SumOf.f k a0_0 a0_1 a0_2 a0_3 a1_0 a1_1 a1_2 a1_3 a2 = some (r1, r2, r3, r4, r5)) :
  Calls Tryd.prog 27 #[.agg #[.int .i64 a0_0, .int .i64 a0_1, .int .i64 a0_2, .int .i64 a0_3], .agg #[.int .i64 a1_0, .int .i64 a1_1, .int .i64 a1_2, .int .i64 a1_3], .int .i64 a2] w fun e w' => e = .returned (.tuple #[.agg #[.int .i64 r1, .int .i64 r2, .int .i64 r3, .int .i64 r4], .int .i64 r5]) ∧ Below w.heap.size w w' := by
 have hu27 := Tryd.underlying27
 have HB := Ad.mk (Below.refl w.heap.size w)
 have H : ((gleeref1_plus.f a0_0 a0_1 a0_2 a0_3 a1_0 a1_1 a1_2 a1_3 a2).bind fun bt345 => ((gleeref1_Checked.f k bt345.1 bt345.2.1 bt345.2.2.1 bt345.2.2.2).bind fun bt349 => (some (bt349.1, bt349.2.1, bt349.2.2.1, bt349.2.2.2.1, bt349.2.2.2.2)))) = some (r1, r2, r3, r4, r5) := h
 clear h
 replace H := Option.bind_eq_some_iff.mp H
 obtain ⟨⟨t345, t346, t347, t348⟩, A40, H⟩ := H
 replace H : ((gleeref1_Checked.f k t345 t346 t347 t348).bind fun bt349 => (some (bt349.1, bt349.2.1, bt349.2.2.1, bt349.2.2.2.1, bt349.2.2.2.2))) = some (r1, r2, r3, r4, r5) := H
 have A4 := Ad.mk A40
 clear A40
 replace H := Option.bind_eq_some_iff.mp H
 obtain ⟨⟨t349, t350, t351, t352, t353⟩, A50, H⟩ := H
 replace H : (some (t349, t350, t351, t352, t353)) = some (r1, r2, r3, r4, r5) := H
 have A5 := Ad.mk A50
 clear A50
 simp only [Option.some.injEq, Prod.mk.injEq] at H
 obtain ⟨rfl, rfl, rfl, rfl, rfl⟩ := H
 go_enter Tryd.func27, Tryd.ntmps27
 go_wp2_with (first | ((with_reducible refine qgd (N := 3) rfl ?_); refine qbe ?hg (N := 3) ?hd (cs := #[.int .i64 a0_0, .int .i64 a0_1, .int .i64 a0_2, .int .i64 a0_3]) (t := 27) ?hr ?_; (case hd => rfl); (case hg => rfl); (case hr => first | (go_simp; done) | (go_simp; rfl)); intro gb342 hg w6 hbox hb; have BK342 := Ad.mk (hbox); have GW342 := Ad.mk ((by rw [hg]; exact (qbz (by repeat (first | (with_reducible first | exact HB.out | apply qba | apply qbn | apply qb1) | exact HB.out))) : w.heap.size ≤ gb342)); have GE342 := Ad.mk ((by rw [hg]; exact (qbz (by repeat (first | (with_reducible first | exact HB.out | apply qba | apply qbn | apply qb1) | exact HB.out))) : w.heap.size ≤ gb342)); replace HB := Ad.mk (qbt (by repeat (first | (with_reducible first | exact HB.out | apply qba | apply qbn | apply qb1) | exact HB.out)) hb); clear hb hbox hg) | ((with_reducible refine qgd (N := 4) rfl ?_); refine qbe ?hg (N := 4) ?hd (cs := #[.int .i64 a1_0, .int .i64 a1_1, .int .i64 a1_2, .int .i64 a1_3]) (t := 27) ?hr ?_; (case hd => rfl); (case hg => rfl); (case hr => first | (go_simp; done) | (go_simp; rfl)); intro gb343 hg w7 hbox hb; have BK343 := Ad.mk (hbox); have GW343 := Ad.mk ((by rw [hg]; exact (qbz (by repeat (first | (with_reducible first | exact HB.out | apply qba | apply qbn | apply qb1 | refine qbs ?_ GE342.out) | exact HB.out))) : w.heap.size ≤ gb343)); have GE343 := Ad.mk ((by rw [hg]; exact (qbz (by repeat (first | (with_reducible first | exact HB.out | apply qba | apply qbn | apply qb1 | refine qbs ?_ GE342.out) | exact HB.out))) : w.heap.size ≤ gb343)); have NB342_343 := Ad.mk ((by rw [hg]; exact Nat.ne_of_lt (qkl (g := gb342) (o := .cells #[.int .i64 a0_0, .int .i64 a0_1, .int .i64 a0_2, .int .i64 a0_3] 27 (0, 0)) (by (with_reducible repeat (first | apply qkn | apply qkd | apply qka)); exact BK342.out)) : gb342 ≠ gb343)); have NB343_342 := Ad.mk ((by rw [hg]; exact Nat.ne_of_gt (qkl (g := gb342) (o := .cells #[.int .i64 a0_0, .int .i64 a0_1, .int .i64 a0_2, .int .i64 a0_3] 27 (0, 0)) (by (with_reducible repeat (first | apply qkn | apply qkd | apply qka)); exact BK342.out)) : gb343 ≠ gb342)); replace BK342 := Ad.mk (qkb (g := gb342) (o := .cells #[.int .i64 a0_0, .int .i64 a0_1, .int .i64 a0_2, .int .i64 a0_3] 27 (0, 0)) (by (with_reducible repeat (first | apply qkn | apply qkd | apply qka)); exact BK342.out) hb); replace HB := Ad.mk (qbt (by repeat (first | (with_reducible first | exact HB.out | apply qba | apply qbn | apply qb1 | refine qbs ?_ GE342.out) | exact HB.out)) hb); clear hb hbox hg) | ((with_reducible refine qgd (N := 6) rfl ?_); refine qbe ?hg (N := 6) ?hd (cs := #[.int .i64 0, .int .i64 0, .int .i64 0, .int .i64 0]) (t := 27) ?hr ?_; (case hd => rfl); (case hg => rfl); (case hr => first | (go_simp; done) | (go_simp; rfl)); intro gb344 hg w8 hbox hb; have BK344 := Ad.mk (hbox); have GW344 := Ad.mk ((by rw [hg]; exact (qbz (by repeat (first | (with_reducible first | exact HB.out | apply qba | apply qbn | apply qb1 | refine qbs ?_ GE342.out | refine qbs ?_ GE343.out) | exact HB.out))) : w.heap.size ≤ gb344)); have GE344 := Ad.mk ((by rw [hg]; exact (qbz (by repeat (first | (with_reducible first | exact HB.out | apply qba | apply qbn | apply qb1 | refine qbs ?_ GE342.out | refine qbs ?_ GE343.out) | exact HB.out))) : w.heap.size ≤ gb344)); have NB342_344 := Ad.mk ((by rw [hg]; exact Nat.ne_of_lt (qkl (g := gb342) (o := .cells #[.int .i64 a0_0, .int .i64 a0_1, .int .i64 a0_2, .int .i64 a0_3] 27 (0, 0)) (by (with_reducible repeat (first | apply qkn | apply qkd | apply qka)); exact BK342.out)) : gb342 ≠ gb344)); have NB344_342 := Ad.mk ((by rw [hg]; exact Nat.ne_of_gt (qkl (g := gb342) (o := .cells #[.int .i64 a0_0, .int .i64 a0_1, .int .i64 a0_2, .int .i64 a0_3] 27 (0, 0)) (by (with_reducible repeat (first | apply qkn | apply qkd | apply qka)); exact BK342.out)) : gb344 ≠ gb342)); have NB343_344 := Ad.mk ((by rw [hg]; exact Nat.ne_of_lt (qkl (g := gb343) (o := .cells #[.int .i64 a1_0, .int .i64 a1_1, .int .i64 a1_2, .int .i64 a1_3] 27 (0, 0)) (by (with_reducible repeat (first | apply qkn | apply qkd | apply qka)); exact BK343.out)) : gb343 ≠ gb344)); have NB344_343 := Ad.mk ((by rw [hg]; exact Nat.ne_of_gt (qkl (g := gb343) (o := .cells #[.int .i64 a1_0, .int .i64 a1_1, .int .i64 a1_2, .int .i64 a1_3] 27 (0, 0)) (by (with_reducible repeat (first | apply qkn | apply qkd | apply qka)); exact BK343.out)) : gb344 ≠ gb343)); replace BK342 := Ad.mk (qkb (g := gb342) (o := .cells #[.int .i64 a0_0, .int .i64 a0_1, .int .i64 a0_2, .int .i64 a0_3] 27 (0, 0)) (by (with_reducible repeat (first | apply qkn | apply qkd | apply qka)); exact BK342.out) hb); replace BK343 := Ad.mk (qkb (g := gb343) (o := .cells #[.int .i64 a1_0, .int .i64 a1_1, .int .i64 a1_2, .int .i64 a1_3] 27 (0, 0)) (by (with_reducible repeat (first | apply qkn | apply qkd | apply qka)); exact BK343.out) hb); replace HB := Ad.mk (qbt (by repeat (first | (with_reducible first | exact HB.out | apply qba | apply qbn | apply qb1 | refine qbs ?_ GE342.out | refine qbs ?_ GE343.out) | exact HB.out)) hb); clear hb hbox hg; have hnb9 := NB342_343.out; have hnc9 := NB343_342.out; have hnb10 := NB342_344.out; have hnc10 := NB344_342.out; have hcz11_0 : w8.cell? ⟨gb342, 0, none⟩ = some (.int .i64 a0_0) := (qkc BK342.out 0).trans rfl; have hcz11_1 : w8.cell? ⟨gb342, 1, none⟩ = some (.int .i64 a0_1) := (qkc BK342.out 1).trans rfl; have hcz11_2 : w8.cell? ⟨gb342, 2, none⟩ = some (.int .i64 a0_2) := (qkc BK342.out 2).trans rfl; have hcz11_3 : w8.cell? ⟨gb342, 3, none⟩ = some (.int .i64 a0_3) := (qkc BK342.out 3).trans rfl; have hfz11_0 := qkz BK342.out 0; have hfz11_1 := qkz BK342.out 1; have hfz11_2 := qkz BK342.out 2; have hfz11_3 := qkz BK342.out 3; have hnb12 := NB343_344.out; have hnc12 := NB344_343.out; have hcz13_0 : w8.cell? ⟨gb343, 0, none⟩ = some (.int .i64 a1_0) := (qkc BK343.out 0).trans rfl; have hcz13_1 : w8.cell? ⟨gb343, 1, none⟩ = some (.int .i64 a1_1) := (qkc BK343.out 1).trans rfl; have hcz13_2 : w8.cell? ⟨gb343, 2, none⟩ = some (.int .i64 a1_2) := (qkc BK343.out 2).trans rfl; have hcz13_3 : w8.cell? ⟨gb343, 3, none⟩ = some (.int .i64 a1_3) := (qkc BK343.out 3).trans rfl; have hfz13_0 := qkz BK343.out 0; have hfz13_1 := qkz BK343.out 1; have hfz13_2 := qkz BK343.out 2; have hfz13_3 := qkz BK343.out 3) | ((with_reducible refine qgc (f := 87) rfl ?_); refine goesL_ (some 11) rfl rfl Tryd.func87 (by kernel_rfl) rfl #[.agg #[.int .i64 a0_0, .int .i64 a0_1, .int .i64 a0_2, .int .i64 a0_3], .agg #[.int .i64 a1_0, .int .i64 a1_1, .int .i64 a1_2, .int .i64 a1_3], .int .i64 a2] rfl (by (try simp only [List.map_toArray, List.map_cons, List.map_nil]); first | done | rfl) ?_; (with_reducible refine (gleeref1_plus.calls a0_0 a0_1 a0_2 a0_3 a1_0 a1_1 a1_2 a1_3 a2 t345 t346 t347 t348 _ A4.out).mono ?_); rintro e w14 ⟨rfl, hb⟩; refine ⟨_, rfl, ?_⟩; replace BK342 := Ad.mk (qkb (g := gb342) (o := .cells #[.int .i64 a0_0, .int .i64 a0_1, .int .i64 a0_2, .int .i64 a0_3] 27 (0, 0)) (by (with_reducible repeat (first | apply qkn | apply qkd | apply qka)); exact BK342.out) hb); replace BK343 := Ad.mk (qkb (g := gb343) (o := .cells #[.int .i64 a1_0, .int .i64 a1_1, .int .i64 a1_2, .int .i64 a1_3] 27 (0, 0)) (by (with_reducible repeat (first | apply qkn | apply qkd | apply qka)); exact BK343.out) hb); replace BK344 := Ad.mk (qkb (g := gb344) (o := .cells #[.int .i64 0, .int .i64 0, .int .i64 0, .int .i64 0] 27 (0, 0)) (by (with_reducible repeat (first | apply qkn | apply qkd | apply qka)); exact BK344.out) hb); replace HB := Ad.mk (qbt (by repeat (first | (with_reducible first | exact HB.out | apply qba | apply qbn | apply qb1 | refine qbs ?_ GE342.out | refine qbs ?_ GE343.out | refine qbs ?_ GE344.out) | exact HB.out)) hb); (try clear hb)) | ((with_reducible refine qgc (f := 80) rfl ?_); refine goesL_ (some 12) rfl rfl Tryd.func80 (by kernel_rfl) rfl #[.agg #[.int .i64 t345, .int .i64 t346, .int .i64 t347, .int .i64 t348]] rfl (by (try simp only [List.map_toArray, List.map_cons, List.map_nil]); first | done | rfl) ?_; (with_reducible refine (gleeref1_Checked.calls k t345 t346 t347 t348 t349 t350 t351 t352 t353 _ A5.out).mono ?_); rintro e w15 ⟨rfl, hb⟩; refine ⟨_, rfl, ?_⟩; replace BK342 := Ad.mk (qkb (g := gb342) (o := .cells #[.int .i64 a0_0, .int .i64 a0_1, .int .i64 a0_2, .int .i64 a0_3] 27 (0, 0)) (by (with_reducible repeat (first | apply qkn | apply qkd | apply qka)); exact BK342.out) hb); replace BK343 := Ad.mk (qkb (g := gb343) (o := .cells #[.int .i64 a1_0, .int .i64 a1_1, .int .i64 a1_2, .int .i64 a1_3] 27 (0, 0)) (by (with_reducible repeat (first | apply qkn | apply qkd | apply qka)); exact BK343.out) hb); replace BK344 := Ad.mk (qkb (g := gb344) (o := .cells #[.int .i64 0, .int .i64 0, .int .i64 0, .int .i64 0] 27 (0, 0)) (by (with_reducible repeat (first | apply qkn | apply qkd | apply qka)); exact BK344.out) hb); replace HB := Ad.mk (qbt (by repeat (first | (with_reducible first | exact HB.out | apply qba | apply qbn | apply qb1 | refine qbs ?_ GE342.out | refine qbs ?_ GE343.out | refine qbs ?_ GE344.out) | exact HB.out)) hb); (try clear hb); have hcz16_0 : w15.cell? ⟨gb344, 0, none⟩ = some (.int .i64 0) := (qkc BK344.out 0).trans rfl; have hcz16_1 : w15.cell? ⟨gb344, 1, none⟩ = some (.int .i64 0) := (qkc BK344.out 1).trans rfl; have hcz16_2 : w15.cell? ⟨gb344, 2, none⟩ = some (.int .i64 0) := (qkc BK344.out 2).trans rfl; have hcz16_3 : w15.cell? ⟨gb344, 3, none⟩ = some (.int .i64 0) := (qkc BK344.out 3).trans rfl; have hfz16_0 := qkz BK344.out 0; have hfz16_1 := qkz BK344.out 1; have hfz16_2 := qkz BK344.out 2; have hfz16_3 := qkz BK344.out 3))
 refine bodyPost_ret (results_ct rfl _ _ gb344 27 #[.int .i64 t349, .int .i64 t350, .int .i64 t351, .int .i64 t352] (0, 0) _ rfl (by (with_reducible repeat (first | apply qkn | apply qkd | apply qka)); refine qkp (cs := #[.int .i64 t349, .int .i64 t350, .int .i64 t351, .int .i64 0]) ?_ 3 _ rfl; (with_reducible repeat (first | apply qkn | apply qkd | apply qka)); refine qkp (cs := #[.int .i64 t349, .int .i64 t350, .int .i64 0, .int .i64 0]) ?_ 2 _ rfl; (with_reducible repeat (first | apply qkn | apply qkd | apply qka)); refine qkp (cs := #[.int .i64 t349, .int .i64 0, .int .i64 0, .int .i64 0]) ?_ 1 _ rfl; (with_reducible repeat (first | apply qkn | apply qkd | apply qka)); refine qkp (cs := #[.int .i64 0, .int .i64 0, .int .i64 0, .int .i64 0]) ?_ 0 _ rfl; (with_reducible repeat (first | apply qkn | apply qkd | apply qka)); exact BK344.out) Tryd.underlying27 rfl (by kernel_rfl)) rfl ?_
 exact ⟨by first | rfl | (simp [errW_none, errW_some] <;> rfl) | (simp [*, errW_none, errW_some] <;> rfl), by repeat (first | (with_reducible first | exact HB.out | apply qba | apply qbn | apply qb1 | refine qbs ?_ GE342.out | refine qbs ?_ GE343.out | refine qbs ?_ GE344.out) | exact HB.out)⟩

/-! ### cmp_Or_int: function 91 -/
def cmp_Or_int.l0 : Nat → Int → List Int → Int → Int → Option (Int)
 | 0, _, _, _, _ => none
 | k + 1, x3, x6, x7, x8 => if x8 < x7 then (if 0 ≤ x8 then (if x8 < (x6.length : Int) then (if (rd x6 x8) = x3 then (cmp_Or_int.l0 k x3 x6 x7 (wrap64 (x8 + 1))) else (some (rd x6 x8))) else (none)) else (none)) else (some x3)
def cmp_Or_int.f (k : Nat) (l0 : List Int) : Option (Int) := cmp_Or_int.l0 k 0 l0 (l0.length : Int) 0
theorem cmp_Or_int.mono_l : ∀ k, (∀ y0 y1 y2 y3, LeO (cmp_Or_int.l0 k y0 y1 y2 y3) (cmp_Or_int.l0 (k + 1) y0 y1 y2 y3))
 | 0 => fun _ _ _ _ r h => by simp [cmp_Or_int.l0] at h
 | k + 1 => by
  have ih0 := cmp_Or_int.mono_l k
  ·
   intro y0 y1 y2 y3
   unfold cmp_Or_int.l0
   repeat' first
   | (with_reducible exact ih0 _ _ _ _)
   | (with_reducible exact LeO.refl _)
   | (with_reducible exact LeO.none _)
   | (with_reducible refine LeO.ite ?_ ?_)
   | (with_reducible refine LeO.bind ?_ (fun _ => ?_))
   | exact ih0 _ _ _ _
   | exact LeO.none _
   | refine LeO.ite ?_ ?_
   | refine LeO.bind ?_ (fun _ => ?_)
theorem cmp_Or_int.mono : ∀ a0 k, LeO (cmp_Or_int.f k a0) (cmp_Or_int.f (k + 1) a0) := by
 intro a0 k
 have ih0 := cmp_Or_int.mono_l k
 unfold cmp_Or_int.f
 repeat' first
   | (with_reducible exact ih0 _ _ _ _)
   | (with_reducible exact LeO.refl _)
   | (with_reducible exact LeO.none _)
   | (with_reducible refine LeO.ite ?_ ?_)
   | (with_reducible refine LeO.bind ?_ (fun _ => ?_))
   | exact ih0 _ _ _ _
   | exact LeO.none _
   | refine LeO.ite ?_ ?_
   | refine LeO.bind ?_ (fun _ => ?_)
set_option maxHeartbeats 8000000 in
set_option maxRecDepth 100000 in
theorem cmp_Or_int.calls (k : Nat) (A0 : Option Addr) (c0 : Nat) (l0 : List Int) (r : Int) (w : World) (hr0 : Kd.C (Kd.int .i64) w A0 l0.length l0) (hc0 : l0.length ≤ c0) (h : cmp_Or_int.f k l0 = some r) :
  Calls Tryd.prog 91 #[.slice A0 l0.length c0] w fun e w' => e = .returned (.int .i64 r) ∧ Drawn0 w w' := by
 have HR0 := Ad.mk hr0
 have HC0 := Ad.mk hc0
 clear hr0 hc0
 have H : (cmp_Or_int.l0 k 0 l0 (l0.length : Int) 0) = some r := h
 clear h
 have H' := Ad.mk H
 clear H
 go_enter Tryd.func91, Tryd.ntmps91
 go_wp2
 go_loopg [8] k (fun kq v8 w' => ∃ (x8_1 : Int), v8 = .int .i64 x8_1 ∧ Ad (cmp_Or_int.l0 kq 0 l0 (l0.length : Int) x8_1 = some r) ∧ Ad (kq ≤ k) ∧ Drawn0 w w')
 case atStart => exact ⟨(0), (by first | rfl | (simp; done) | (simp [*]; done)), H', ⟨Nat.le_refl _⟩, by repeat (first | exact Drawn0.refl _ | apply Drawn0.step)⟩
 case round =>
  clear H'
  obtain ⟨x8_1, rfl, HA, HK1, ⟨m1, rfl⟩⟩ := hrel
  cases gk with
  | zero => exact absurd HA.out (by simp [cmp_Or_int.l0])
  | succ k1 =>
   have H := HA.out
   clear HA
   simp only [cmp_Or_int.l0] at H
   by_cases c2 : x8_1 < (l0.length : Int)
   ·
    rw [if_pos c2] at H
    have c2b0 : decide (x8_1 < (l0.length : Int)) = true := decide_eq_true c2
    clear c2
    by_cases c3 : 0 ≤ x8_1
    ·
     rw [if_pos c3] at H
     have c3b0 : decide (0 ≤ x8_1) = true := decide_eq_true c3
     clear c3
     by_cases c4 : x8_1 < (l0.length : Int)
     ·
      rw [if_pos c4] at H
      have c4b0 : decide (x8_1 < (l0.length : Int)) = true := decide_eq_true c4
      clear c4
      by_cases c5 : (rd l0 x8_1) = 0
      ·
       rw [if_pos c5] at H
       have c5b0 : ((rd l0 x8_1) == 0) = true := beq_iff_eq.mpr c5
       have c5b1 : ((rd l0 x8_1) != 0) = false := bne_eq_false_iff_eq.mpr c5
       clear c5
       have H' := Ad.mk H
       clear H
       have p354 : 0 ≤ (x8_1 : Int) := of_decide_eq_true (by first | (with_reducible assumption) | assumption)
       have q354 : x8_1 < (l0.length : Int) := of_decide_eq_true (by first | (with_reducible assumption) | assumption)
       obtain ⟨ad354, e354, hx354_0⟩ := Kd.at_int HR0.out x8_1 p354 q354
       cases e354
       replace p354 := eq_true p354
       replace q354 := eq_true q354
       go_wp2
       go_roundg k1
       case measure => have := HK1.out; omega
       case rel => exact ⟨(wrap64 (x8_1 + 1)), (by first | rfl | (simp; done) | (simp [*]; done)), H', ⟨by have := HK1.out; omega⟩, by repeat (first | exact Drawn0.refl _ | apply Drawn0.step)⟩
      ·
       rw [if_neg c5] at H
       have c5b0 : ((rd l0 x8_1) == 0) = false := beq_eq_false_iff_ne.mpr c5
       have c5b1 : ((rd l0 x8_1) != 0) = true := bne_iff_ne.mpr c5
       obtain rfl := Option.some.inj H
       have p354 : 0 ≤ (x8_1 : Int) := of_decide_eq_true (by first | (with_reducible assumption) | assumption)
       have q354 : x8_1 < (l0.length : Int) := of_decide_eq_true (by first | (with_reducible assumption) | assumption)
       obtain ⟨ad354, e354, hx354_0⟩ := Kd.at_int HR0.out x8_1 p354 q354
       cases e354
       replace p354 := eq_true p354
       replace q354 := eq_true q354
       go_wp2
       go_ret
       exact ⟨by first | rfl | (simp; done) | (simp [*]; done), by repeat (first | exact Drawn0.refl _ | apply Drawn0.step)⟩
     ·
      rw [if_neg c4] at H
      exact absurd H (by simp)
    ·
     rw [if_neg c3] at H
     exact absurd H (by simp)
   ·
    rw [if_neg c2] at H
    have c2b0 : decide (x8_1 < (l0.length : Int)) = false := decide_eq_false c2
    clear c2
    obtain rfl := Option.some.inj H
    go_wp2
    go_ret
    exact ⟨by first | rfl | (simp; done) | (simp [*]; done), by repeat (first | exact Drawn0.refl _ | apply Drawn0.step)⟩

/-! ### cmp_isNaN_uint64: function 171 -/
def cmp_isNaN_uint64.f (a0 : Int) : Option (Bool) := some (a0 != a0)
set_option maxHeartbeats 8000000 in
set_option maxRecDepth 100000 in
theorem cmp_isNaN_uint64.calls (a0 : Int) (r : Bool) (w : World) (h : cmp_isNaN_uint64.f a0 = some r) :
  Calls Tryd.prog 171 #[.int .u64 a0] w fun e w' => e = .returned (.bool r) ∧ Drawn0 w w' := by
 have H : (some (a0 != a0)) = some r := h
 clear h
 obtain rfl := Option.some.inj H
 go_enter Tryd.func171, Tryd.ntmps171
 go_wp2
 go_ret
 exact ⟨by first | rfl | (simp; done) | (simp [*]; done), by repeat (first | exact Drawn0.refl _ | apply Drawn0.step)⟩

/-! ### cmp_Compare_uint64: function 139 -/
def cmp_Compare_uint64.f (a0 : Int) (a1 : Int) : Option (Int) := (cmp_isNaN_uint64.f a0).bind fun t355 => ((cmp_isNaN_uint64.f a1).bind fun t356 => (if t355 = true then (if t356 = true then (some 0) else (some (-1))) else (if t356 = true then (some 1) else (if a0 < a1 then (some (-1)) else (if a0 > a1 then (some 1) else (some 0))))))
set_option maxHeartbeats 8000000 in
set_option maxRecDepth 100000 in
theorem cmp_Compare_uint64.calls (a0 : Int) (a1 : Int) (r : Int) (w : World) (h : cmp_Compare_uint64.f a0 a1 = some r) :
  Calls Tryd.prog 139 #[.int .u64 a0, .int .u64 a1] w fun e w' => e = .returned (.int .i64 r) ∧ Drawn0 w w' := by
 have H : ((cmp_isNaN_uint64.f a0).bind fun t355 => ((cmp_isNaN_uint64.f a1).bind fun t356 => (if t355 = true then (if t356 = true then (some 0) else (some (-1))) else (if t356 = true then (some 1) else (if a0 < a1 then (some (-1)) else (if a0 > a1 then (some 1) else (some 0))))))) = some r := h
 clear h
 replace H := Option.bind_eq_some_iff.mp H
 obtain ⟨t355, A30, H⟩ := H
 replace H : ((cmp_isNaN_uint64.f a1).bind fun t356 => (if t355 = true then (if t356 = true then (some 0) else (some (-1))) else (if t356 = true then (some 1) else (if a0 < a1 then (some (-1)) else (if a0 > a1 then (some 1) else (some 0)))))) = some r := H
 have A3 := Ad.mk A30
 clear A30
 replace H := Option.bind_eq_some_iff.mp H
 obtain ⟨t356, A40, H⟩ := H
 replace H : (if t355 = true then (if t356 = true then (some 0) else (some (-1))) else (if t356 = true then (some 1) else (if a0 < a1 then (some (-1)) else (if a0 > a1 then (some 1) else (some 0))))) = some r := H
 have A4 := Ad.mk A40
 clear A40
 by_cases c5 : t355 = true
 ·
  subst c5
  have H1 : (if t356 = true then (some 0) else (some (-1))) = some r := by rw [if_pos rfl] at H; exact H
  clear H
  have H := H1
  clear H1
  by_cases c6 : t356 = true
  ·
   subst c6
   have H1 : (some 0) = some r := by rw [if_pos rfl] at H; exact H
   clear H
   have H := H1
   clear H1
   obtain rfl := Option.some.inj H
   go_enter Tryd.func139, Tryd.ntmps139
   go_wp2_with (first | ((with_reducible refine qgc (f := 171) rfl ?_); refine goesL_ (some 8) rfl rfl Tryd.func171 (by kernel_rfl) rfl #[.int .u64 a0] rfl (by (try simp only [List.map_toArray, List.map_cons, List.map_nil]); first | done | rfl) ?_; (with_reducible refine (cmp_isNaN_uint64.calls a0 true _ A3.out).mono ?_); rintro e w' ⟨rfl, ⟨nd, rfl⟩⟩; refine ⟨_, rfl, ?_⟩) | ((with_reducible refine qgc (f := 171) rfl ?_); refine goesL_ (some 10) rfl rfl Tryd.func171 (by kernel_rfl) rfl #[.int .u64 a1] rfl (by (try simp only [List.map_toArray, List.map_cons, List.map_nil]); first | done | rfl) ?_; (with_reducible refine (cmp_isNaN_uint64.calls a1 true _ A4.out).mono ?_); rintro e w' ⟨rfl, ⟨nd, rfl⟩⟩; refine ⟨_, rfl, ?_⟩))
   go_ret
   exact ⟨by first | rfl | (simp; done) | (simp [*]; done), by repeat (first | exact Drawn0.refl _ | apply Drawn0.step)⟩
  ·
   replace c6 := Bool.eq_false_iff.mpr c6
   subst c6
   have H1 : (some (-1)) = some r := by rw [if_neg (show ¬ (false = true) by decide)] at H; exact H
   clear H
   have H := H1
   clear H1
   obtain rfl := Option.some.inj H
   go_enter Tryd.func139, Tryd.ntmps139
   go_wp2_with (first | ((with_reducible refine qgc (f := 171) rfl ?_); refine goesL_ (some 8) rfl rfl Tryd.func171 (by kernel_rfl) rfl #[.int .u64 a0] rfl (by (try simp only [List.map_toArray, List.map_cons, List.map_nil]); first | done | rfl) ?_; (with_reducible refine (cmp_isNaN_uint64.calls a0 true _ A3.out).mono ?_); rintro e w' ⟨rfl, ⟨nd, rfl⟩⟩; refine ⟨_, rfl, ?_⟩) | ((with_reducible refine qgc (f := 171) rfl ?_); refine goesL_ (some 10) rfl rfl Tryd.func171 (by kernel_rfl) rfl #[.int .u64 a1] rfl (by (try simp only [List.map_toArray, List.map_cons, List.map_nil]); first | done | rfl) ?_; (with_reducible refine (cmp_isNaN_uint64.calls a1 false _ A4.out).mono ?_); rintro e w' ⟨rfl, ⟨nd, rfl⟩⟩; refine ⟨_, rfl, ?_⟩))
   go_ret
   exact ⟨by first | rfl | (simp; done) | (simp [*]; done), by repeat (first | exact Drawn0.refl _ | apply Drawn0.step)⟩
 ·
  replace c5 := Bool.eq_false_iff.mpr c5
  subst c5
  have H1 : (if t356 = true then (some 1) else (if a0 < a1 then (some (-1)) else (if a0 > a1 then (some 1) else (some 0)))) = some r := by rw [if_neg (show ¬ (false = true) by decide)] at H; exact H
  clear H
  have H := H1
  clear H1
  by_cases c7 : t356 = true
  ·
   subst c7
   have H1 : (some 1) = some r := by rw [if_pos rfl] at H; exact H
   clear H
   have H := H1
   clear H1
   obtain rfl := Option.some.inj H
   go_enter Tryd.func139, Tryd.ntmps139
   go_wp2_with (first | ((with_reducible refine qgc (f := 171) rfl ?_); refine goesL_ (some 8) rfl rfl Tryd.func171 (by kernel_rfl) rfl #[.int .u64 a0] rfl (by (try simp only [List.map_toArray, List.map_cons, List.map_nil]); first | done | rfl) ?_; (with_reducible refine (cmp_isNaN_uint64.calls a0 false _ A3.out).mono ?_); rintro e w' ⟨rfl, ⟨nd, rfl⟩⟩; refine ⟨_, rfl, ?_⟩) | ((with_reducible refine qgc (f := 171) rfl ?_); refine goesL_ (some 10) rfl rfl Tryd.func171 (by kernel_rfl) rfl #[.int .u64 a1] rfl (by (try simp only [List.map_toArray, List.map_cons, List.map_nil]); first | done | rfl) ?_; (with_reducible refine (cmp_isNaN_uint64.calls a1 true _ A4.out).mono ?_); rintro e w' ⟨rfl, ⟨nd, rfl⟩⟩; refine ⟨_, rfl, ?_⟩))
   go_ret
   exact ⟨by first | rfl | (simp; done) | (simp [*]; done), by repeat (first | exact Drawn0.refl _ | apply Drawn0.step)⟩
  ·
   replace c7 := Bool.eq_false_iff.mpr c7
   subst c7
   have H1 : (if a0 < a1 then (some (-1)) else (if a0 > a1 then (some 1) else (some 0))) = some r := by rw [if_neg (show ¬ (false = true) by decide)] at H; exact H
   clear H
   have H := H1
   clear H1
   by_cases c8 : a0 < a1
   ·
    rw [if_pos c8] at H
    have c8b0 : decide (a0 < a1) = true := decide_eq_true c8
    clear c8
    obtain rfl := Option.some.inj H
    go_enter Tryd.func139, Tryd.ntmps139
    go_wp2_with (first | ((with_reducible refine qgc (f := 171) rfl ?_); refine goesL_ (some 8) rfl rfl Tryd.func171 (by kernel_rfl) rfl #[.int .u64 a0] rfl (by (try simp only [List.map_toArray, List.map_cons, List.map_nil]); first | done | rfl) ?_; (with_reducible refine (cmp_isNaN_uint64.calls a0 false _ A3.out).mono ?_); rintro e w' ⟨rfl, ⟨nd, rfl⟩⟩; refine ⟨_, rfl, ?_⟩) | ((with_reducible refine qgc (f := 171) rfl ?_); refine goesL_ (some 10) rfl rfl Tryd.func171 (by kernel_rfl) rfl #[.int .u64 a1] rfl (by (try simp only [List.map_toArray, List.map_cons, List.map_nil]); first | done | rfl) ?_; (with_reducible refine (cmp_isNaN_uint64.calls a1 false _ A4.out).mono ?_); rintro e w' ⟨rfl, ⟨nd, rfl⟩⟩; refine ⟨_, rfl, ?_⟩))
    go_ret
    exact ⟨by first | rfl | (simp; done) | (simp [*]; done), by repeat (first | exact Drawn0.refl _ | apply Drawn0.step)⟩
   ·
    rw [if_neg c8] at H
    have c8b0 : decide (a0 < a1) = false := decide_eq_false c8
    clear c8
    by_cases c9 : a0 > a1
    ·
     rw [if_pos c9] at H
     have c9b0 : decide (a1 < a0) = true := decide_eq_true c9
     clear c9
     obtain rfl := Option.some.inj H
     go_enter Tryd.func139, Tryd.ntmps139
     go_wp2_with (first | ((with_reducible refine qgc (f := 171) rfl ?_); refine goesL_ (some 8) rfl rfl Tryd.func171 (by kernel_rfl) rfl #[.int .u64 a0] rfl (by (try simp only [List.map_toArray, List.map_cons, List.map_nil]); first | done | rfl) ?_; (with_reducible refine (cmp_isNaN_uint64.calls a0 false _ A3.out).mono ?_); rintro e w' ⟨rfl, ⟨nd, rfl⟩⟩; refine ⟨_, rfl, ?_⟩) | ((with_reducible refine qgc (f := 171) rfl ?_); refine goesL_ (some 10) rfl rfl Tryd.func171 (by kernel_rfl) rfl #[.int .u64 a1] rfl (by (try simp only [List.map_toArray, List.map_cons, List.map_nil]); first | done | rfl) ?_; (with_reducible refine (cmp_isNaN_uint64.calls a1 false _ A4.out).mono ?_); rintro e w' ⟨rfl, ⟨nd, rfl⟩⟩; refine ⟨_, rfl, ?_⟩))
     go_ret
     exact ⟨by first | rfl | (simp; done) | (simp [*]; done), by repeat (first | exact Drawn0.refl _ | apply Drawn0.step)⟩
    ·
     rw [if_neg c9] at H
     have c9b0 : decide (a1 < a0) = false := decide_eq_false c9
     clear c9
     obtain rfl := Option.some.inj H
     go_enter Tryd.func139, Tryd.ntmps139
     go_wp2_with (first | ((with_reducible refine qgc (f := 171) rfl ?_); refine goesL_ (some 8) rfl rfl Tryd.func171 (by kernel_rfl) rfl #[.int .u64 a0] rfl (by (try simp only [List.map_toArray, List.map_cons, List.map_nil]); first | done | rfl) ?_; (with_reducible refine (cmp_isNaN_uint64.calls a0 false _ A3.out).mono ?_); rintro e w' ⟨rfl, ⟨nd, rfl⟩⟩; refine ⟨_, rfl, ?_⟩) | ((with_reducible refine qgc (f := 171) rfl ?_); refine goesL_ (some 10) rfl rfl Tryd.func171 (by kernel_rfl) rfl #[.int .u64 a1] rfl (by (try simp only [List.map_toArray, List.map_cons, List.map_nil]); first | done | rfl) ?_; (with_reducible refine (cmp_isNaN_uint64.calls a1 false _ A4.out).mono ?_); rintro e w' ⟨rfl, ⟨nd, rfl⟩⟩; refine ⟨_, rfl, ?_⟩))
     go_ret
     exact ⟨by first | rfl | (simp; done) | (simp [*]; done), by repeat (first | exact Drawn0.refl _ | apply Drawn0.step)⟩

/-! ### gleeref1_byHeight: function 88 -/
def gleeref1_byHeight.f (k : Nat) (a0_0 : Int) (a0_1 : Int) (a0_2 : Int) (a0_3 : Int) (a1_0 : Int) (a1_1 : Int) (a1_2 : Int) (a1_3 : Int) : Option (Int) := (gleeref1_QuotientOf.f k a0_0 a0_1 a0_2 a0_3).bind fun bt359 => ((gleeref1_QuotientOf.f k a1_0 a1_1 a1_2 a1_3).bind fun bt361 => ((bits_Mul64.f (IntKind.u64.wrap (bt359.1)) (IntKind.u64.wrap (bt361.2))).bind fun bt365 => ((bits_Mul64.f (IntKind.u64.wrap (bt361.1)) (IntKind.u64.wrap (bt359.2))).bind fun bt367 => ((cmp_Compare_uint64.f bt365.1 bt367.1).bind fun t369 => ((cmp_Compare_uint64.f bt365.2 bt367.2).bind fun t370 => ((cmp_Or_int.f k (([t369, t370] : List Int))).bind fun t374 => (some t374)))))))
theorem gleeref1_byHeight.mono : ∀ a0 a1 a2 a3 a4 a5 a6 a7 k, LeO (gleeref1_byHeight.f k a0 a1 a2 a3 a4 a5 a6 a7) (gleeref1_byHeight.f (k + 1) a0 a1 a2 a3 a4 a5 a6 a7) := by
 intro a0 a1 a2 a3 a4 a5 a6 a7 k
 unfold gleeref1_byHeight.f
 repeat' first
   | (with_reducible exact cmp_Or_int.mono _ _)
   | (with_reducible exact gleeref1_QuotientOf.mono _ _ _ _ _)
   | (with_reducible exact LeO.refl _)
   | (with_reducible exact LeO.none _)
   | (with_reducible refine LeO.ite ?_ ?_)
   | (with_reducible refine LeO.bind ?_ (fun _ => ?_))
   | exact cmp_Or_int.mono _ _
   | exact gleeref1_QuotientOf.mono _ _ _ _ _
   | exact LeO.none _
   | refine LeO.ite ?_ ?_
   | refine LeO.bind ?_ (fun _ => ?_)
def gleeref1_byHeight.T1 : Bool × List (List Nat × List Nat) := (true, [([], []), ([0], [0]), ([], []), ([2, 1], [2]), ([], []), ([], []), ([4, 1, 3, 0, 1, 4, 5], [1, 4]), ([5, 3, 6, 0, 1, 2, 3, 4, 5, 6], [3, 5])])
def gleeref1_byHeight.B1 : List Nat := [0, 1, 0, 7, 0, 0, 63, 127]
theorem gleeref1_byHeight.tab1 : rtab .any (opsOf Tryd.f88 1) = gleeref1_byHeight.T1 := by kernel_rfl
theorem gleeref1_byHeight.bits1 : waitsOk gleeref1_byHeight.T1.2 gleeref1_byHeight.B1 = true := by kernel_rfl
set_option maxHeartbeats 8000000 in
set_option maxRecDepth 100000 in
theorem gleeref1_byHeight.calls (k : Nat) (a0_0 : Int) (a0_1 : Int) (a0_2 : Int) (a0_3 : Int) (a1_0 : Int) (a1_1 : Int) (a1_2 : Int) (a1_3 : Int) (r : Int) (w : World) (h : gleeref1_byHeight.f k a0_0 a0_1 a0_2 a0_3 a1_0 a1_1 a1_2 a1_3 = some r) :
  Calls Tryd.prog 88 #[.agg #[.int .i64 a0_0, .int .i64 a0_1, .int .i64 a0_2, .int .i64 a0_3], .agg #[.int .i64 a1_0, .int .i64 a1_1, .int .i64 a1_2, .int .i64 a1_3]] w fun e w' => e = .returned (.int .i64 r) ∧ Below w.heap.size w w' := by
 have hu27 := Tryd.underlying27
 have hu30 := Tryd.underlying30
 have HB := Ad.mk (Below.refl w.heap.size w)
 have H : ((gleeref1_QuotientOf.f k a0_0 a0_1 a0_2 a0_3).bind fun bt359 => ((gleeref1_QuotientOf.f k a1_0 a1_1 a1_2 a1_3).bind fun bt361 => ((bits_Mul64.f (IntKind.u64.wrap (bt359.1)) (IntKind.u64.wrap (bt361.2))).bind fun bt365 => ((bits_Mul64.f (IntKind.u64.wrap (bt361.1)) (IntKind.u64.wrap (bt359.2))).bind fun bt367 => ((cmp_Compare_uint64.f bt365.1 bt367.1).bind fun t369 => ((cmp_Compare_uint64.f bt365.2 bt367.2).bind fun t370 => ((cmp_Or_int.f k (([t369, t370] : List Int))).bind fun t374 => (some t374)))))))) = some r := h
 clear h
 replace H := Option.bind_eq_some_iff.mp H
 obtain ⟨⟨t359, t360⟩, A30, H⟩ := H
 replace H : ((gleeref1_QuotientOf.f k a1_0 a1_1 a1_2 a1_3).bind fun bt361 => ((bits_Mul64.f (IntKind.u64.wrap (t359)) (IntKind.u64.wrap (bt361.2))).bind fun bt365 => ((bits_Mul64.f (IntKind.u64.wrap (bt361.1)) (IntKind.u64.wrap (t360))).bind fun bt367 => ((cmp_Compare_uint64.f bt365.1 bt367.1).bind fun t369 => ((cmp_Compare_uint64.f bt365.2 bt367.2).bind fun t370 => ((cmp_Or_int.f k (([t369, t370] : List Int))).bind fun t374 => (some t374))))))) = some r := H
 have A3 := Ad.mk A30
 clear A30
 replace H := Option.bind_eq_some_iff.mp H
 obtain ⟨⟨t361, t362⟩, A40, H⟩ := H
 replace H : ((bits_Mul64.f (IntKind.u64.wrap (t359)) (IntKind.u64.wrap (t362))).bind fun bt365 => ((bits_Mul64.f (IntKind.u64.wrap (t361)) (IntKind.u64.wrap (t360))).bind fun bt367 => ((cmp_Compare_uint64.f bt365.1 bt367.1).bind fun t369 => ((cmp_Compare_uint64.f bt365.2 bt367.2).bind fun t370 => ((cmp_Or_int.f k (([t369, t370] : List Int))).bind fun t374 => (some t374)))))) = some r := H
 have A4 := Ad.mk A40
 clear A40
 replace H := Option.bind_eq_some_iff.mp H
 obtain ⟨⟨t365, t366⟩, A50, H⟩ := H
 replace H : ((bits_Mul64.f (IntKind.u64.wrap (t361)) (IntKind.u64.wrap (t360))).bind fun bt367 => ((cmp_Compare_uint64.f t365 bt367.1).bind fun t369 => ((cmp_Compare_uint64.f t366 bt367.2).bind fun t370 => ((cmp_Or_int.f k (([t369, t370] : List Int))).bind fun t374 => (some t374))))) = some r := H
 have A5 := Ad.mk A50
 clear A50
 replace H := Option.bind_eq_some_iff.mp H
 obtain ⟨⟨t367, t368⟩, A60, H⟩ := H
 replace H : ((cmp_Compare_uint64.f t365 t367).bind fun t369 => ((cmp_Compare_uint64.f t366 t368).bind fun t370 => ((cmp_Or_int.f k (([t369, t370] : List Int))).bind fun t374 => (some t374)))) = some r := H
 have A6 := Ad.mk A60
 clear A60
 replace H := Option.bind_eq_some_iff.mp H
 obtain ⟨t369, A70, H⟩ := H
 replace H : ((cmp_Compare_uint64.f t366 t368).bind fun t370 => ((cmp_Or_int.f k (([t369, t370] : List Int))).bind fun t374 => (some t374))) = some r := H
 have A7 := Ad.mk A70
 clear A70
 replace H := Option.bind_eq_some_iff.mp H
 obtain ⟨t370, A80, H⟩ := H
 replace H : ((cmp_Or_int.f k (([t369, t370] : List Int))).bind fun t374 => (some t374)) = some r := H
 have A8 := Ad.mk A80
 clear A80
 obtain ⟨y371, hy371⟩ : ∃ y_ : List Int, y_ = (([t369, t370] : List Int)) := ⟨_, rfl⟩
 replace H : ((cmp_Or_int.f k y371).bind fun t374 => (some t374)) = some r := by first | (rw [hy371]; with_reducible exact H) | (have H2_ := (Option.bind_some _ _).symm.trans H; rw [hy371]; with_reducible exact H2_) | (have H2_ := (Option.bind_some _ _).symm.trans H; with_reducible exact H2_) | with_reducible exact H | (rw [hy371]; exact H) | exact H
 have Ny371 := Ad.mk hy371
 clear hy371
 replace H := Option.bind_eq_some_iff.mp H
 obtain ⟨t374, A90, H⟩ := H
 replace H : (some t374) = some r := H
 have A9 := Ad.mk A90
 clear A90
 obtain rfl := Option.some.inj H
 go_enter Tryd.func88, Tryd.ntmps88
 try go_wp2_with (first | ((with_reducible refine qgd (N := 2) rfl ?_); refine qbe ?hg (N := 2) ?hd (cs := #[.int .i64 a0_0, .int .i64 a0_1, .int .i64 a0_2, .int .i64 a0_3]) (t := 27) ?hr ?_; (case hd => rfl); (case hg => rfl); (case hr => first | (go_simp; done) | (go_simp; rfl)); intro gb357 hg w10 hbox hb; have BK357 := Ad.mk (hbox); have GW357 := Ad.mk ((by rw [hg]; exact (qbz (by repeat (first | (with_reducible first | exact HB.out | apply qbn | apply qb1) | exact HB.out))) : w.heap.size ≤ gb357)); have GE357 := Ad.mk ((by rw [hg]; exact (qbz (by repeat (first | (with_reducible first | exact HB.out | apply qbn | apply qb1) | exact HB.out))) : w.heap.size ≤ gb357)); replace HB := Ad.mk (qbt (by repeat (first | (with_reducible first | exact HB.out | apply qbn | apply qb1) | exact HB.out)) hb); clear hb hbox hg) | ((with_reducible refine qgd (N := 3) rfl ?_); refine qbe ?hg (N := 3) ?hd (cs := #[.int .i64 a1_0, .int .i64 a1_1, .int .i64 a1_2, .int .i64 a1_3]) (t := 27) ?hr ?_; (case hd => rfl); (case hg => rfl); (case hr => first | (go_simp; done) | (go_simp; rfl)); intro gb358 hg w11 hbox hb; have BK358 := Ad.mk (hbox); have GW358 := Ad.mk ((by rw [hg]; exact (qbz (by repeat (first | (with_reducible first | exact HB.out | apply qbn | apply qb1) | exact HB.out))) : w.heap.size ≤ gb358)); have GE358 := Ad.mk ((by rw [hg]; exact (qbz (by repeat (first | (with_reducible first | exact HB.out | apply qbn | apply qb1) | exact HB.out))) : w.heap.size ≤ gb358)); have NB357_358 := Ad.mk ((by rw [hg]; exact Nat.ne_of_lt (qkl (by exact BK357.out)) : gb357 ≠ gb358)); have NB358_357 := Ad.mk ((by rw [hg]; exact Nat.ne_of_gt (qkl (by exact BK357.out)) : gb358 ≠ gb357)); replace BK357 := Ad.mk (qkb (by exact BK357.out) hb); replace HB := Ad.mk (qbt (by repeat (first | (with_reducible first | exact HB.out | apply qbn | apply qb1) | exact HB.out)) hb); clear hb hbox hg))
 replace BK357 := Ad.mk (qkd BK357.out)
 replace BK358 := Ad.mk (qkd BK358.out)
 replace HB := Ad.mk (qb1 HB.out)
 refine start_ (n := 8) (S := fun w' => True) (ds := []) #[false, false, false, false, false, false, false, false] (by kernel_rfl) rfl rfl trivial (fun hHeld => ?_); refine with_tabW gleeref1_byHeight.tab1 gleeref1_byHeight.bits1 (fun HT_ HW_ => ?_)
 generalize w11.drew = w12 at BK357 BK358 HB hHeld ⊢
 refine inv_at [0, 1, 2, 3, 4, 5, 6, 7] (fun a0_ b a w' => ∃ (gb363 : Nat) (gb364 : Nat) (m4_ : Value) (m5_ : Value), a = putSel a0_ b [(0, 11, .agg #[.int .i64 a0_0, .int .i64 a0_1, .int .i64 a0_2, .int .i64 a0_3]), (1, 12, .agg #[.int .i64 t359, .int .i64 t360]), (2, 13, .agg #[.int .i64 a1_0, .int .i64 a1_1, .int .i64 a1_2, .int .i64 a1_3]), (3, 14, .agg #[.int .i64 t361, .int .i64 t362]), (4, 5, m4_), (5, 6, m5_)] ∧ (w'.heap[gb357]? = some (.cells #[.int .i64 a0_0, .int .i64 a0_1, .int .i64 a0_2, .int .i64 a0_3] 27 (0, 0))) ∧ (w'.heap[gb358]? = some (.cells #[.int .i64 a1_0, .int .i64 a1_1, .int .i64 a1_2, .int .i64 a1_3] 27 (0, 0))) ∧ (Below w.heap.size w w') ∧ (b 4 = true → b 5 = true → gb364 ≠ gb363) ∧ (b 4 = true → b 5 = true → gb363 ≠ gb364) ∧ (b 4 = true → b 6 = false → w'.heap[gb363]? = some (.cells #[.int .i64 0, .int .i64 0] 30 (0, 0))) ∧ (b 4 = true → w.heap.size ≤ gb363) ∧ (b 4 = true → w.heap.size ≤ gb363) ∧ (b 4 = true → gb357 ≠ gb363) ∧ (b 4 = true → gb363 ≠ gb357) ∧ (b 4 = true → gb358 ≠ gb363) ∧ (b 4 = true → gb363 ≠ gb358) ∧ (b 5 = true → b 7 = false → w'.heap[gb364]? = some (.cells #[.int .i64 0, .int .i64 0] 30 (0, 0))) ∧ (b 5 = true → w.heap.size ≤ gb364) ∧ (b 5 = true → w.heap.size ≤ gb364) ∧ (b 5 = true → gb357 ≠ gb364) ∧ (b 5 = true → gb364 ≠ gb357) ∧ (b 5 = true → gb358 ≠ gb364) ∧ (b 5 = true → gb364 ≠ gb358) ∧ (b 6 = true → w'.heap[gb363]? = some (.cells #[.int .i64 t359, .int .i64 t360] 30 (0, 0))) ∧ (b 7 = true → w'.heap[gb364]? = some (.cells #[.int .i64 t361, .int .i64 t362] 30 (0, 0))) ∧ (b 4 = true → (m4_ : Value) = .pointer (some ⟨gb363, 0, none⟩)) ∧ (b 5 = true → (m5_ : Value) = .pointer (some ⟨gb364, 0, none⟩))) HT_.out HW_.out (by kernel_rfl) (by kernel_rfl) ?_ ?_ ?_
 ·
  exact ⟨0, 0, .bool false, .bool false, by simp only [putSel, Bool.false_eq_true, if_false], BK357.out, BK358.out, HB.out, fun h_ => absurd h_ (by decide), fun h_ => absurd h_ (by decide), fun h_ => absurd h_ (by decide), fun h_ => absurd h_ (by decide), fun h_ => absurd h_ (by decide), fun h_ => absurd h_ (by decide), fun h_ => absurd h_ (by decide), fun h_ => absurd h_ (by decide), fun h_ => absurd h_ (by decide), fun h_ => absurd h_ (by decide), fun h_ => absurd h_ (by decide), fun h_ => absurd h_ (by decide), fun h_ => absurd h_ (by decide), fun h_ => absurd h_ (by decide), fun h_ => absurd h_ (by decide), fun h_ => absurd h_ (by decide), fun h_ => absurd h_ (by decide), fun h_ => absurd h_ (by decide), fun h_ => absurd h_ (by decide), fun h_ => absurd h_ (by decide)⟩
 ·
  skip
  clear BK357 BK358 HB
  refine steps_cons ?_ ?_
  ·
   rintro b a w' ⟨gb363, gb364, m4_, m5_, ha, Q_BK357, Q_BK358, Q_HB, Q_NB364_363, Q_NB363_364, Q_BK363, Q_GW363, Q_GE363, Q_NB357_363, Q_NB363_357, Q_NB358_363, Q_NB363_358, Q_BK364, Q_GW364, Q_GE364, Q_NB357_364, Q_NB364_357, Q_NB358_364, Q_NB364_358, Q_BK363_e6, Q_BK364_e7, Q_X4_, Q_X5_⟩ hb_ hon hoff
   refine ⟨_, rfl, fun K hK => ?_⟩
   have e2 : a.tmps[2]? = some (.pointer (some ⟨gb357, 0, none⟩)) := by rw [ha]; exact (putSel_off rfl).trans rfl
   replace ha := Ad.mk ha
   have BK357 := Ad.mk Q_BK357
   have BK358 := Ad.mk Q_BK358
   have HB := Ad.mk Q_HB
   have hc0_ : w'.cell? ⟨gb357, 0, none⟩ = some (.int .i64 a0_0) := (qkc BK357.out 0).trans rfl
   have hc1_ : w'.cell? ⟨gb357, 1, none⟩ = some (.int .i64 a0_1) := (qkc BK357.out 1).trans rfl
   have hc2_ : w'.cell? ⟨gb357, 2, none⟩ = some (.int .i64 a0_2) := (qkc BK357.out 2).trans rfl
   have hc3_ : w'.cell? ⟨gb357, 3, none⟩ = some (.int .i64 a0_3) := (qkc BK357.out 3).trans rfl
   refine value_ (w1 := w') (v := .agg #[.int .i64 a0_0, .int .i64 a0_1, .int .i64 a0_2, .int .i64 a0_3]) (by rfl) rfl ?_ ?_
   ·
    go_simp
    (try simp only [i64_w])
    try rfl
   refine hK.out _ _ ⟨gb363, gb364, m4_, m5_, (by rw [ha.out]; exact putSel_upk 0 hb_ rfl rfl rfl), Q_BK357, Q_BK358, Q_HB, Q_NB364_363, Q_NB363_364, Q_BK363, Q_GW363, Q_GE363, Q_NB357_363, Q_NB363_357, Q_NB358_363, Q_NB363_358, Q_BK364, Q_GW364, Q_GE364, Q_NB357_364, Q_NB364_357, Q_NB358_364, Q_NB364_358, fun h0_ => absurd ((hoff 6 (by kernel_rfl)).symm.trans h0_) (by decide), fun h0_ => absurd ((hoff 7 (by kernel_rfl)).symm.trans h0_) (by decide), Q_X4_, Q_X5_⟩
  refine steps_cons ?_ ?_
  ·
   rintro b a w' ⟨gb363, gb364, m4_, m5_, ha, Q_BK357, Q_BK358, Q_HB, Q_NB364_363, Q_NB363_364, Q_BK363, Q_GW363, Q_GE363, Q_NB357_363, Q_NB363_357, Q_NB358_363, Q_NB363_358, Q_BK364, Q_GW364, Q_GE364, Q_NB357_364, Q_NB364_357, Q_NB358_364, Q_NB364_358, Q_BK363_e6, Q_BK364_e7, Q_X4_, Q_X5_⟩ hb_ hon hoff
   refine ⟨_, rfl, fun K hK => ?_⟩
   have e11 : a.tmps[11]? = some (.agg #[.int .i64 a0_0, .int .i64 a0_1, .int .i64 a0_2, .int .i64 a0_3]) := by rw [ha]; exact putSel_on (e := (0, 11, .agg #[.int .i64 a0_0, .int .i64 a0_1, .int .i64 a0_2, .int .i64 a0_3])) 0 rfl rfl (hon 0 (by kernel_rfl)) rfl
   replace ha := Ad.mk ha
   have BK357 := Ad.mk Q_BK357
   have BK358 := Ad.mk Q_BK358
   have HB := Ad.mk Q_HB
   refine goes_ Tryd.func22 (by kernel_rfl) rfl #[.agg #[.int .i64 a0_0, .int .i64 a0_1, .int .i64 a0_2, .int .i64 a0_3]] (by rfl) rfl rfl (by first | (simp only [List.map_toArray, List.map_cons, List.map_nil, Act.eval, Array.getD_eq_getD_getElem?, Option.getD_some, e11]; done) | (simp only [List.map_toArray, List.map_cons, List.map_nil, Act.eval, Array.getD_eq_getD_getElem?, Option.getD_some, e11]; rfl)) ?_
   with_reducible refine (gleeref1_QuotientOf.calls k a0_0 a0_1 a0_2 a0_3 t359 t360 _ A3.out).mono ?_
   rintro e w13 ⟨rfl, hb⟩
   refine ⟨_, rfl, ?_⟩
   have n0_ := Ad.mk (qkb (by exact BK357.out) hb)
   have n1_ := Ad.mk (qkb (by exact BK358.out) hb)
   have n2_ := Ad.mk (qbt (by repeat (first | (with_reducible first | exact HB.out | apply qbn | apply qb1) | exact HB.out)) hb)
   have z_BK363 := fun (h0_ : b 4 = true) (h1_ : b 6 = false) => (show w13.heap[gb363]? = some (.cells #[.int .i64 0, .int .i64 0] 30 (0, 0)) from by first | exact (qkb (g := gb363) (o := .cells #[.int .i64 0, .int .i64 0] 30 (0, 0)) (by exact (Q_BK363 h0_ h1_)) hb))
   have z_BK364 := fun (h0_ : b 5 = true) (h1_ : b 7 = false) => (show w13.heap[gb364]? = some (.cells #[.int .i64 0, .int .i64 0] 30 (0, 0)) from by first | exact (qkb (g := gb364) (o := .cells #[.int .i64 0, .int .i64 0] 30 (0, 0)) (by exact (Q_BK364 h0_ h1_)) hb))
   clear BK357
   clear BK358
   clear HB
   have BK357 := n0_
   have BK358 := n1_
   have HB := n2_
   clear n0_ n1_ n2_
   (try clear hb)
   (try clear hb2)
   (try clear hk)
   (try clear hi)
   refine hK.out _ _ ⟨gb363, gb364, m4_, m5_, (by rw [ha.out]; exact putSel_upk 1 hb_ rfl rfl rfl), (by exact BK357.out), (by exact BK358.out), (by repeat (first | (with_reducible first | exact HB.out | apply qbn | apply qb1) | exact HB.out)), Q_NB364_363, Q_NB363_364, z_BK363, Q_GW363, Q_GE363, Q_NB357_363, Q_NB363_357, Q_NB358_363, Q_NB363_358, z_BK364, Q_GW364, Q_GE364, Q_NB357_364, Q_NB364_357, Q_NB358_364, Q_NB364_358, fun h0_ => absurd ((hoff 6 (by kernel_rfl)).symm.trans h0_) (by decide), fun h0_ => absurd ((hoff 7 (by kernel_rfl)).symm.trans h0_) (by decide), Q_X4_, Q_X5_⟩
  refine steps_cons ?_ ?_
  ·
   rintro b a w' ⟨gb363, gb364, m4_, m5_, ha, Q_BK357, Q_BK358, Q_HB, Q_NB364_363, Q_NB363_364, Q_BK363, Q_GW363, Q_GE363, Q_NB357_363, Q_NB363_357, Q_NB358_363, Q_NB363_358, Q_BK364, Q_GW364, Q_GE364, Q_NB357_364, Q_NB364_357, Q_NB358_364, Q_NB364_358, Q_BK363_e6, Q_BK364_e7, Q_X4_, Q_X5_⟩ hb_ hon hoff
   refine ⟨_, rfl, fun K hK => ?_⟩
   have e3 : a.tmps[3]? = some (.pointer (some ⟨gb358, 0, none⟩)) := by rw [ha]; exact (putSel_off rfl).trans rfl
   replace ha := Ad.mk ha
   have BK357 := Ad.mk Q_BK357
   have BK358 := Ad.mk Q_BK358
   have HB := Ad.mk Q_HB
   have hc0_ : w'.cell? ⟨gb358, 0, none⟩ = some (.int .i64 a1_0) := (qkc BK358.out 0).trans rfl
   have hc1_ : w'.cell? ⟨gb358, 1, none⟩ = some (.int .i64 a1_1) := (qkc BK358.out 1).trans rfl
   have hc2_ : w'.cell? ⟨gb358, 2, none⟩ = some (.int .i64 a1_2) := (qkc BK358.out 2).trans rfl
   have hc3_ : w'.cell? ⟨gb358, 3, none⟩ = some (.int .i64 a1_3) := (qkc BK358.out 3).trans rfl
   refine value_ (w1 := w') (v := .agg #[.int .i64 a1_0, .int .i64 a1_1, .int .i64 a1_2, .int .i64 a1_3]) (by rfl) rfl ?_ ?_
   ·
    go_simp
    (try simp only [i64_w])
    try rfl
   refine hK.out _ _ ⟨gb363, gb364, m4_, m5_, (by rw [ha.out]; exact putSel_upk 2 hb_ rfl rfl rfl), Q_BK357, Q_BK358, Q_HB, Q_NB364_363, Q_NB363_364, Q_BK363, Q_GW363, Q_GE363, Q_NB357_363, Q_NB363_357, Q_NB358_363, Q_NB363_358, Q_BK364, Q_GW364, Q_GE364, Q_NB357_364, Q_NB364_357, Q_NB358_364, Q_NB364_358, fun h0_ => absurd ((hoff 6 (by kernel_rfl)).symm.trans h0_) (by decide), fun h0_ => absurd ((hoff 7 (by kernel_rfl)).symm.trans h0_) (by decide), Q_X4_, Q_X5_⟩
  refine steps_cons ?_ ?_
  ·
   rintro b a w' ⟨gb363, gb364, m4_, m5_, ha, Q_BK357, Q_BK358, Q_HB, Q_NB364_363, Q_NB363_364, Q_BK363, Q_GW363, Q_GE363, Q_NB357_363, Q_NB363_357, Q_NB358_363, Q_NB363_358, Q_BK364, Q_GW364, Q_GE364, Q_NB357_364, Q_NB364_357, Q_NB358_364, Q_NB364_358, Q_BK363_e6, Q_BK364_e7, Q_X4_, Q_X5_⟩ hb_ hon hoff
   refine ⟨_, rfl, fun K hK => ?_⟩
   have e13 : a.tmps[13]? = some (.agg #[.int .i64 a1_0, .int .i64 a1_1, .int .i64 a1_2, .int .i64 a1_3]) := by rw [ha]; exact putSel_on (e := (2, 13, .agg #[.int .i64 a1_0, .int .i64 a1_1, .int .i64 a1_2, .int .i64 a1_3])) 2 rfl rfl (hon 2 (by kernel_rfl)) rfl
   replace ha := Ad.mk ha
   have BK357 := Ad.mk Q_BK357
   have BK358 := Ad.mk Q_BK358
   have HB := Ad.mk Q_HB
   refine goes_ Tryd.func22 (by kernel_rfl) rfl #[.agg #[.int .i64 a1_0, .int .i64 a1_1, .int .i64 a1_2, .int .i64 a1_3]] (by rfl) rfl rfl (by first | (simp only [List.map_toArray, List.map_cons, List.map_nil, Act.eval, Array.getD_eq_getD_getElem?, Option.getD_some, e13]; done) | (simp only [List.map_toArray, List.map_cons, List.map_nil, Act.eval, Array.getD_eq_getD_getElem?, Option.getD_some, e13]; rfl)) ?_
   with_reducible refine (gleeref1_QuotientOf.calls k a1_0 a1_1 a1_2 a1_3 t361 t362 _ A4.out).mono ?_
   rintro e w15 ⟨rfl, hb⟩
   refine ⟨_, rfl, ?_⟩
   have n0_ := Ad.mk (qkb (by exact BK357.out) hb)
   have n1_ := Ad.mk (qkb (by exact BK358.out) hb)
   have n2_ := Ad.mk (qbt (by repeat (first | (with_reducible first | exact HB.out | apply qbn | apply qb1) | exact HB.out)) hb)
   have z_BK363 := fun (h0_ : b 4 = true) (h1_ : b 6 = false) => (show w15.heap[gb363]? = some (.cells #[.int .i64 0, .int .i64 0] 30 (0, 0)) from by first | exact (qkb (g := gb363) (o := .cells #[.int .i64 0, .int .i64 0] 30 (0, 0)) (by exact (Q_BK363 h0_ h1_)) hb))
   have z_BK364 := fun (h0_ : b 5 = true) (h1_ : b 7 = false) => (show w15.heap[gb364]? = some (.cells #[.int .i64 0, .int .i64 0] 30 (0, 0)) from by first | exact (qkb (g := gb364) (o := .cells #[.int .i64 0, .int .i64 0] 30 (0, 0)) (by exact (Q_BK364 h0_ h1_)) hb))
   clear BK357
   clear BK358
   clear HB
   have BK357 := n0_
   have BK358 := n1_
   have HB := n2_
   clear n0_ n1_ n2_
   (try clear hb)
   (try clear hb2)
   (try clear hk)
   (try clear hi)
   refine hK.out _ _ ⟨gb363, gb364, m4_, m5_, (by rw [ha.out]; exact putSel_upk 3 hb_ rfl rfl rfl), (by exact BK357.out), (by exact BK358.out), (by repeat (first | (with_reducible first | exact HB.out | apply qbn | apply qb1) | exact HB.out)), Q_NB364_363, Q_NB363_364, z_BK363, Q_GW363, Q_GE363, Q_NB357_363, Q_NB363_357, Q_NB358_363, Q_NB363_358, z_BK364, Q_GW364, Q_GE364, Q_NB357_364, Q_NB364_357, Q_NB358_364, Q_NB364_358, fun h0_ => absurd ((hoff 6 (by kernel_rfl)).symm.trans h0_) (by decide), fun h0_ => absurd ((hoff 7 (by kernel_rfl)).symm.trans h0_) (by decide), Q_X4_, Q_X5_⟩
  refine steps_cons ?_ ?_
  ·
   rintro b a w' ⟨gb363, gb364, m4_, m5_, ha, Q_BK357, Q_BK358, Q_HB, Q_NB364_363, Q_NB363_364, Q_BK363, Q_GW363, Q_GE363, Q_NB357_363, Q_NB363_357, Q_NB358_363, Q_NB363_358, Q_BK364, Q_GW364, Q_GE364, Q_NB357_364, Q_NB364_357, Q_NB358_364, Q_NB364_358, Q_BK363_e6, Q_BK364_e7, Q_X4_, Q_X5_⟩ hb_ hon hoff
   refine ⟨_, rfl, fun K hK => ?_⟩
   replace ha := Ad.mk ha
   have BK357 := Ad.mk Q_BK357
   have BK358 := Ad.mk Q_BK358
   have HB := Ad.mk Q_HB
   refine box_step ?hg (N := 5) ?hd (cs := #[.int .i64 0, .int .i64 0]) (t := 30) ?hr ?_; (case hd => rfl); (case hg => rfl); (case hr => first | (go_simp; done) | (go_simp; rfl))
   intro gb363 hg w13 hbox hb
   have n0_ := Ad.mk (qkb (by exact BK357.out) hb)
   have n1_ := Ad.mk (qkb (by exact BK358.out) hb)
   have n2_ := Ad.mk (qbt (by repeat (first | (with_reducible first | exact HB.out | apply qbn | apply qb1) | exact HB.out)) hb)
   have n3_ := Ad.mk (hbox)
   have n4_ := Ad.mk ((by rw [hg]; exact (qbz (by repeat (first | (with_reducible first | exact HB.out | apply qbn | apply qb1) | exact HB.out))) : w.heap.size ≤ gb363))
   have n5_ := Ad.mk ((by rw [hg]; exact (qbz (by repeat (first | (with_reducible first | exact HB.out | apply qbn | apply qb1) | exact HB.out))) : w.heap.size ≤ gb363))
   have n6_ := Ad.mk ((by rw [hg]; exact Nat.ne_of_lt (qkl (by exact BK357.out)) : gb357 ≠ gb363))
   have n7_ := Ad.mk ((by rw [hg]; exact Nat.ne_of_gt (qkl (by exact BK357.out)) : gb363 ≠ gb357))
   have n8_ := Ad.mk ((by rw [hg]; exact Nat.ne_of_lt (qkl (by exact BK358.out)) : gb358 ≠ gb363))
   have n9_ := Ad.mk ((by rw [hg]; exact Nat.ne_of_gt (qkl (by exact BK358.out)) : gb363 ≠ gb358))
   have z_NB364_363 := fun (h0_ : up b 4 4 = true) (h1_ : up b 4 5 = true) => (show gb364 ≠ gb363 from ((by rw [hg]; exact Nat.ne_of_lt (qkl (g := gb364) (o := .cells #[.int .i64 0, .int .i64 0] 30 (0, 0)) (by exact (Q_BK364 h1_ (hoff 7 (by kernel_rfl))))) : gb364 ≠ gb363)))
   have z_NB363_364 := fun (h0_ : up b 4 4 = true) (h1_ : up b 4 5 = true) => (show gb363 ≠ gb364 from ((by rw [hg]; exact Nat.ne_of_gt (qkl (g := gb364) (o := .cells #[.int .i64 0, .int .i64 0] 30 (0, 0)) (by exact (Q_BK364 h1_ (hoff 7 (by kernel_rfl))))) : gb363 ≠ gb364)))
   have z_BK364 := fun (h0_ : b 5 = true) (h1_ : b 7 = false) => (show w13.heap[gb364]? = some (.cells #[.int .i64 0, .int .i64 0] 30 (0, 0)) from by first | exact (qkb (g := gb364) (o := .cells #[.int .i64 0, .int .i64 0] 30 (0, 0)) (by exact (Q_BK364 h0_ h1_)) hb))
   clear BK357
   clear BK358
   clear HB
   have BK357 := n0_
   have BK358 := n1_
   have HB := n2_
   have BK363 := n3_
   have GW363 := n4_
   have GE363 := n5_
   have NB357_363 := n6_
   have NB363_357 := n7_
   have NB358_363 := n8_
   have NB363_358 := n9_
   clear n0_ n1_ n2_ n3_ n4_ n5_ n6_ n7_ n8_ n9_
   clear hb hbox hg
   refine hK.out _ _ ⟨gb363, gb364, (.pointer (some ⟨gb363, 0, none⟩)), m5_, (by rw [ha.out]; exact putSel_upk 4 hb_ rfl rfl rfl), (by exact BK357.out), (by exact BK358.out), (by repeat (first | (with_reducible first | exact HB.out | apply qbn | apply qb1) | exact HB.out)), z_NB364_363, z_NB363_364, fun _ _ => (by exact BK363.out), fun _ => GW363.out, fun _ => GE363.out, fun _ => NB357_363.out, fun _ => NB363_357.out, fun _ => NB358_363.out, fun _ => NB363_358.out, z_BK364, Q_GW364, Q_GE364, Q_NB357_364, Q_NB364_357, Q_NB358_364, Q_NB364_358, fun h0_ => absurd ((hoff 6 (by kernel_rfl)).symm.trans h0_) (by decide), fun h0_ => absurd ((hoff 7 (by kernel_rfl)).symm.trans h0_) (by decide), fun _ => rfl, Q_X5_⟩
  refine steps_cons ?_ ?_
  ·
   rintro b a w' ⟨gb363, gb364, m4_, m5_, ha, Q_BK357, Q_BK358, Q_HB, Q_NB364_363, Q_NB363_364, Q_BK363, Q_GW363, Q_GE363, Q_NB357_363, Q_NB363_357, Q_NB358_363, Q_NB363_358, Q_BK364, Q_GW364, Q_GE364, Q_NB357_364, Q_NB364_357, Q_NB358_364, Q_NB364_358, Q_BK363_e6, Q_BK364_e7, Q_X4_, Q_X5_⟩ hb_ hon hoff
   refine ⟨_, rfl, fun K hK => ?_⟩
   replace ha := Ad.mk ha
   have BK357 := Ad.mk Q_BK357
   have BK358 := Ad.mk Q_BK358
   have HB := Ad.mk Q_HB
   refine box_step ?hg (N := 6) ?hd (cs := #[.int .i64 0, .int .i64 0]) (t := 30) ?hr ?_; (case hd => rfl); (case hg => rfl); (case hr => first | (go_simp; done) | (go_simp; rfl))
   intro gb364 hg w13 hbox hb
   have n0_ := Ad.mk (qkb (by exact BK357.out) hb)
   have n1_ := Ad.mk (qkb (by exact BK358.out) hb)
   have n2_ := Ad.mk (qbt (by repeat (first | (with_reducible first | exact HB.out | apply qbn | apply qb1) | exact HB.out)) hb)
   have n3_ := Ad.mk (hbox)
   have n4_ := Ad.mk ((by rw [hg]; exact (qbz (by repeat (first | (with_reducible first | exact HB.out | apply qbn | apply qb1) | exact HB.out))) : w.heap.size ≤ gb364))
   have n5_ := Ad.mk ((by rw [hg]; exact (qbz (by repeat (first | (with_reducible first | exact HB.out | apply qbn | apply qb1) | exact HB.out))) : w.heap.size ≤ gb364))
   have n6_ := Ad.mk ((by rw [hg]; exact Nat.ne_of_lt (qkl (by exact BK357.out)) : gb357 ≠ gb364))
   have n7_ := Ad.mk ((by rw [hg]; exact Nat.ne_of_gt (qkl (by exact BK357.out)) : gb364 ≠ gb357))
   have n8_ := Ad.mk ((by rw [hg]; exact Nat.ne_of_lt (qkl (by exact BK358.out)) : gb358 ≠ gb364))
   have n9_ := Ad.mk ((by rw [hg]; exact Nat.ne_of_gt (qkl (by exact BK358.out)) : gb364 ≠ gb358))
   have z_NB364_363 := fun (h0_ : up b 5 4 = true) (h1_ : up b 5 5 = true) => (show gb364 ≠ gb363 from ((by rw [hg]; exact Nat.ne_of_gt (qkl (g := gb363) (o := .cells #[.int .i64 0, .int .i64 0] 30 (0, 0)) (by exact (Q_BK363 h0_ (hoff 6 (by kernel_rfl))))) : gb364 ≠ gb363)))
   have z_NB363_364 := fun (h0_ : up b 5 4 = true) (h1_ : up b 5 5 = true) => (show gb363 ≠ gb364 from ((by rw [hg]; exact Nat.ne_of_lt (qkl (g := gb363) (o := .cells #[.int .i64 0, .int .i64 0] 30 (0, 0)) (by exact (Q_BK363 h0_ (hoff 6 (by kernel_rfl))))) : gb363 ≠ gb364)))
   have z_BK363 := fun (h0_ : b 4 = true) (h1_ : b 6 = false) => (show w13.heap[gb363]? = some (.cells #[.int .i64 0, .int .i64 0] 30 (0, 0)) from by first | exact (qkb (g := gb363) (o := .cells #[.int .i64 0, .int .i64 0] 30 (0, 0)) (by exact (Q_BK363 h0_ h1_)) hb))
   clear BK357
   clear BK358
   clear HB
   have BK357 := n0_
   have BK358 := n1_
   have HB := n2_
   have BK364 := n3_
   have GW364 := n4_
   have GE364 := n5_
   have NB357_364 := n6_
   have NB364_357 := n7_
   have NB358_364 := n8_
   have NB364_358 := n9_
   clear n0_ n1_ n2_ n3_ n4_ n5_ n6_ n7_ n8_ n9_
   clear hb hbox hg
   refine hK.out _ _ ⟨gb363, gb364, m4_, (.pointer (some ⟨gb364, 0, none⟩)), (by rw [ha.out]; exact putSel_upk 5 hb_ rfl rfl rfl), (by exact BK357.out), (by exact BK358.out), (by repeat (first | (with_reducible first | exact HB.out | apply qbn | apply qb1) | exact HB.out)), z_NB364_363, z_NB363_364, z_BK363, Q_GW363, Q_GE363, Q_NB357_363, Q_NB363_357, Q_NB358_363, Q_NB363_358, fun _ _ => (by exact BK364.out), fun _ => GW364.out, fun _ => GE364.out, fun _ => NB357_364.out, fun _ => NB364_357.out, fun _ => NB358_364.out, fun _ => NB364_358.out, fun h0_ => absurd ((hoff 6 (by kernel_rfl)).symm.trans h0_) (by decide), fun h0_ => absurd ((hoff 7 (by kernel_rfl)).symm.trans h0_) (by decide), Q_X4_, fun _ => rfl⟩
  refine steps_cons ?_ ?_
  ·
   rintro b a w' ⟨gb363, gb364, m4_, m5_, ha, Q_BK357, Q_BK358, Q_HB, Q_NB364_363, Q_NB363_364, Q_BK363, Q_GW363, Q_GE363, Q_NB357_363, Q_NB363_357, Q_NB358_363, Q_NB363_358, Q_BK364, Q_GW364, Q_GE364, Q_NB357_364, Q_NB364_357, Q_NB358_364, Q_NB364_358, Q_BK363_e6, Q_BK364_e7, Q_X4_, Q_X5_⟩ hb_ hon hoff
   refine ⟨_, rfl, fun K hK => ?_⟩
   have e5 : a.tmps[5]? = some (m4_) := by rw [ha]; exact putSel_on (e := (4, 5, m4_)) 4 rfl rfl (hon 4 (by kernel_rfl)) rfl
   rw [Q_X4_ (hon 4 (by kernel_rfl))] at e5
   have e12 : a.tmps[12]? = some (.agg #[.int .i64 t359, .int .i64 t360]) := by rw [ha]; exact putSel_on (e := (1, 12, .agg #[.int .i64 t359, .int .i64 t360])) 1 rfl rfl (hon 1 (by kernel_rfl)) rfl
   replace ha := Ad.mk ha
   have BK357 := Ad.mk Q_BK357
   have BK358 := Ad.mk Q_BK358
   have HB := Ad.mk Q_HB
   have NB364_363 := Ad.mk (Q_NB364_363 (hon 4 (by kernel_rfl)) (hon 5 (by kernel_rfl)))
   have NB363_364 := Ad.mk (Q_NB363_364 (hon 4 (by kernel_rfl)) (hon 5 (by kernel_rfl)))
   have BK363 := Ad.mk (Q_BK363 (hon 4 (by kernel_rfl)) hb_)
   have GW363 := Ad.mk (Q_GW363 (hon 4 (by kernel_rfl)))
   have GE363 := Ad.mk (Q_GE363 (hon 4 (by kernel_rfl)))
   have NB357_363 := Ad.mk (Q_NB357_363 (hon 4 (by kernel_rfl)))
   have NB363_357 := Ad.mk (Q_NB363_357 (hon 4 (by kernel_rfl)))
   have NB358_363 := Ad.mk (Q_NB358_363 (hon 4 (by kernel_rfl)))
   have NB363_358 := Ad.mk (Q_NB363_358 (hon 4 (by kernel_rfl)))
   have BK364 := Ad.mk (Q_BK364 (hon 5 (by kernel_rfl)) (hoff 7 (by kernel_rfl)))
   have GW364 := Ad.mk (Q_GW364 (hon 5 (by kernel_rfl)))
   have GE364 := Ad.mk (Q_GE364 (hon 5 (by kernel_rfl)))
   have NB357_364 := Ad.mk (Q_NB357_364 (hon 5 (by kernel_rfl)))
   have NB364_357 := Ad.mk (Q_NB364_357 (hon 5 (by kernel_rfl)))
   have NB358_364 := Ad.mk (Q_NB358_364 (hon 5 (by kernel_rfl)))
   have NB364_358 := Ad.mk (Q_NB364_358 (hon 5 (by kernel_rfl)))
   have hs18 : w'.cell? ⟨gb363, 0, none⟩ = some (.int .i64 0) := (qkc BK363.out 0).trans rfl
   have hfs18 := qkz BK363.out 0
   have hns18_0 := NB357_363.out
   have hns18_1 := NB358_363.out
   have hns18_3 := NB364_363.out
   have hms18_0 := NB363_357.out
   have hms18_1 := NB363_358.out
   have hms18_3 := NB363_364.out
   have hs19 : w'.cell? ⟨gb363, 1, none⟩ = some (.int .i64 0) := (qkc BK363.out 1).trans rfl
   have hfs19 := qkz BK363.out 1
   have hns19_0 := NB357_363.out
   have hns19_1 := NB358_363.out
   have hns19_3 := NB364_363.out
   have hms19_0 := NB363_357.out
   have hms19_1 := NB363_358.out
   have hms19_3 := NB363_364.out
   refine skip_ (w1 := ?_) (by rfl) rfl ?_ ?_
   rotate_left
   ·
    go_simp
    rfl
   refine hK.out _ _ ⟨gb363, gb364, m4_, m5_, (by rw [ha.out]; exact putSel_none (v := undef) rfl), (by (iterate 2 ((with_reducible repeat (first | apply qkn | apply qkd)); refine qkf ?_ NB357_363.out _)); (with_reducible repeat (first | apply qkn | apply qkd)); exact BK357.out), (by (iterate 2 ((with_reducible repeat (first | apply qkn | apply qkd)); refine qkf ?_ NB358_363.out _)); (with_reducible repeat (first | apply qkn | apply qkd)); exact BK358.out), (by repeat (first | (with_reducible first | exact HB.out | apply qbn | apply qb1 | refine qbs ?_ GE363.out) | exact HB.out)), fun _ _ => NB364_363.out, fun _ _ => NB363_364.out, fun _ h1_ => absurd ((up_self b 6).symm.trans h1_) (by decide), fun _ => GW363.out, fun _ => GE363.out, fun _ => NB357_363.out, fun _ => NB363_357.out, fun _ => NB358_363.out, fun _ => NB363_358.out, fun _ _ => (by (iterate 2 ((with_reducible repeat (first | apply qkn | apply qkd)); refine qkf ?_ NB364_363.out _)); (with_reducible repeat (first | apply qkn | apply qkd)); exact BK364.out), fun _ => GW364.out, fun _ => GE364.out, fun _ => NB357_364.out, fun _ => NB364_357.out, fun _ => NB358_364.out, fun _ => NB364_358.out, fun _ => (by (with_reducible repeat (first | apply qkn | apply qkd)); refine qkp (cs := #[.int .i64 t359, .int .i64 0]) ?_ 1 _ rfl; (with_reducible repeat (first | apply qkn | apply qkd)); refine qkp (cs := #[.int .i64 0, .int .i64 0]) ?_ 0 _ rfl; (with_reducible repeat (first | apply qkn | apply qkd)); exact BK363.out), fun h0_ => absurd ((hoff 7 (by kernel_rfl)).symm.trans h0_) (by decide), Q_X4_, Q_X5_⟩
  refine steps_cons ?_ ?_
  ·
   rintro b a w' ⟨gb363, gb364, m4_, m5_, ha, Q_BK357, Q_BK358, Q_HB, Q_NB364_363, Q_NB363_364, Q_BK363, Q_GW363, Q_GE363, Q_NB357_363, Q_NB363_357, Q_NB358_363, Q_NB363_358, Q_BK364, Q_GW364, Q_GE364, Q_NB357_364, Q_NB364_357, Q_NB358_364, Q_NB364_358, Q_BK363_e6, Q_BK364_e7, Q_X4_, Q_X5_⟩ hb_ hon hoff
   refine ⟨_, rfl, fun K hK => ?_⟩
   have e6 : a.tmps[6]? = some (m5_) := by rw [ha]; exact putSel_on (e := (5, 6, m5_)) 5 rfl rfl (hon 5 (by kernel_rfl)) rfl
   rw [Q_X5_ (hon 5 (by kernel_rfl))] at e6
   have e14 : a.tmps[14]? = some (.agg #[.int .i64 t361, .int .i64 t362]) := by rw [ha]; exact putSel_on (e := (3, 14, .agg #[.int .i64 t361, .int .i64 t362])) 3 rfl rfl (hon 3 (by kernel_rfl)) rfl
   replace ha := Ad.mk ha
   have BK357 := Ad.mk Q_BK357
   have BK358 := Ad.mk Q_BK358
   have HB := Ad.mk Q_HB
   have NB364_363 := Ad.mk (Q_NB364_363 (hon 4 (by kernel_rfl)) (hon 5 (by kernel_rfl)))
   have NB363_364 := Ad.mk (Q_NB363_364 (hon 4 (by kernel_rfl)) (hon 5 (by kernel_rfl)))
   have GW363 := Ad.mk (Q_GW363 (hon 4 (by kernel_rfl)))
   have GE363 := Ad.mk (Q_GE363 (hon 4 (by kernel_rfl)))
   have NB357_363 := Ad.mk (Q_NB357_363 (hon 4 (by kernel_rfl)))
   have NB363_357 := Ad.mk (Q_NB363_357 (hon 4 (by kernel_rfl)))
   have NB358_363 := Ad.mk (Q_NB358_363 (hon 4 (by kernel_rfl)))
   have NB363_358 := Ad.mk (Q_NB363_358 (hon 4 (by kernel_rfl)))
   have BK364 := Ad.mk (Q_BK364 (hon 5 (by kernel_rfl)) hb_)
   have GW364 := Ad.mk (Q_GW364 (hon 5 (by kernel_rfl)))
   have GE364 := Ad.mk (Q_GE364 (hon 5 (by kernel_rfl)))
   have NB357_364 := Ad.mk (Q_NB357_364 (hon 5 (by kernel_rfl)))
   have NB364_357 := Ad.mk (Q_NB364_357 (hon 5 (by kernel_rfl)))
   have NB358_364 := Ad.mk (Q_NB358_364 (hon 5 (by kernel_rfl)))
   have NB364_358 := Ad.mk (Q_NB364_358 (hon 5 (by kernel_rfl)))
   have BK363 := Ad.mk (Q_BK363_e6 (hon 6 (by kernel_rfl)))
   have hs20 : w'.cell? ⟨gb364, 0, none⟩ = some (.int .i64 0) := (qkc BK364.out 0).trans rfl
   have hfs20 := qkz BK364.out 0
   have hns20_0 := NB357_364.out
   have hns20_1 := NB358_364.out
   have hns20_2 := NB363_364.out
   have hms20_0 := NB364_357.out
   have hms20_1 := NB364_358.out
   have hms20_2 := NB364_363.out
   have hs21 : w'.cell? ⟨gb364, 1, none⟩ = some (.int .i64 0) := (qkc BK364.out 1).trans rfl
   have hfs21 := qkz BK364.out 1
   have hns21_0 := NB357_364.out
   have hns21_1 := NB358_364.out
   have hns21_2 := NB363_364.out
   have hms21_0 := NB364_357.out
   have hms21_1 := NB364_358.out
   have hms21_2 := NB364_363.out
   refine skip_ (w1 := ?_) (by rfl) rfl ?_ ?_
   rotate_left
   ·
    go_simp
    rfl
   refine hK.out _ _ ⟨gb363, gb364, m4_, m5_, (by rw [ha.out]; exact putSel_none (v := undef) rfl), (by (iterate 2 ((with_reducible repeat (first | apply qkn | apply qkd)); refine qkf ?_ NB357_364.out _)); (with_reducible repeat (first | apply qkn | apply qkd)); exact BK357.out), (by (iterate 2 ((with_reducible repeat (first | apply qkn | apply qkd)); refine qkf ?_ NB358_364.out _)); (with_reducible repeat (first | apply qkn | apply qkd)); exact BK358.out), (by repeat (first | (with_reducible first | exact HB.out | apply qbn | apply qb1 | refine qbs ?_ GE364.out) | exact HB.out)), fun _ _ => NB364_363.out, fun _ _ => NB363_364.out, fun _ h1_ => absurd ((hon 6 (by kernel_rfl)).symm.trans h1_) (by decide), fun _ => GW363.out, fun _ => GE363.out, fun _ => NB357_363.out, fun _ => NB363_357.out, fun _ => NB358_363.out, fun _ => NB363_358.out, fun _ h1_ => absurd ((up_self b 7).symm.trans h1_) (by decide), fun _ => GW364.out, fun _ => GE364.out, fun _ => NB357_364.out, fun _ => NB364_357.out, fun _ => NB358_364.out, fun _ => NB364_358.out, fun _ => (by (iterate 2 ((with_reducible repeat (first | apply qkn | apply qkd)); refine qkf ?_ NB363_364.out _)); (with_reducible repeat (first | apply qkn | apply qkd)); exact BK363.out), fun _ => (by (with_reducible repeat (first | apply qkn | apply qkd)); refine qkp (cs := #[.int .i64 t361, .int .i64 0]) ?_ 1 _ rfl; (with_reducible repeat (first | apply qkn | apply qkd)); refine qkp (cs := #[.int .i64 0, .int .i64 0]) ?_ 0 _ rfl; (with_reducible repeat (first | apply qkn | apply qkd)); exact BK364.out), Q_X4_, Q_X5_⟩
  exact steps_nil
 rintro b a w21 hall ⟨gb363, gb364, m4_, m5_, ha, Q_BK357, Q_BK358, Q_HB, Q_NB364_363, Q_NB363_364, Q_BK363, Q_GW363, Q_GE363, Q_NB357_363, Q_NB363_357, Q_NB358_363, Q_NB363_358, Q_BK364, Q_GW364, Q_GE364, Q_NB357_364, Q_NB364_357, Q_NB358_364, Q_NB364_358, Q_BK363_e6, Q_BK364_e7, Q_X4_, Q_X5_⟩
 clear BK357 BK358 HB
 have hb0_ := hall 0 (by kernel_rfl)
 have hb1_ := hall 1 (by kernel_rfl)
 have hb2_ := hall 2 (by kernel_rfl)
 have hb3_ := hall 3 (by kernel_rfl)
 have hb4_ := hall 4 (by kernel_rfl)
 have hb5_ := hall 5 (by kernel_rfl)
 have hb6_ := hall 6 (by kernel_rfl)
 have hb7_ := hall 7 (by kernel_rfl)
 subst ha
 obtain rfl := Q_X4_ hb4_
 obtain rfl := Q_X5_ hb5_
 simp only [putSel, hb0_, hb1_, hb2_, hb3_, hb4_, hb5_, hb6_, hb7_, if_true, Act.put, List.setIfInBounds_toArray, List.set_cons_zero, List.set_cons_succ]
 have BK357 := Ad.mk Q_BK357
 clear Q_BK357
 have BK358 := Ad.mk Q_BK358
 clear Q_BK358
 have HB := Ad.mk Q_HB
 clear Q_HB
 have NB364_363 := Ad.mk (Q_NB364_363 hb4_ hb5_)
 clear Q_NB364_363
 have NB363_364 := Ad.mk (Q_NB363_364 hb4_ hb5_)
 clear Q_NB363_364
 clear Q_BK363
 have GW363 := Ad.mk (Q_GW363 hb4_)
 clear Q_GW363
 have GE363 := Ad.mk (Q_GE363 hb4_)
 clear Q_GE363
 have NB357_363 := Ad.mk (Q_NB357_363 hb4_)
 clear Q_NB357_363
 have NB363_357 := Ad.mk (Q_NB363_357 hb4_)
 clear Q_NB363_357
 have NB358_363 := Ad.mk (Q_NB358_363 hb4_)
 clear Q_NB358_363
 have NB363_358 := Ad.mk (Q_NB363_358 hb4_)
 clear Q_NB363_358
 clear Q_BK364
 have GW364 := Ad.mk (Q_GW364 hb5_)
 clear Q_GW364
 have GE364 := Ad.mk (Q_GE364 hb5_)
 clear Q_GE364
 have NB357_364 := Ad.mk (Q_NB357_364 hb5_)
 clear Q_NB357_364
 have NB364_357 := Ad.mk (Q_NB364_357 hb5_)
 clear Q_NB364_357
 have NB358_364 := Ad.mk (Q_NB358_364 hb5_)
 clear Q_NB358_364
 have NB364_358 := Ad.mk (Q_NB364_358 hb5_)
 clear Q_NB364_358
 have BK363 := Ad.mk (Q_BK363_e6 hb6_)
 clear Q_BK363_e6
 have BK364 := Ad.mk (Q_BK364_e7 hb7_)
 clear Q_BK364_e7
 clear hall hb0_ hb1_ hb2_ hb3_ hb4_ hb5_ hb6_ hb7_
 have hnb22 := NB363_357.out
 have hnc22 := NB357_363.out
 have hnb23 := NB363_358.out
 have hnc23 := NB358_363.out
 have hnb24 := NB363_364.out
 have hnc24 := NB364_363.out
 have hcz25_0 : w21.cell? ⟨gb363, 0, none⟩ = some (.int .i64 t359) := (qkc BK363.out 0).trans rfl
 have hcz25_1 : w21.cell? ⟨gb363, 1, none⟩ = some (.int .i64 t360) := (qkc BK363.out 1).trans rfl
 have hfz25_0 := qkz BK363.out 0
 have hfz25_1 := qkz BK363.out 1
 have hnb26 := NB364_357.out
 have hnc26 := NB357_364.out
 have hnb27 := NB364_358.out
 have hnc27 := NB358_364.out
 have hcz28_0 : w21.cell? ⟨gb364, 0, none⟩ = some (.int .i64 t361) := (qkc BK364.out 0).trans rfl
 have hcz28_1 : w21.cell? ⟨gb364, 1, none⟩ = some (.int .i64 t362) := (qkc BK364.out 1).trans rfl
 have hfz28_0 := qkz BK364.out 0
 have hfz28_1 := qkz BK364.out 1
 try go_wp2_with (first | ((with_reducible refine qgc (f := 138) rfl ?_); refine goesL_ (some 22) rfl rfl Tryd.func138 (by kernel_rfl) rfl #[.int .u64 (IntKind.u64.wrap (t359)), .int .u64 (IntKind.u64.wrap (t362))] rfl (by (try simp only [List.map_toArray, List.map_cons, List.map_nil]); first | done | rfl) ?_; (with_reducible refine (bits_Mul64.calls (IntKind.u64.wrap (t359)) (IntKind.u64.wrap (t362)) t365 t366 _ A5.out).mono ?_); rintro e w' ⟨rfl, ⟨nd, rfl⟩⟩; refine ⟨_, rfl, ?_⟩) | ((with_reducible refine qgc (f := 138) rfl ?_); refine goesL_ (some 32) rfl rfl Tryd.func138 (by kernel_rfl) rfl #[.int .u64 (IntKind.u64.wrap (t361)), .int .u64 (IntKind.u64.wrap (t360))] rfl (by (try simp only [List.map_toArray, List.map_cons, List.map_nil]); first | done | rfl) ?_; (with_reducible refine (bits_Mul64.calls (IntKind.u64.wrap (t361)) (IntKind.u64.wrap (t360)) t367 t368 _ A6.out).mono ?_); rintro e w' ⟨rfl, ⟨nd, rfl⟩⟩; refine ⟨_, rfl, ?_⟩) | ((with_reducible refine qgc (f := 139) rfl ?_); refine goesL_ (some 37) rfl rfl Tryd.func139 (by kernel_rfl) rfl #[.int .u64 t365, .int .u64 t367] rfl (by (try simp only [List.map_toArray, List.map_cons, List.map_nil]); first | done | rfl) ?_; (with_reducible refine (cmp_Compare_uint64.calls t365 t367 t369 _ A7.out).mono ?_); rintro e w' ⟨rfl, ⟨nd, rfl⟩⟩; refine ⟨_, rfl, ?_⟩) | ((with_reducible refine qgc (f := 139) rfl ?_); refine goesL_ (some 40) rfl rfl Tryd.func139 (by kernel_rfl) rfl #[.int .u64 t366, .int .u64 t368] rfl (by (try simp only [List.map_toArray, List.map_cons, List.map_nil]); first | done | rfl) ?_; (with_reducible refine (cmp_Compare_uint64.calls t366 t368 t370 _ A8.out).mono ?_); rintro e w' ⟨rfl, ⟨nd, rfl⟩⟩; refine ⟨_, rfl, ?_⟩) | ((with_reducible refine qgd (N := 41) rfl ?_); refine Kd.R_lit (Kd.int .i64) _ 3 ?hg (N := 41) ?hd (xs := ([t369, t370] : List Int)) (inner := [.int .i64 t369, .int .i64 t370]) (ok := fun _ => True) (okp := fun _ => True) ?hr ?hp (fun _ hk => hk) trivial (Below.refl _ _) (Nat.le_refl _) (by simp) ?_; (case hd => rfl); (case hg => rfl); (case hr => first | (go_simp; done) | (go_simp; rfl)); (case hp => exact (Reps.one (show Kd.M (Kd.int .i64) _ _ _ t369 [.int .i64 t369] from rfl) (Reps.one (show Kd.M (Kd.int .i64) _ _ _ t370 [.int .i64 t370] from rfl) (Reps.none _ _)))); intro v372 w29 ho30 hb hg_ hnew_; clear hg_ hnew_; (first | rw [← Ny371.out] at ho30 | (simp only [Int.reduceToNat] at ho30; rw [← Ny371.out] at ho30)); have HO373 := Ad.mk (Kd.R_lower ho30 (qbz (by repeat (first | (with_reducible first | exact HB.out | apply qbn | apply qb1) | exact HB.out)))); replace BK357 := Ad.mk (qkb (by exact BK357.out) hb); replace BK358 := Ad.mk (qkb (by exact BK358.out) hb); replace BK363 := Ad.mk (qkb (by exact BK363.out) hb); replace BK364 := Ad.mk (qkb (by exact BK364.out) hb); replace HB := Ad.mk (qbt (by repeat (first | (with_reducible first | exact HB.out | apply qbn | apply qb1) | exact HB.out)) hb); clear hb ho30; obtain ⟨Ao31, co31, eo31⟩ := Kd.R_slice HO373.out; subst eo31) | ((with_reducible refine qgc (f := 91) rfl ?_); refine goesL_ (some 42) rfl rfl Tryd.func91 (by kernel_rfl) rfl #[.slice Ao31 y371.length co31] rfl (by (try simp only [List.map_toArray, List.map_cons, List.map_nil]); first | done | rfl | (simp only [List.length_drop, List.length_take]; rfl)) ?_; (with_reducible refine (cmp_Or_int.calls k _ _ y371 t374 _ ?side1 ?side2 A9.out).mono ?_); (case side1 => repeat (first | exact (Kd.R_reads' HO373.out).2.2 | (with_reducible refine Kd.C_alloc ?_ _) | (with_reducible refine Kd.C_drewN ?_ _) | (with_reducible refine Kd.C_drew ?_))); (case side2 => exact (Kd.R_reads' HO373.out).2.1); rintro e w' ⟨rfl, ⟨nd, rfl⟩⟩; refine ⟨_, rfl, ?_⟩))
 go_ret
 exact ⟨by first | rfl | (simp [errW_none, errW_some] <;> rfl) | (simp [*, errW_none, errW_some] <;> rfl), by repeat (first | (with_reducible first | exact HB.out | apply qbn | apply qb1) | exact HB.out)⟩

/-! ### gleeref1_ComparedOf: function 28 -/
def gleeref1_ComparedOf.f (k : Nat) (a0_0 : Int) (a0_1 : Int) (a0_2 : Int) (a0_3 : Int) (a1_0 : Int) (a1_1 : Int) (a1_2 : Int) (a1_3 : Int) : Option (Int) := (gleeref1_byHeight.f k a0_0 a0_1 a0_2 a0_3 a1_0 a1_1 a1_2 a1_3).bind fun t377 => (some t377)
theorem gleeref1_ComparedOf.mono : ∀ a0 a1 a2 a3 a4 a5 a6 a7 k, LeO (gleeref1_ComparedOf.f k a0 a1 a2 a3 a4 a5 a6 a7) (gleeref1_ComparedOf.f (k + 1) a0 a1 a2 a3 a4 a5 a6 a7) := by
 intro a0 a1 a2 a3 a4 a5 a6 a7 k
 unfold gleeref1_ComparedOf.f
 repeat' first
   | (with_reducible exact gleeref1_byHeight.mono _ _ _ _ _ _ _ _ _)
   | (with_reducible exact LeO.refl _)
   | (with_reducible exact LeO.none _)
   | (with_reducible refine LeO.ite ?_ ?_)
   | (with_reducible refine LeO.bind ?_ (fun _ => ?_))
   | exact gleeref1_byHeight.mono _ _ _ _ _ _ _ _ _
   | exact LeO.none _
   | refine LeO.ite ?_ ?_
   | refine LeO.bind ?_ (fun _ => ?_)
set_option maxHeartbeats 8000000 in
set_option maxRecDepth 100000 in
theorem gleeref1_ComparedOf.calls (k : Nat) (a0_0 : Int) (a0_1 : Int) (a0_2 : Int) (a0_3 : Int) (a1_0 : Int) (a1_1 : Int) (a1_2 : Int) (a1_3 : Int) (r : Int) (w : World) (h : gleeref1_ComparedOf.f k a0_0 a0_1 a0_2 a0_3 a1_0 a1_1 a1_2 a1_3 = some r) :
  Calls Tryd.prog 28 #[.agg #[.int .i64 a0_0, .int .i64 a0_1, .int .i64 a0_2, .int .i64 a0_3], .agg #[.int .i64 a1_0, .int .i64 a1_1, .int .i64 a1_2, .int .i64 a1_3]] w fun e w' => e = .returned (.int .i64 r) ∧ Below w.heap.size w w' := by
 have hu27 := Tryd.underlying27
 have HB := Ad.mk (Below.refl w.heap.size w)
 have H : ((gleeref1_byHeight.f k a0_0 a0_1 a0_2 a0_3 a1_0 a1_1 a1_2 a1_3).bind fun t377 => (some t377)) = some r := h
 clear h
 replace H := Option.bind_eq_some_iff.mp H
 obtain ⟨t377, A30, H⟩ := H
 replace H : (some t377) = some r := H
 have A3 := Ad.mk A30
 clear A30
 obtain rfl := Option.some.inj H
 go_enter Tryd.func28, Tryd.ntmps28
 go_wp2_with (first | ((with_reducible refine qgd (N := 2) rfl ?_); refine qbe ?hg (N := 2) ?hd (cs := #[.int .i64 a0_0, .int .i64 a0_1, .int .i64 a0_2, .int .i64 a0_3]) (t := 27) ?hr ?_; (case hd => rfl); (case hg => rfl); (case hr => first | (go_simp; done) | (go_simp; rfl)); intro gb375 hg w4 hbox hb; have BK375 := Ad.mk (hbox); have GW375 := Ad.mk ((by rw [hg]; exact (qbz (by repeat (first | (with_reducible first | exact HB.out | apply qba | apply qbn | apply qb1) | exact HB.out))) : w.heap.size ≤ gb375)); have GE375 := Ad.mk ((by rw [hg]; exact (qbz (by repeat (first | (with_reducible first | exact HB.out | apply qba | apply qbn | apply qb1) | exact HB.out))) : w.heap.size ≤ gb375)); replace HB := Ad.mk (qbt (by repeat (first | (with_reducible first | exact HB.out | apply qba | apply qbn | apply qb1) | exact HB.out)) hb); clear hb hbox hg) | ((with_reducible refine qgd (N := 3) rfl ?_); refine qbe ?hg (N := 3) ?hd (cs := #[.int .i64 a1_0, .int .i64 a1_1, .int .i64 a1_2, .int .i64 a1_3]) (t := 27) ?hr ?_; (case hd => rfl); (case hg => rfl); (case hr => first | (go_simp; done) | (go_simp; rfl)); intro gb376 hg w5 hbox hb; have BK376 := Ad.mk (hbox); have GW376 := Ad.mk ((by rw [hg]; exact (qbz (by repeat (first | (with_reducible first | exact HB.out | apply qba | apply qbn | apply qb1 | refine qbs ?_ GE375.out) | exact HB.out))) : w.heap.size ≤ gb376)); have GE376 := Ad.mk ((by rw [hg]; exact (qbz (by repeat (first | (with_reducible first | exact HB.out | apply qba | apply qbn | apply qb1 | refine qbs ?_ GE375.out) | exact HB.out))) : w.heap.size ≤ gb376)); have NB375_376 := Ad.mk ((by rw [hg]; exact Nat.ne_of_lt (qkl (g := gb375) (o := .cells #[.int .i64 a0_0, .int .i64 a0_1, .int .i64 a0_2, .int .i64 a0_3] 27 (0, 0)) (by (with_reducible repeat (first | apply qkn | apply qkd | apply qka)); exact BK375.out)) : gb375 ≠ gb376)); have NB376_375 := Ad.mk ((by rw [hg]; exact Nat.ne_of_gt (qkl (g := gb375) (o := .cells #[.int .i64 a0_0, .int .i64 a0_1, .int .i64 a0_2, .int .i64 a0_3] 27 (0, 0)) (by (with_reducible repeat (first | apply qkn | apply qkd | apply qka)); exact BK375.out)) : gb376 ≠ gb375)); replace BK375 := Ad.mk (qkb (g := gb375) (o := .cells #[.int .i64 a0_0, .int .i64 a0_1, .int .i64 a0_2, .int .i64 a0_3] 27 (0, 0)) (by (with_reducible repeat (first | apply qkn | apply qkd | apply qka)); exact BK375.out) hb); replace HB := Ad.mk (qbt (by repeat (first | (with_reducible first | exact HB.out | apply qba | apply qbn | apply qb1 | refine qbs ?_ GE375.out) | exact HB.out)) hb); clear hb hbox hg; have hnb6 := NB375_376.out; have hnc6 := NB376_375.out; have hcz7_0 : w5.cell? ⟨gb375, 0, none⟩ = some (.int .i64 a0_0) := (qkc BK375.out 0).trans rfl; have hcz7_1 : w5.cell? ⟨gb375, 1, none⟩ = some (.int .i64 a0_1) := (qkc BK375.out 1).trans rfl; have hcz7_2 : w5.cell? ⟨gb375, 2, none⟩ = some (.int .i64 a0_2) := (qkc BK375.out 2).trans rfl; have hcz7_3 : w5.cell? ⟨gb375, 3, none⟩ = some (.int .i64 a0_3) := (qkc BK375.out 3).trans rfl; have hfz7_0 := qkz BK375.out 0; have hfz7_1 := qkz BK375.out 1; have hfz7_2 := qkz BK375.out 2; have hfz7_3 := qkz BK375.out 3; have hcz8_0 : w5.cell? ⟨gb376, 0, none⟩ = some (.int .i64 a1_0) := (qkc BK376.out 0).trans rfl; have hcz8_1 : w5.cell? ⟨gb376, 1, none⟩ = some (.int .i64 a1_1) := (qkc BK376.out 1).trans rfl; have hcz8_2 : w5.cell? ⟨gb376, 2, none⟩ = some (.int .i64 a1_2) := (qkc BK376.out 2).trans rfl; have hcz8_3 : w5.cell? ⟨gb376, 3, none⟩ = some (.int .i64 a1_3) := (qkc BK376.out 3).trans rfl; have hfz8_0 := qkz BK376.out 0; have hfz8_1 := qkz BK376.out 1; have hfz8_2 := qkz BK376.out 2; have hfz8_3 := qkz BK376.out 3) | ((with_reducible refine qgc (f := 88) rfl ?_); refine goesL_ (some 7) rfl rfl Tryd.func88 (by kernel_rfl) rfl #[.agg #[.int .i64 a0_0, .int .i64 a0_1, .int .i64 a0_2, .int .i64 a0_3], .agg #[.int .i64 a1_0, .int .i64 a1_1, .int .i64 a1_2, .int .i64 a1_3]] rfl (by (try simp only [List.map_toArray, List.map_cons, List.map_nil]); first | done | rfl) ?_; (with_reducible refine (gleeref1_byHeight.calls k a0_0 a0_1 a0_2 a0_3 a1_0 a1_1 a1_2 a1_3 t377 _ A3.out).mono ?_); rintro e w9 ⟨rfl, hb⟩; refine ⟨_, rfl, ?_⟩; replace BK375 := Ad.mk (qkb (g := gb375) (o := .cells #[.int .i64 a0_0, .int .i64 a0_1, .int .i64 a0_2, .int .i64 a0_3] 27 (0, 0)) (by (with_reducible repeat (first | apply qkn | apply qkd | apply qka)); exact BK375.out) hb); replace BK376 := Ad.mk (qkb (g := gb376) (o := .cells #[.int .i64 a1_0, .int .i64 a1_1, .int .i64 a1_2, .int .i64 a1_3] 27 (0, 0)) (by (with_reducible repeat (first | apply qkn | apply qkd | apply qka)); exact BK376.out) hb); replace HB := Ad.mk (qbt (by repeat (first | (with_reducible first | exact HB.out | apply qba | apply qbn | apply qb1 | refine qbs ?_ GE375.out | refine qbs ?_ GE376.out) | exact HB.out)) hb); (try clear hb)))
 go_ret
 exact ⟨by first | rfl | (simp [errW_none, errW_some] <;> rfl) | (simp [*, errW_none, errW_some] <;> rfl), by repeat (first | (with_reducible first | exact HB.out | apply qba | apply qbn | apply qb1 | refine qbs ?_ GE375.out | refine qbs ?_ GE376.out) | exact HB.out)⟩

end Go.Proofs.YtdagocpgefjmdaaDoor.PIntervalsCounted
