-- Made by gleeprint (a program of this session, over the kit's print): function by function out of the translation.
import Derived.BigQuiet
import Derived.Deep.QuietTactic
import Derived.Deep.RegionWith
import Derived.Maps.AppendAt
import Derived.Test.YtdagocpgefjmdaaDoorShelf
import Derived.Test.YtdagocpgefjmdaaDoorShelfB
import Derived.WideMake
import Derived.Test.YtdagocpgefjmdaaDoorPWithinIsWithinx0
import Derived.Test.YtdagocpgefjmdaaDoorPWithinIsWithinx1
import Derived.Test.YtdagocpgefjmdaaDoorPWithinIsWithinx2
import Derived.Test.YtdagocpgefjmdaaDoorPWithinIsWithinx4
import Derived.Test.YtdagocpgefjmdaaDoorPWithinIsWithinx5
namespace Go.Proofs.YtdagocpgefjmdaaDoor.PWithinIsWithin
open Go.RowKit Go.Proofs.YtdagocpgefjmdaaDoorW.PrintWords Go.Proofs.YtdagocpgefjmdaaDoorW.PrintLast Go.Proofs.YtdagocpgefjmdaaDoorW.PrintMore
attribute [local go_sem] max2_int min2_int max_two min_two max_three min_three max_four min_four   -- for this text's walks alone
set_option linter.unusedVariables false
set_option linter.unusedSimpArgs false

attribute [local go_sem high] eqA27
/-! ### voice_Comfort: function 72 -/
def voice_Comfort.f (a0_0 : Int) (a0_1 : Int) (a1_0 : Int) (a1_1 : Int) : Option (Int × Bool × Int) := (voice_isRight.f a0_0 a0_1).bind fun t201 => (if t201 = true then ((voice_isRight.f a1_0 a1_1).bind fun t202 => (if t202 = true then ((voice_comfort.f a0_0 a0_1 a1_0 a1_1).bind fun t203 => (some (mx t203 0, decide (t203 ≥ 0), 0))) else (some (0, false, 1)))) else (some (0, false, 1)))
set_option maxHeartbeats 8000000 in
set_option maxRecDepth 100000 in
theorem voice_Comfort.calls (a0_0 : Int) (a0_1 : Int) (a1_0 : Int) (a1_1 : Int) (r1 : Int) (r2 : Bool) (r3 : Int) (w : World) (h : voice_Comfort.f a0_0 a0_1 a1_0 a1_1 = some (r1, r2, r3)) :
  Calls Tryd.prog 72 #[.agg #[.int .i64 a0_0, .int .i64 a0_1], .agg #[.int .i64 a1_0, .int .i64 a1_1]] w fun e w' => e = .returned (.tuple #[.int .i64 r1, .bool r2, .int .i64 r3]) ∧ Below w.heap.size w w' := by
 have hu110 := Tryd.underlying110
 have HB := Aside0.mk (Below.refl w.heap.size w)
 have H : ((voice_isRight.f a0_0 a0_1).bind fun t201 => (if t201 = true then ((voice_isRight.f a1_0 a1_1).bind fun t202 => (if t202 = true then ((voice_comfort.f a0_0 a0_1 a1_0 a1_1).bind fun t203 => (some (mx t203 0, decide (t203 ≥ 0), 0))) else (some (0, false, 1)))) else (some (0, false, 1)))) = some (r1, r2, r3) := h
 clear h
 replace H := Option.bind_eq_some_iff.mp H
 obtain ⟨t201, A30, H⟩ := H
 replace H : (if t201 = true then ((voice_isRight.f a1_0 a1_1).bind fun t202 => (if t202 = true then ((voice_comfort.f a0_0 a0_1 a1_0 a1_1).bind fun t203 => (some (mx t203 0, decide (t203 ≥ 0), 0))) else (some (0, false, 1)))) else (some (0, false, 1))) = some (r1, r2, r3) := H
 have A3 := Aside0.mk A30
 clear A30
 by_cases c4 : t201 = true
 ·
  subst c4
  have H1 : ((voice_isRight.f a1_0 a1_1).bind fun t202 => (if t202 = true then ((voice_comfort.f a0_0 a0_1 a1_0 a1_1).bind fun t203 => (some (mx t203 0, decide (t203 ≥ 0), 0))) else (some (0, false, 1)))) = some (r1, r2, r3) := by rw [if_pos rfl] at H; exact H
  clear H
  have H := H1
  clear H1
  replace H := Option.bind_eq_some_iff.mp H
  obtain ⟨t202, A50, H⟩ := H
  replace H : (if t202 = true then ((voice_comfort.f a0_0 a0_1 a1_0 a1_1).bind fun t203 => (some (mx t203 0, decide (t203 ≥ 0), 0))) else (some (0, false, 1))) = some (r1, r2, r3) := H
  have A5 := Aside0.mk A50
  clear A50
  by_cases c6 : t202 = true
  ·
   subst c6
   have H1 : ((voice_comfort.f a0_0 a0_1 a1_0 a1_1).bind fun t203 => (some (mx t203 0, decide (t203 ≥ 0), 0))) = some (r1, r2, r3) := by rw [if_pos rfl] at H; exact H
   clear H
   have H := H1
   clear H1
   replace H := Option.bind_eq_some_iff.mp H
   obtain ⟨t203, A70, H⟩ := H
   replace H : (some (mx t203 0, decide (t203 ≥ 0), 0)) = some (r1, r2, r3) := H
   have A7 := Aside0.mk A70
   clear A70
   obtain ⟨ji8, hji8⟩ : ∃ j_ : Int, (mx t203 0) = j_ := ⟨_, rfl⟩
   replace H : (some (ji8, decide (t203 ≥ 0), 0)) = some (r1, r2, r3) := by first | (rw [hji8] at H; exact H) | (simp only [hji8] at H ⊢; exact H)
   (try rw [hji8] at A3)
   (try rw [hji8] at A5)
   (try rw [hji8] at A7)
   (try (have hji8l : 0 ≤ ji8 := by (rw [← hji8]; unfold mx; (repeat' split) <;> omega)))
   (try (have hji8m : 0 ≤ ji8 := by omega))
   have hji8_ : (if t203 < 0 then 0 else t203) = ji8 := hji8
   simp only [Option.some.injEq, Prod.mk.injEq] at H
   obtain ⟨rfl, rfl, rfl⟩ := H
   go_enter Tryd.func72, Tryd.ntmps72
   go_wp2_with (first | ((with_reducible refine gate_dst (N := 2) rfl ?_); refine box_event ?hg (N := 2) ?hd (cs := #[.int .i64 a0_0, .int .i64 a0_1]) (t := 110) ?hr ?_; (case hd => rfl); (case hg => rfl); (case hr => first | (go_simp; done) | (go_simp; rfl)); intro gb199 hg w9 hbox hb; have n0_ := Aside0.mk (below_step (by repeat (first | (with_reducible first | exact HB.out | apply below_alloc | apply pw_below_drewN | apply below_drew1) | exact HB.out)) hb); have n1_ := Aside0.mk (hbox); have n2_ := Aside0.mk ((by rw [hg]; exact (below_size (by repeat (first | (with_reducible first | exact HB.out | apply below_alloc | apply pw_below_drewN | apply below_drew1) | exact HB.out))) : w.heap.size ≤ gb199)); have n3_ := Aside0.mk ((by rw [hg]; exact (below_size (by repeat (first | (with_reducible first | exact HB.out | apply below_alloc | apply pw_below_drewN | apply below_drew1) | exact HB.out))) : w.heap.size ≤ gb199)); clear HB; have HB := n0_; have BK199 := n1_; have GW199 := n2_; have GE199 := n3_; clear n0_ n1_ n2_ n3_; clear hb hbox hg) | ((with_reducible refine gate_dst (N := 3) rfl ?_); refine box_event ?hg (N := 3) ?hd (cs := #[.int .i64 a1_0, .int .i64 a1_1]) (t := 110) ?hr ?_; (case hd => rfl); (case hg => rfl); (case hr => first | (go_simp; done) | (go_simp; rfl)); intro gb200 hg w10 hbox hb; have n0_ := Aside0.mk (blk_below (g := gb199) (o := .cells #[.int .i64 a0_0, .int .i64 a0_1] 110 (0, 0)) (by (with_reducible repeat (first | refine blk_drewN ?_ _ | refine blk_drew ?_ | refine blk_alloc ?_ _)); exact BK199.out) hb); have n1_ := Aside0.mk (below_step (by repeat (first | (with_reducible first | exact HB.out | apply below_alloc | apply pw_below_drewN | apply below_drew1 | refine below_set ?_ GE199.out) | exact HB.out)) hb); have n2_ := Aside0.mk (hbox); have n3_ := Aside0.mk ((by rw [hg]; exact (below_size (by repeat (first | (with_reducible first | exact HB.out | apply below_alloc | apply pw_below_drewN | apply below_drew1 | refine below_set ?_ GE199.out) | exact HB.out))) : w.heap.size ≤ gb200)); have n4_ := Aside0.mk ((by rw [hg]; exact (below_size (by repeat (first | (with_reducible first | exact HB.out | apply below_alloc | apply pw_below_drewN | apply below_drew1 | refine below_set ?_ GE199.out) | exact HB.out))) : w.heap.size ≤ gb200)); have n5_ := Aside0.mk ((by rw [hg]; exact Nat.ne_of_lt (blk_lt (g := gb199) (o := .cells #[.int .i64 a0_0, .int .i64 a0_1] 110 (0, 0)) (by (with_reducible repeat (first | refine blk_drewN ?_ _ | refine blk_drew ?_ | refine blk_alloc ?_ _)); exact BK199.out)) : gb199 ≠ gb200)); have n6_ := Aside0.mk ((by rw [hg]; exact Nat.ne_of_gt (blk_lt (g := gb199) (o := .cells #[.int .i64 a0_0, .int .i64 a0_1] 110 (0, 0)) (by (with_reducible repeat (first | refine blk_drewN ?_ _ | refine blk_drew ?_ | refine blk_alloc ?_ _)); exact BK199.out)) : gb200 ≠ gb199)); clear BK199; clear HB; have BK199 := n0_; have HB := n1_; have BK200 := n2_; have GW200 := n3_; have GE200 := n4_; have NB199_200 := n5_; have NB200_199 := n6_; clear n0_ n1_ n2_ n3_ n4_ n5_ n6_; clear hb hbox hg; have hnb11 := NB199_200.out; have hnc11 := NB200_199.out; have hcz12_0 : w10.cell? ⟨gb199, 0, none⟩ = some (.int .i64 a0_0) := (blk_cell BK199.out 0).trans rfl; have hcz12_1 : w10.cell? ⟨gb199, 1, none⟩ = some (.int .i64 a0_1) := (blk_cell BK199.out 1).trans rfl; have hfz12_0 := blk_frozen BK199.out 0; have hfz12_1 := blk_frozen BK199.out 1) | ((with_reducible refine gate_callee (f := 136) rfl ?_); refine goesL_ (some 9) rfl rfl Tryd.func136 (by kernel_rfl) rfl #[.agg #[.int .i64 a0_0, .int .i64 a0_1]] rfl (by (try simp only [List.map_toArray, List.map_cons, List.map_nil]); first | done | rfl | (simp only [List.length_drop, List.length_take]; rfl)) ?_; (with_reducible refine (voice_isRight.calls a0_0 a0_1 true _ A3.out).mono ?_); rintro e w13 ⟨rfl, hb⟩; refine ⟨_, rfl, ?_⟩; have n0_ := Aside0.mk (blk_below (g := gb199) (o := .cells #[.int .i64 a0_0, .int .i64 a0_1] 110 (0, 0)) (by (with_reducible repeat (first | refine blk_drewN ?_ _ | refine blk_drew ?_ | refine blk_alloc ?_ _)); exact BK199.out) hb); have n1_ := Aside0.mk (blk_below (g := gb200) (o := .cells #[.int .i64 a1_0, .int .i64 a1_1] 110 (0, 0)) (by (with_reducible repeat (first | refine blk_drewN ?_ _ | refine blk_drew ?_ | refine blk_alloc ?_ _)); exact BK200.out) hb); have n2_ := Aside0.mk (below_step (by repeat (first | (with_reducible first | exact HB.out | apply below_alloc | apply pw_below_drewN | apply below_drew1 | refine below_set ?_ GE199.out | refine below_set ?_ GE200.out) | exact HB.out)) hb); clear BK199; clear BK200; clear HB; have BK199 := n0_; have BK200 := n1_; have HB := n2_; clear n0_ n1_ n2_; (try clear hb); (try clear hb2); (try clear hk); (try clear hi); have hcz14_0 : w13.cell? ⟨gb200, 0, none⟩ = some (.int .i64 a1_0) := (blk_cell BK200.out 0).trans rfl; have hcz14_1 : w13.cell? ⟨gb200, 1, none⟩ = some (.int .i64 a1_1) := (blk_cell BK200.out 1).trans rfl; have hfz14_0 := blk_frozen BK200.out 0; have hfz14_1 := blk_frozen BK200.out 1) | (go_at_call 136; (with_reducible refine (voice_isRight.calls a1_0 a1_1 true _ A5.out).mono ?_); rintro e w15 ⟨rfl, hb⟩; have n0_ := Aside0.mk (blk_below (g := gb199) (o := .cells #[.int .i64 a0_0, .int .i64 a0_1] 110 (0, 0)) (by (with_reducible repeat (first | refine blk_drewN ?_ _ | refine blk_drew ?_ | refine blk_alloc ?_ _)); exact BK199.out) hb); have n1_ := Aside0.mk (blk_below (g := gb200) (o := .cells #[.int .i64 a1_0, .int .i64 a1_1] 110 (0, 0)) (by (with_reducible repeat (first | refine blk_drewN ?_ _ | refine blk_drew ?_ | refine blk_alloc ?_ _)); exact BK200.out) hb); have n2_ := Aside0.mk (below_step (by repeat (first | (with_reducible first | exact HB.out | apply below_alloc | apply pw_below_drewN | apply below_drew1 | refine below_set ?_ GE199.out | refine below_set ?_ GE200.out) | exact HB.out)) hb); clear BK199; clear BK200; clear HB; have BK199 := n0_; have BK200 := n1_; have HB := n2_; clear n0_ n1_ n2_; (try clear hb); (try clear hb2); (try clear hk); (try clear hi); have hcz16_0 : w15.cell? ⟨gb199, 0, none⟩ = some (.int .i64 a0_0) := (blk_cell BK199.out 0).trans rfl; have hcz16_1 : w15.cell? ⟨gb199, 1, none⟩ = some (.int .i64 a0_1) := (blk_cell BK199.out 1).trans rfl; have hfz16_0 := blk_frozen BK199.out 0; have hfz16_1 := blk_frozen BK199.out 1; have hcz17_0 : w15.cell? ⟨gb200, 0, none⟩ = some (.int .i64 a1_0) := (blk_cell BK200.out 0).trans rfl; have hcz17_1 : w15.cell? ⟨gb200, 1, none⟩ = some (.int .i64 a1_1) := (blk_cell BK200.out 1).trans rfl; have hfz17_0 := blk_frozen BK200.out 0; have hfz17_1 := blk_frozen BK200.out 1) | ((with_reducible refine gate_callee (f := 137) rfl ?_); refine goesL_ (some 18) rfl rfl Tryd.func137 (by kernel_rfl) rfl #[.agg #[.int .i64 a0_0, .int .i64 a0_1], .agg #[.int .i64 a1_0, .int .i64 a1_1]] rfl (by (try simp only [List.map_toArray, List.map_cons, List.map_nil]); first | done | rfl | (simp only [List.length_drop, List.length_take]; rfl)) ?_; (with_reducible refine (voice_comfort.calls a0_0 a0_1 a1_0 a1_1 t203 _ A7.out).mono ?_); rintro e w18 ⟨rfl, hb⟩; refine ⟨_, rfl, ?_⟩; have n0_ := Aside0.mk (blk_below (g := gb199) (o := .cells #[.int .i64 a0_0, .int .i64 a0_1] 110 (0, 0)) (by (with_reducible repeat (first | refine blk_drewN ?_ _ | refine blk_drew ?_ | refine blk_alloc ?_ _)); exact BK199.out) hb); have n1_ := Aside0.mk (blk_below (g := gb200) (o := .cells #[.int .i64 a1_0, .int .i64 a1_1] 110 (0, 0)) (by (with_reducible repeat (first | refine blk_drewN ?_ _ | refine blk_drew ?_ | refine blk_alloc ?_ _)); exact BK200.out) hb); have n2_ := Aside0.mk (below_step (by repeat (first | (with_reducible first | exact HB.out | apply below_alloc | apply pw_below_drewN | apply below_drew1 | refine below_set ?_ GE199.out | refine below_set ?_ GE200.out) | exact HB.out)) hb); clear BK199; clear BK200; clear HB; have BK199 := n0_; have BK200 := n1_; have HB := n2_; clear n0_ n1_ n2_; (try clear hb); (try clear hb2); (try clear hk); (try clear hi)))
   go_ret3
   exact ⟨by first | rfl | (simp [errW_none, errW_some] <;> rfl) | (simp only [← hji8]; first | rfl | (simp [errW_none, errW_some] <;> rfl)) | (simp [*, errW_none, errW_some] <;> rfl), by repeat (first | (with_reducible first | exact HB.out | apply below_alloc | apply pw_below_drewN | apply below_drew1 | refine below_set ?_ GE199.out | refine below_set ?_ GE200.out) | exact HB.out)⟩
  ·
   replace c6 := Bool.eq_false_iff.mpr c6
   subst c6
   have H1 : (some (0, false, 1)) = some (r1, r2, r3) := by rw [if_neg (show ¬ (false = true) by decide)] at H; exact H
   clear H
   have H := H1
   clear H1
   simp only [Option.some.injEq, Prod.mk.injEq] at H
   obtain ⟨rfl, rfl, rfl⟩ := H
   go_enter Tryd.func72, Tryd.ntmps72
   go_wp2_with (first | ((with_reducible refine gate_dst (N := 2) rfl ?_); refine box_event ?hg (N := 2) ?hd (cs := #[.int .i64 a0_0, .int .i64 a0_1]) (t := 110) ?hr ?_; (case hd => rfl); (case hg => rfl); (case hr => first | (go_simp; done) | (go_simp; rfl)); intro gb199 hg w19 hbox hb; have n0_ := Aside0.mk (below_step (by repeat (first | (with_reducible first | exact HB.out | apply below_alloc | apply pw_below_drewN | apply below_drew1) | exact HB.out)) hb); have n1_ := Aside0.mk (hbox); have n2_ := Aside0.mk ((by rw [hg]; exact (below_size (by repeat (first | (with_reducible first | exact HB.out | apply below_alloc | apply pw_below_drewN | apply below_drew1) | exact HB.out))) : w.heap.size ≤ gb199)); have n3_ := Aside0.mk ((by rw [hg]; exact (below_size (by repeat (first | (with_reducible first | exact HB.out | apply below_alloc | apply pw_below_drewN | apply below_drew1) | exact HB.out))) : w.heap.size ≤ gb199)); clear HB; have HB := n0_; have BK199 := n1_; have GW199 := n2_; have GE199 := n3_; clear n0_ n1_ n2_ n3_; clear hb hbox hg) | ((with_reducible refine gate_dst (N := 3) rfl ?_); refine box_event ?hg (N := 3) ?hd (cs := #[.int .i64 a1_0, .int .i64 a1_1]) (t := 110) ?hr ?_; (case hd => rfl); (case hg => rfl); (case hr => first | (go_simp; done) | (go_simp; rfl)); intro gb200 hg w20 hbox hb; have n0_ := Aside0.mk (blk_below (g := gb199) (o := .cells #[.int .i64 a0_0, .int .i64 a0_1] 110 (0, 0)) (by (with_reducible repeat (first | refine blk_drewN ?_ _ | refine blk_drew ?_ | refine blk_alloc ?_ _)); exact BK199.out) hb); have n1_ := Aside0.mk (below_step (by repeat (first | (with_reducible first | exact HB.out | apply below_alloc | apply pw_below_drewN | apply below_drew1 | refine below_set ?_ GE199.out) | exact HB.out)) hb); have n2_ := Aside0.mk (hbox); have n3_ := Aside0.mk ((by rw [hg]; exact (below_size (by repeat (first | (with_reducible first | exact HB.out | apply below_alloc | apply pw_below_drewN | apply below_drew1 | refine below_set ?_ GE199.out) | exact HB.out))) : w.heap.size ≤ gb200)); have n4_ := Aside0.mk ((by rw [hg]; exact (below_size (by repeat (first | (with_reducible first | exact HB.out | apply below_alloc | apply pw_below_drewN | apply below_drew1 | refine below_set ?_ GE199.out) | exact HB.out))) : w.heap.size ≤ gb200)); have n5_ := Aside0.mk ((by rw [hg]; exact Nat.ne_of_lt (blk_lt (g := gb199) (o := .cells #[.int .i64 a0_0, .int .i64 a0_1] 110 (0, 0)) (by (with_reducible repeat (first | refine blk_drewN ?_ _ | refine blk_drew ?_ | refine blk_alloc ?_ _)); exact BK199.out)) : gb199 ≠ gb200)); have n6_ := Aside0.mk ((by rw [hg]; exact Nat.ne_of_gt (blk_lt (g := gb199) (o := .cells #[.int .i64 a0_0, .int .i64 a0_1] 110 (0, 0)) (by (with_reducible repeat (first | refine blk_drewN ?_ _ | refine blk_drew ?_ | refine blk_alloc ?_ _)); exact BK199.out)) : gb200 ≠ gb199)); clear BK199; clear HB; have BK199 := n0_; have HB := n1_; have BK200 := n2_; have GW200 := n3_; have GE200 := n4_; have NB199_200 := n5_; have NB200_199 := n6_; clear n0_ n1_ n2_ n3_ n4_ n5_ n6_; clear hb hbox hg; have hnb21 := NB199_200.out; have hnc21 := NB200_199.out; have hcz22_0 : w20.cell? ⟨gb199, 0, none⟩ = some (.int .i64 a0_0) := (blk_cell BK199.out 0).trans rfl; have hcz22_1 : w20.cell? ⟨gb199, 1, none⟩ = some (.int .i64 a0_1) := (blk_cell BK199.out 1).trans rfl; have hfz22_0 := blk_frozen BK199.out 0; have hfz22_1 := blk_frozen BK199.out 1) | ((with_reducible refine gate_callee (f := 136) rfl ?_); refine goesL_ (some 9) rfl rfl Tryd.func136 (by kernel_rfl) rfl #[.agg #[.int .i64 a0_0, .int .i64 a0_1]] rfl (by (try simp only [List.map_toArray, List.map_cons, List.map_nil]); first | done | rfl | (simp only [List.length_drop, List.length_take]; rfl)) ?_; (with_reducible refine (voice_isRight.calls a0_0 a0_1 true _ A3.out).mono ?_); rintro e w23 ⟨rfl, hb⟩; refine ⟨_, rfl, ?_⟩; have n0_ := Aside0.mk (blk_below (g := gb199) (o := .cells #[.int .i64 a0_0, .int .i64 a0_1] 110 (0, 0)) (by (with_reducible repeat (first | refine blk_drewN ?_ _ | refine blk_drew ?_ | refine blk_alloc ?_ _)); exact BK199.out) hb); have n1_ := Aside0.mk (blk_below (g := gb200) (o := .cells #[.int .i64 a1_0, .int .i64 a1_1] 110 (0, 0)) (by (with_reducible repeat (first | refine blk_drewN ?_ _ | refine blk_drew ?_ | refine blk_alloc ?_ _)); exact BK200.out) hb); have n2_ := Aside0.mk (below_step (by repeat (first | (with_reducible first | exact HB.out | apply below_alloc | apply pw_below_drewN | apply below_drew1 | refine below_set ?_ GE199.out | refine below_set ?_ GE200.out) | exact HB.out)) hb); clear BK199; clear BK200; clear HB; have BK199 := n0_; have BK200 := n1_; have HB := n2_; clear n0_ n1_ n2_; (try clear hb); (try clear hb2); (try clear hk); (try clear hi); have hcz24_0 : w23.cell? ⟨gb200, 0, none⟩ = some (.int .i64 a1_0) := (blk_cell BK200.out 0).trans rfl; have hcz24_1 : w23.cell? ⟨gb200, 1, none⟩ = some (.int .i64 a1_1) := (blk_cell BK200.out 1).trans rfl; have hfz24_0 := blk_frozen BK200.out 0; have hfz24_1 := blk_frozen BK200.out 1) | (go_at_call 136; (with_reducible refine (voice_isRight.calls a1_0 a1_1 false _ A5.out).mono ?_); rintro e w25 ⟨rfl, hb⟩; have n0_ := Aside0.mk (blk_below (g := gb199) (o := .cells #[.int .i64 a0_0, .int .i64 a0_1] 110 (0, 0)) (by (with_reducible repeat (first | refine blk_drewN ?_ _ | refine blk_drew ?_ | refine blk_alloc ?_ _)); exact BK199.out) hb); have n1_ := Aside0.mk (blk_below (g := gb200) (o := .cells #[.int .i64 a1_0, .int .i64 a1_1] 110 (0, 0)) (by (with_reducible repeat (first | refine blk_drewN ?_ _ | refine blk_drew ?_ | refine blk_alloc ?_ _)); exact BK200.out) hb); have n2_ := Aside0.mk (below_step (by repeat (first | (with_reducible first | exact HB.out | apply below_alloc | apply pw_below_drewN | apply below_drew1 | refine below_set ?_ GE199.out | refine below_set ?_ GE200.out) | exact HB.out)) hb); clear BK199; clear BK200; clear HB; have BK199 := n0_; have BK200 := n1_; have HB := n2_; clear n0_ n1_ n2_; (try clear hb); (try clear hb2); (try clear hk); (try clear hi)))
   go_ret3
   exact ⟨by first | rfl | (simp [errW_none, errW_some] <;> rfl) | (simp [*, errW_none, errW_some] <;> rfl), by repeat (first | (with_reducible first | exact HB.out | apply below_alloc | apply pw_below_drewN | apply below_drew1 | refine below_set ?_ GE199.out | refine below_set ?_ GE200.out) | exact HB.out)⟩
 ·
  replace c4 := Bool.eq_false_iff.mpr c4
  subst c4
  have H1 : (some (0, false, 1)) = some (r1, r2, r3) := by rw [if_neg (show ¬ (false = true) by decide)] at H; exact H
  clear H
  have H := H1
  clear H1
  simp only [Option.some.injEq, Prod.mk.injEq] at H
  obtain ⟨rfl, rfl, rfl⟩ := H
  go_enter Tryd.func72, Tryd.ntmps72
  go_wp2_with (first | ((with_reducible refine gate_dst (N := 2) rfl ?_); refine box_event ?hg (N := 2) ?hd (cs := #[.int .i64 a0_0, .int .i64 a0_1]) (t := 110) ?hr ?_; (case hd => rfl); (case hg => rfl); (case hr => first | (go_simp; done) | (go_simp; rfl)); intro gb199 hg w26 hbox hb; have n0_ := Aside0.mk (below_step (by repeat (first | (with_reducible first | exact HB.out | apply below_alloc | apply pw_below_drewN | apply below_drew1) | exact HB.out)) hb); have n1_ := Aside0.mk (hbox); have n2_ := Aside0.mk ((by rw [hg]; exact (below_size (by repeat (first | (with_reducible first | exact HB.out | apply below_alloc | apply pw_below_drewN | apply below_drew1) | exact HB.out))) : w.heap.size ≤ gb199)); have n3_ := Aside0.mk ((by rw [hg]; exact (below_size (by repeat (first | (with_reducible first | exact HB.out | apply below_alloc | apply pw_below_drewN | apply below_drew1) | exact HB.out))) : w.heap.size ≤ gb199)); clear HB; have HB := n0_; have BK199 := n1_; have GW199 := n2_; have GE199 := n3_; clear n0_ n1_ n2_ n3_; clear hb hbox hg) | ((with_reducible refine gate_dst (N := 3) rfl ?_); refine box_event ?hg (N := 3) ?hd (cs := #[.int .i64 a1_0, .int .i64 a1_1]) (t := 110) ?hr ?_; (case hd => rfl); (case hg => rfl); (case hr => first | (go_simp; done) | (go_simp; rfl)); intro gb200 hg w27 hbox hb; have n0_ := Aside0.mk (blk_below (g := gb199) (o := .cells #[.int .i64 a0_0, .int .i64 a0_1] 110 (0, 0)) (by (with_reducible repeat (first | refine blk_drewN ?_ _ | refine blk_drew ?_ | refine blk_alloc ?_ _)); exact BK199.out) hb); have n1_ := Aside0.mk (below_step (by repeat (first | (with_reducible first | exact HB.out | apply below_alloc | apply pw_below_drewN | apply below_drew1 | refine below_set ?_ GE199.out) | exact HB.out)) hb); have n2_ := Aside0.mk (hbox); have n3_ := Aside0.mk ((by rw [hg]; exact (below_size (by repeat (first | (with_reducible first | exact HB.out | apply below_alloc | apply pw_below_drewN | apply below_drew1 | refine below_set ?_ GE199.out) | exact HB.out))) : w.heap.size ≤ gb200)); have n4_ := Aside0.mk ((by rw [hg]; exact (below_size (by repeat (first | (with_reducible first | exact HB.out | apply below_alloc | apply pw_below_drewN | apply below_drew1 | refine below_set ?_ GE199.out) | exact HB.out))) : w.heap.size ≤ gb200)); have n5_ := Aside0.mk ((by rw [hg]; exact Nat.ne_of_lt (blk_lt (g := gb199) (o := .cells #[.int .i64 a0_0, .int .i64 a0_1] 110 (0, 0)) (by (with_reducible repeat (first | refine blk_drewN ?_ _ | refine blk_drew ?_ | refine blk_alloc ?_ _)); exact BK199.out)) : gb199 ≠ gb200)); have n6_ := Aside0.mk ((by rw [hg]; exact Nat.ne_of_gt (blk_lt (g := gb199) (o := .cells #[.int .i64 a0_0, .int .i64 a0_1] 110 (0, 0)) (by (with_reducible repeat (first | refine blk_drewN ?_ _ | refine blk_drew ?_ | refine blk_alloc ?_ _)); exact BK199.out)) : gb200 ≠ gb199)); clear BK199; clear HB; have BK199 := n0_; have HB := n1_; have BK200 := n2_; have GW200 := n3_; have GE200 := n4_; have NB199_200 := n5_; have NB200_199 := n6_; clear n0_ n1_ n2_ n3_ n4_ n5_ n6_; clear hb hbox hg; have hnb28 := NB199_200.out; have hnc28 := NB200_199.out; have hcz29_0 : w27.cell? ⟨gb199, 0, none⟩ = some (.int .i64 a0_0) := (blk_cell BK199.out 0).trans rfl; have hcz29_1 : w27.cell? ⟨gb199, 1, none⟩ = some (.int .i64 a0_1) := (blk_cell BK199.out 1).trans rfl; have hfz29_0 := blk_frozen BK199.out 0; have hfz29_1 := blk_frozen BK199.out 1) | ((with_reducible refine gate_callee (f := 136) rfl ?_); refine goesL_ (some 9) rfl rfl Tryd.func136 (by kernel_rfl) rfl #[.agg #[.int .i64 a0_0, .int .i64 a0_1]] rfl (by (try simp only [List.map_toArray, List.map_cons, List.map_nil]); first | done | rfl | (simp only [List.length_drop, List.length_take]; rfl)) ?_; (with_reducible refine (voice_isRight.calls a0_0 a0_1 false _ A3.out).mono ?_); rintro e w30 ⟨rfl, hb⟩; refine ⟨_, rfl, ?_⟩; have n0_ := Aside0.mk (blk_below (g := gb199) (o := .cells #[.int .i64 a0_0, .int .i64 a0_1] 110 (0, 0)) (by (with_reducible repeat (first | refine blk_drewN ?_ _ | refine blk_drew ?_ | refine blk_alloc ?_ _)); exact BK199.out) hb); have n1_ := Aside0.mk (blk_below (g := gb200) (o := .cells #[.int .i64 a1_0, .int .i64 a1_1] 110 (0, 0)) (by (with_reducible repeat (first | refine blk_drewN ?_ _ | refine blk_drew ?_ | refine blk_alloc ?_ _)); exact BK200.out) hb); have n2_ := Aside0.mk (below_step (by repeat (first | (with_reducible first | exact HB.out | apply below_alloc | apply pw_below_drewN | apply below_drew1 | refine below_set ?_ GE199.out | refine below_set ?_ GE200.out) | exact HB.out)) hb); clear BK199; clear BK200; clear HB; have BK199 := n0_; have BK200 := n1_; have HB := n2_; clear n0_ n1_ n2_; (try clear hb); (try clear hb2); (try clear hk); (try clear hi)))
  go_ret3
  exact ⟨by first | rfl | (simp [errW_none, errW_some] <;> rfl) | (simp [*, errW_none, errW_some] <;> rfl), by repeat (first | (with_reducible first | exact HB.out | apply below_alloc | apply pw_below_drewN | apply below_drew1 | refine below_set ?_ GE199.out | refine below_set ?_ GE200.out) | exact HB.out)⟩

/-! ### kit_IsKey: function 95 -/
def smallL : List UInt8 := [97, 98, 99, 100, 101, 102, 103, 104, 105, 106, 107, 108, 109, 110, 111, 112, 113, 114, 115, 116, 117, 118, 119, 120, 121, 122]
def cutL : List UInt8 := smallL ++ [48, 49, 50, 51, 52, 53, 54, 55, 56, 57, 45, 95]
theorem cut_ascii : ∀ b ∈ cutL, b.toNat < 128 := by decide
theorem trim_any (s : ByteArray) (w : World) (hs : s.size ≤ 9223372036854775807) :
    Calls Tryd.prog 140 #[.string s, .string ⟨cutL.toArray⟩] w fun e w' => e = .returned (.string ⟨(Lib.trimS s.data.toList cutL).toArray⟩) ∧ Below w.heap.size w w' :=
  Go.Proofs.Any.strings_Trim_laid Tryd.lays160 (by kernel_rfl) s ⟨cutL.toArray⟩ w hs (by decide) (fun j b h => cut_ascii b (List.mem_of_getElem? h))
def headB (s : ByteArray) : UInt8 := s.data.toList.headD 0
def keyB (s : ByteArray) : Bool := if s.toList = [] then false else if (s.size : Int) ≤ 40 then (if 0 ≤ Lib.indexByte smallL (headB s) then (!s.toList.isEmpty && (Lib.trimS s.data.toList cutL).isEmpty) else false) else false
theorem headB_get (s : ByteArray) (h : 0 < s.size) : s[0] = headB s := by
  unfold headB
  have : s.data.toList ≠ [] := by
    intro e
    have : s.data.toList.length = 0 := by rw [e]; rfl
    simp at this
    simp [ByteArray.size, this] at h
  rcases s with ⟨⟨l⟩⟩
  cases l with
  | nil => exact absurd rfl this
  | cons a l => rfl
theorem nil_size (s : ByteArray) (h : ¬ 0 < s.size) : s.toList = [] := by
  obtain ⟨⟨l⟩⟩ := s
  cases l with
  | nil => simp
  | cons a l => exact absurd (by simp [ByteArray.size]) h
set_option maxRecDepth 100000 in
theorem key_walk (s : ByteArray) (w : World) (hs : s.size ≤ 9223372036854775807) : Calls Tryd.prog 95 #[.string s] w fun e w' => e = .returned (.bool (keyB s)) ∧ Below w.heap.size w w' := by
  go_enter Tryd.func95, Tryd.ntmps95
  go_wp2_with (first | (go_at_call 129; refine (Tryd.strings_IndexByte ⟨smallL.toArray⟩ _ _).mono ?_; rintro e w' ⟨rfl, rfl⟩) | (go_at_call 140; refine (trim_any s _ hs).mono ?_; rintro e w' ⟨rfl, hb⟩))
  all_goals (try go_ret)
  · exact ⟨by unfold keyB; rw [if_pos (by assumption)]; rfl, Below.refl _ _⟩
  · rename_i h1 h2 h3 _ h4
    rw [headB_get s h3] at h4
    exact ⟨by unfold keyB; rw [if_neg h1, if_pos h2, if_pos h4]; rfl, hb⟩
  · rename_i h1 h2 h3 h4
    rw [headB_get s h3] at h4
    exact ⟨by unfold keyB; rw [if_neg h1, if_pos h2, if_neg (by omega)]; rfl, Below.refl _ _⟩
  · rename_i h1 h2 _ _ h3
    exact absurd (nil_size s h3) h1
  · rename_i h1 h2
    exact ⟨by unfold keyB; rw [if_neg h1, if_neg (by omega)]; rfl, Below.refl _ _⟩
def kit_IsKey.f (a0 : ByteArray) : Option Bool := if a0.size ≤ 9223372036854775807 then some (keyB a0) else none
theorem kit_IsKey.calls (a0 : ByteArray) (r : Bool) (w : World) (h : kit_IsKey.f a0 = some r) : Calls Tryd.prog 95 #[.string a0] w fun e w' => e = .returned (.bool r) ∧ Below w.heap.size w w' := by
  unfold kit_IsKey.f at h
  split at h
  · obtain rfl := Option.some.inj h
    exact key_walk a0 w (by assumption)
  · cases h

/-! ### gleekeep1_ready: function 32 -/
abbrev sA : ByteArray := ⟨#[97]⟩
abbrev sB : ByteArray := ⟨#[98]⟩
abbrev sC : ByteArray := ⟨#[99]⟩
theorem keyA : keyB sA = true := by decide +kernel
theorem keyBb : keyB sB = true := by decide +kernel
theorem keyC : keyB sC = true := by decide +kernel
theorem key_abc (s : ByteArray) (w : World) (h : s = sA ∨ s = sB ∨ s = sC) : Calls Tryd.prog 95 #[.string s] w fun e w' => e = .returned (.bool true) ∧ Below w.heap.size w w' := by
  have hz : s.size ≤ 9223372036854775807 := by rcases h with rfl | rfl | rfl <;> decide
  have hk : keyB s = true := by rcases h with rfl | rfl | rfl <;> first | exact keyA | exact keyBb | exact keyC
  exact (key_walk s w hz).mono fun e w' ⟨h1, h2⟩ => ⟨by rw [h1, hk], h2⟩
abbrev abc : Obj := .cells #[.string sA, .string sB, .string sC] 9 (0, 0)
theorem leBA (w : World) : Sem.run Tryd.prog (binOp BinOp.leq 9 (.string sB) (.string sA)) w = .ok (.bool false) w := by kernel_rfl
theorem leCB (w : World) : Sem.run Tryd.prog (binOp BinOp.leq 9 (.string sC) (.string sB)) w = .ok (.bool false) w := by kernel_rfl
set_option maxRecDepth 100000 in
theorem for_walk (g : Nat) (w : World) (hg : w.heap[g]? = some abc) : Calls Tryd.prog 181 #[.slice (some ⟨g, 0, none⟩) 3 3] w fun e w' => e = .returned (.int .i64 0) ∧ Below w.heap.size w w' := by
  have c0 : w.cell? ⟨g, 0, none⟩ = some (.string sA) := (blk_cell hg 0).trans rfl
  have c1 : w.cell? ⟨g, 1, none⟩ = some (.string sB) := (blk_cell hg 1).trans rfl
  have c2 : w.cell? ⟨g, 2, none⟩ = some (.string sC) := (blk_cell hg 2).trans rfl
  have G := Aside0.mk hg
  have HB := Aside0.mk (Below.refl w.heap.size w)
  clear hg
  have l1 := leBA
  have l2 := leCB
  go_enter Tryd.func181, Tryd.ntmps181
  go_wp2
  refine wp_loop_rounds 4 ?_
  rw [rounds_succ]
  go_wp2_with (first | (go_at_call 95; refine (key_abc _ _ (by first | exact .inl rfl | exact .inr (.inl rfl) | exact .inr (.inr rfl))).mono ?_; rintro e w' ⟨rfl, hb⟩; have n0 := blk_below G.out hb; have n1 := below_step HB.out hb; clear G HB c0 c1 c2 hb; have G := Aside0.mk n0; have HB := Aside0.mk n1; have c0 : w'.cell? ⟨g, 0, none⟩ = some (.string sA) := (blk_cell n0 0).trans rfl; have c1 : w'.cell? ⟨g, 1, none⟩ = some (.string sB) := (blk_cell n0 1).trans rfl; have c2 : w'.cell? ⟨g, 2, none⟩ = some (.string sC) := (blk_cell n0 2).trans rfl; clear n0 n1))
  rw [rounds_succ]
  go_wp2_with (first | (go_at_call 95; refine (key_abc _ _ (by first | exact .inl rfl | exact .inr (.inl rfl) | exact .inr (.inr rfl))).mono ?_; rintro e w' ⟨rfl, hb⟩; have n0 := blk_below G.out hb; have n1 := below_step HB.out hb; clear G HB c0 c1 c2 hb; have G := Aside0.mk n0; have HB := Aside0.mk n1; have c0 : w'.cell? ⟨g, 0, none⟩ = some (.string sA) := (blk_cell n0 0).trans rfl; have c1 : w'.cell? ⟨g, 1, none⟩ = some (.string sB) := (blk_cell n0 1).trans rfl; have c2 : w'.cell? ⟨g, 2, none⟩ = some (.string sC) := (blk_cell n0 2).trans rfl; clear n0 n1))
  rw [rounds_succ]
  go_wp2_with (first | (go_at_call 95; refine (key_abc _ _ (by first | exact .inl rfl | exact .inr (.inl rfl) | exact .inr (.inr rfl))).mono ?_; rintro e w' ⟨rfl, hb⟩; have n0 := blk_below G.out hb; have n1 := below_step HB.out hb; clear G HB c0 c1 c2 hb; have G := Aside0.mk n0; have HB := Aside0.mk n1; have c0 : w'.cell? ⟨g, 0, none⟩ = some (.string sA) := (blk_cell n0 0).trans rfl; have c1 : w'.cell? ⟨g, 1, none⟩ = some (.string sB) := (blk_cell n0 1).trans rfl; have c2 : w'.cell? ⟨g, 2, none⟩ = some (.string sC) := (blk_cell n0 2).trans rfl; clear n0 n1))
  rw [rounds_succ]
  go_wp2_with (first | (go_at_call 95; refine (key_abc _ _ (by first | exact .inl rfl | exact .inr (.inl rfl) | exact .inr (.inr rfl))).mono ?_; rintro e w' ⟨rfl, hb⟩; have n0 := blk_below G.out hb; have n1 := below_step HB.out hb; clear G HB c0 c1 c2 hb; have G := Aside0.mk n0; have HB := Aside0.mk n1; have c0 : w'.cell? ⟨g, 0, none⟩ = some (.string sA) := (blk_cell n0 0).trans rfl; have c1 : w'.cell? ⟨g, 1, none⟩ = some (.string sB) := (blk_cell n0 1).trans rfl; have c2 : w'.cell? ⟨g, 2, none⟩ = some (.string sC) := (blk_cell n0 2).trans rfl; clear n0 n1))
  go_ret
  exact ⟨rfl, HB.out⟩
theorem moment_walk (w : World) : Calls Tryd.prog 180 #[.int .i64 0] w fun e w' => e = .returned (.bool true) ∧ Below w.heap.size w w' := by
  go_enter Tryd.func180, Tryd.ntmps180
  go_wp2
  go_ret
  exact ⟨rfl, Below.refl _ _⟩
theorem cents_walk (w : World) : Calls Tryd.prog 74 #[.int .i64 100, .int .i64 1, .int .i64 100000000] w fun e w' => e = .returned (.bool false) ∧ Below w.heap.size w w' := by
  go_enter Tryd.func74, Tryd.ntmps74
  go_wp2
  go_ret
  exact ⟨rfl, Below.refl _ _⟩
theorem look_first {P : Program} (w : World) (mty kt et : TypeId) (r clock : Nat) (s : ByteArray) (z : Value) (hm : P.underlying mty = some (.map kt et)) (hk : P.underlying kt = some .string) (hb : w.heap[r]? = some (.map #[] clock)) (hz : (zeroValue et).run P w = .ok z w) :
    (Instr.lookup mty (.map (some r)) (.string s) false).run P w = .ok z w := by
  have hf : Instr.findNow .string (.string s) ([] : List MapEntry) 0 = some none := rfl
  have hc : (Instr.checkKey true 10000 kt (.string s)).run P w = .ok () w := MapKept.run_checkKey (k := .string s) hk (by simp [MapKept.IsKey]) true 9999
  simp [Instr.lookup, run_underlying hm, MapKept.run_getObj_map hb, hc, MapKept.run_findKey hk hf, hz, Result.andThen]
theorem below_obj {B : Nat} {w W : World} (h : Below B w W) (r : Nat) (o : Obj) (hr : B ≤ r) : Below B w { W with heap := W.heap.setIfInBounds r o } :=
  ⟨h.os, h.tape, h.output, by simpa using h.size, fun g hg => by
    show (W.heap.setIfInBounds r o)[g]? = w.heap[g]?
    rw [Array.getElem?_setIfInBounds_ne (by omega)]
    exact h.block g hg⟩
abbrev paid (g : Nat) : Obj := .cells #[.string sB, .string sA, .int .i64 0, .int .i64 100, .slice (some ⟨g, 0, none⟩) 3 3] 138 (0, 0)
set_option maxRecDepth 100000 in
theorem check_walk (g h : Nat) (w : World) (hg : w.heap[g]? = some abc) (hh : w.heap[h]? = some (paid g)) : Calls Tryd.prog 142 #[.slice (some ⟨h, 0, none⟩) 1 1] w fun e w' => e = .returned (.int .i64 0) ∧ Below w.heap.size w w' := by
  have c0 : w.cell? ⟨h, 0, none⟩ = some (.string sB) := (blk_cell hh 0).trans rfl
  have c1 : w.cell? ⟨h, 1, none⟩ = some (.string sA) := (blk_cell hh 1).trans rfl
  have c2 : w.cell? ⟨h, 2, none⟩ = some (.int .i64 0) := (blk_cell hh 2).trans rfl
  have c3 : w.cell? ⟨h, 3, none⟩ = some (.int .i64 100) := (blk_cell hh 3).trans rfl
  have c4 : w.cell? ⟨h, 4, none⟩ = some (.slice (some ⟨g, 0, none⟩) 3 3) := (blk_cell hh 4).trans rfl
  have G := Aside0.mk hg
  have H := Aside0.mk hh
  have HB := Aside0.mk (Below.refl w.heap.size w)
  clear hg hh
  go_enter Tryd.func142, Tryd.ntmps142
  go_wp2
  refine wp_loop_rounds 2 ?_
  rw [rounds_succ]
  go_wp2_with ((first | (go_at_call 95; refine (key_abc _ _ (by first | exact .inl rfl | exact .inr (.inl rfl) | exact .inr (.inr rfl))).mono ?_) | (go_at_call 180; refine (moment_walk _).mono ?_) | (go_at_call 74; refine (cents_walk _).mono ?_) | (go_at_call 181; refine (for_walk g _ (by first | exact G.out | exact blk_alloc G.out _)).mono ?_)); rintro e w' ⟨rfl, hb⟩; first | (have n3 := blk_below X.out hb; have n0 := blk_below G.out hb; have n1 := blk_below H.out hb; have n2 := below_step HB.out hb; clear G H HB X c0 c1 c2 c3 c4 x0 x1 x2 x3 x4 hb; have G := Aside0.mk n0; have H := Aside0.mk n1; have HB := Aside0.mk n2; have X := Aside0.mk n3; have c0 : w'.cell? ⟨h, 0, none⟩ = some (.string sB) := (blk_cell n1 0).trans rfl; have c1 : w'.cell? ⟨h, 1, none⟩ = some (.string sA) := (blk_cell n1 1).trans rfl; have c2 : w'.cell? ⟨h, 2, none⟩ = some (.int .i64 0) := (blk_cell n1 2).trans rfl; have c3 : w'.cell? ⟨h, 3, none⟩ = some (.int .i64 100) := (blk_cell n1 3).trans rfl; have c4 : w'.cell? ⟨h, 4, none⟩ = some (.slice (some ⟨g, 0, none⟩) 3 3) := (blk_cell n1 4).trans rfl; have x0 : w'.cell? ⟨_, 0, none⟩ = some (.string sB) := (blk_cell n3 0).trans rfl; have x1 : w'.cell? ⟨_, 1, none⟩ = some (.string sA) := (blk_cell n3 1).trans rfl; have x2 : w'.cell? ⟨_, 2, none⟩ = some (.int .i64 0) := (blk_cell n3 2).trans rfl; have x3 : w'.cell? ⟨_, 3, none⟩ = some (.int .i64 100) := (blk_cell n3 3).trans rfl; have x4 : w'.cell? ⟨_, 4, none⟩ = some (.slice (some ⟨g, 0, none⟩) 3 3) := (blk_cell n3 4).trans rfl; clear n0 n1 n2 n3) | (have n3 := blk_below (heap_alloc_new _ _) hb; have n0 := blk_below (blk_alloc G.out _) hb; have n1 := blk_below (blk_alloc H.out _) hb; have n2 := below_step (below_alloc HB.out _) hb; clear G H HB c0 c1 c2 c3 c4 hb; have G := Aside0.mk n0; have H := Aside0.mk n1; have HB := Aside0.mk n2; have X := Aside0.mk n3; have c0 : w'.cell? ⟨h, 0, none⟩ = some (.string sB) := (blk_cell n1 0).trans rfl; have c1 : w'.cell? ⟨h, 1, none⟩ = some (.string sA) := (blk_cell n1 1).trans rfl; have c2 : w'.cell? ⟨h, 2, none⟩ = some (.int .i64 0) := (blk_cell n1 2).trans rfl; have c3 : w'.cell? ⟨h, 3, none⟩ = some (.int .i64 100) := (blk_cell n1 3).trans rfl; have c4 : w'.cell? ⟨h, 4, none⟩ = some (.slice (some ⟨g, 0, none⟩) 3 3) := (blk_cell n1 4).trans rfl; have x0 : w'.cell? ⟨_, 0, none⟩ = some (.string sB) := (blk_cell n3 0).trans rfl; have x1 : w'.cell? ⟨_, 1, none⟩ = some (.string sA) := (blk_cell n3 1).trans rfl; have x2 : w'.cell? ⟨_, 2, none⟩ = some (.int .i64 0) := (blk_cell n3 2).trans rfl; have x3 : w'.cell? ⟨_, 3, none⟩ = some (.int .i64 100) := (blk_cell n3 3).trans rfl; have x4 : w'.cell? ⟨_, 4, none⟩ = some (.slice (some ⟨g, 0, none⟩) 3 3) := (blk_cell n3 4).trans rfl; clear n0 n1 n2 n3))
  go_quiet (fail)
  go_wp2
  rename_i nq _ _
  have hsz : w.heap.size ≤ w'.heap.size := below_size HB.out
  obtain ⟨W2, hW2⟩ : ∃ W2, W2 = (w'.drewN nq).alloc (Obj.map #[] 0) := ⟨_, rfl⟩
  have hmm : (Instr.makeMap 232 none).run Tryd.prog (w'.drewN nq) = .ok (.map (some w'.heap.size)) W2 := by rw [hW2]; rfl
  have n0 : W2.heap[g]? = some abc := by rw [hW2]; exact blk_alloc (blk_drewN G.out nq) _
  have n1 : W2.heap[h]? = some (paid g) := by rw [hW2]; exact blk_alloc (blk_drewN H.out nq) _
  have n2 : Below w.heap.size w W2 := by rw [hW2]; exact below_alloc (pw_below_drewN HB.out nq) _
  have n3 : W2.heap[w'.heap.size]? = some (Obj.map #[] 0) := by rw [hW2]; exact heap_alloc_new (w'.drewN nq) _
  have s2 : w'.heap.size < W2.heap.size := blk_lt n3
  clear G H HB X c0 c1 c2 c3 c4 x0 x1 x2 x3 x4 hW2
  have c0 : W2.cell? ⟨h, 0, none⟩ = some (.string sB) := (blk_cell n1 0).trans rfl
  have c1 : W2.cell? ⟨h, 1, none⟩ = some (.string sA) := (blk_cell n1 1).trans rfl
  have c2 : W2.cell? ⟨h, 2, none⟩ = some (.int .i64 0) := (blk_cell n1 2).trans rfl
  have c3 : W2.cell? ⟨h, 3, none⟩ = some (.int .i64 100) := (blk_cell n1 3).trans rfl
  have c4 : W2.cell? ⟨h, 4, none⟩ = some (.slice (some ⟨g, 0, none⟩) 3 3) := (blk_cell n1 4).trans rfl
  have N0 := Aside0.mk n0
  have N1 := Aside0.mk n1
  have N2 := Aside0.mk n2
  have N3 := Aside0.mk n3
  have S2 := Aside0.mk s2
  obtain ⟨W3, hW3⟩ : ∃ W3, W3 = W2.alloc (paid g) := ⟨_, rfl⟩
  obtain ⟨W4, hW4⟩ : ∃ W4 : World, W4 = { W3 with heap := W3.heap.setIfInBounds w'.heap.size (.map #[{ key := .string sB, val := .bool true, born := 0 }] (0 + 1)) } := ⟨_, rfl⟩
  have n4 : W3.heap[w'.heap.size]? = some (Obj.map #[] 0) := by rw [hW3]; exact blk_alloc n3 _
  have q1 : (Instr.lookup 232 (.map (some w'.heap.size)) (.string sB) false).run Tryd.prog (W2.alloc (paid g)) = .ok (.bool false) (W2.alloc (paid g)) := by
    rw [← hW3]
    exact look_first W3 232 9 4 _ 0 sB _ (by kernel_rfl) (by kernel_rfl) n4 (by first | rfl | kernel_rfl | simp)
  have q2 : (Instr.mapUpdate 232 (.map (some w'.heap.size)) (.string sB) (.bool true)).run Tryd.prog (W2.alloc (paid g)) = .ok () W4 := by
    rw [← hW3, hW4]
    exact run_mapUpdate_first W3 232 9 4 _ 0 sB _ (by kernel_rfl) (by kernel_rfl) n4
  have n5 : Below w.heap.size w W4 := by
    rw [hW4, hW3]
    exact below_obj (below_alloc n2 _) _ _ hsz
  have N5 := Aside0.mk n5
  clear n0 n1 n2 n3 s2 n4 n5 hW3 hW4
  rw [rounds_succ]
  go_wp2
  refine wp_loop_rounds 2 ?_
  rw [rounds_succ]
  go_wp2
  rw [rounds_succ]
  go_wp2
  go_ret
  exact ⟨rfl, N5.out⟩
abbrev paidV (g : Nat) : Value := .agg #[.string sB, .string sA, .int .i64 0, .int .i64 100, .slice (some ⟨g, 0, none⟩) 3 3]
set_option maxRecDepth 100000 in
theorem share_walk (g : Nat) (w : World) (i r : Int) (h : (i = 0 ∧ r = 34) ∨ (i = 1 ∧ r = 33) ∨ (i = 2 ∧ r = 33)) : Calls Tryd.prog 143 #[paidV g, .int .i64 i] w fun e w' => e = .returned (.int .i64 r) ∧ Below w.heap.size w w' := by
  rcases h with ⟨rfl, rfl⟩ | ⟨rfl, rfl⟩ | ⟨rfl, rfl⟩
  all_goals go_enter Tryd.func143, Tryd.ntmps143
  all_goals go_wp2
  all_goals go_ret
  all_goals exact ⟨rfl, below_alloc (Below.refl _ _) _⟩
abbrev s34 : ByteArray := ⟨#[51, 52]⟩
abbrev s33 : ByteArray := ⟨#[51, 51]⟩
theorem d34 : (Lib.decDigits 34).toArray = #[51, 52] := by decide +kernel
theorem d33 : (Lib.decDigits 33).toArray = #[51, 51] := by decide +kernel
theorem itoa34 (w : World) : Calls Tryd.prog 99 #[.int .i64 34] w fun e w' => e = .returned (.string s34) ∧ w' = w :=
  (Tryd.strconv_Itoa_small 34 (by decide) w).mono fun e w' ⟨h1, h2⟩ => ⟨h1.trans (by rw [d34]), h2⟩
theorem itoa33 (w : World) : Calls Tryd.prog 99 #[.int .i64 33] w fun e w' => e = .returned (.string s33) ∧ w' = w :=
  (Tryd.strconv_Itoa_small 33 (by decide) w).mono fun e w' ⟨h1, h2⟩ => ⟨h1.trans (by rw [d33]), h2⟩
theorem own_below {w w1 : World} {base : Nat} {e : TypeId} {size : Nat} {v : Value} {n : Nat} {xs : List Value} (h : w.ownsRow base e size v n xs) (hb : Below w.heap.size w w1) : w1.ownsRow base e size v n xs :=
  h.kept (row := none) ⟨hb.os, hb.tape, hb.output, hb.size, fun i hi _ => hb.block i hi⟩ (by cases hv : v.ownBlock with | none => exact .inl rfl | some k => exact .inr (by simp))
theorem lit_cells (w : World) (a b : Value) : ∀ j u, [a, b][j]? = some u → (w.alloc (.cells #[a, b] 140)).cell? ((⟨w.heap.size, 0, none⟩ : Addr).add j) = some u := by
  intro j u h
  match j, h with
  | 0, h => simp at h; subst h; simp [Addr.add]
  | 1, h => simp at h; subst h; simp [Addr.add]
  | j + 2, h => simp at h
def shareL : List Value := [.string sA, .string s34, .string sB, .string s33, .string sC, .string s33]
set_option maxRecDepth 100000 in
theorem shares_walk (g : Nat) (w : World) (hg : w.heap[g]? = some abc) : Calls Tryd.prog 93 #[paidV g] w fun e w' => ∃ r c, e = .returned (.tuple #[.slice (some ⟨r, 0, none⟩) 3 c, .int .i64 0]) ∧ Below w.heap.size w w' ∧ ∀ j u, shareL[j]? = some u → w'.cell? ⟨r, j, none⟩ = some u := by
  go_enter Tryd.func93, Tryd.ntmps93
  have hn : ((w.alloc (paid g)).alloc (paid g)).heap[w.heap.size + 1]? = some (paid g) := by
    have h := heap_alloc_new (w.alloc (paid g)) (paid g)
    rwa [show (w.alloc (paid g)).heap.size = w.heap.size + 1 from by simp] at h
  have ha := blk_alloc (blk_alloc hg (paid g)) (paid g)
  have hx := blk_alloc (heap_alloc_new w (paid g)) (paid g)
  have hB := below_alloc (below_alloc (Below.refl w.heap.size w) (paid g)) (paid g)
  have GL0 := Aside0.mk (blk_lt hg)
  have G := Aside0.mk ha
  have N := Aside0.mk hn
  have X := Aside0.mk hx
  have HB := Aside0.mk hB
  clear hg hn ha hx hB
  go_wp2_with (go_at_call 142; refine (check_walk g (w.heap.size + 1) _ G.out N.out).mono ?_; rintro e w1 ⟨rfl, hb⟩; have n0 := blk_below G.out hb; have n1 := blk_below X.out hb; have n2 := below_step HB.out hb; clear G N X HB hb; have G := Aside0.mk n0; have X := Aside0.mk n1; have HB := Aside0.mk n2; have x0 : w1.cell? ⟨w.heap.size, 0, none⟩ = some (.string sB) := (blk_cell n1 0).trans rfl; have x1 : w1.cell? ⟨w.heap.size, 1, none⟩ = some (.string sA) := (blk_cell n1 1).trans rfl; have x2 : w1.cell? ⟨w.heap.size, 2, none⟩ = some (.int .i64 0) := (blk_cell n1 2).trans rfl; have x3 : w1.cell? ⟨w.heap.size, 3, none⟩ = some (.int .i64 100) := (blk_cell n1 3).trans rfl; have x4 : w1.cell? ⟨w.heap.size, 4, none⟩ = some (.slice (some ⟨g, 0, none⟩) 3 3) := (blk_cell n1 4).trans rfl; have c0 : w1.cell? ⟨g, 0, none⟩ = some (.string sA) := (blk_cell n0 0).trans rfl; have c1 : w1.cell? ⟨g, 1, none⟩ = some (.string sB) := (blk_cell n0 1).trans rfl; have c2 : w1.cell? ⟨g, 2, none⟩ = some (.string sC) := (blk_cell n0 2).trans rfl; clear n0 n1 n2)
  have GL := Aside0.mk (Nat.lt_of_lt_of_le GL0.out (below_size HB.out))
  have XL := Aside0.mk (blk_lt X.out)
  have OW := Aside0.mk (World.ownsRow_nil w1 w1.heap.size 140 2)
  have HS := Aside0.mk (Below.refl w1.heap.size w1)
  refine wp_loop_rounds 4 ?_
  rw [rounds_succ]
  go_wp2_with (first
    | (go_at_call 143; refine (share_walk g _ _ _ (by first | exact .inl ⟨rfl, rfl⟩ | exact .inr (.inl ⟨rfl, rfl⟩) | exact .inr (.inr ⟨rfl, rfl⟩))).mono ?_; rintro e w' ⟨rfl, hb⟩; have n0 := blk_below G.out hb; have n1 := blk_below X.out hb; have n2 := below_step HB.out hb; have n3 := own_below OW.out hb; have n4 := below_step HS.out hb; clear G X HB HS OW c0 c1 c2 x0 x1 x2 x3 x4; have G := Aside0.mk n0; have X := Aside0.mk n1; have HB := Aside0.mk n2; have OW := Aside0.mk n3; have HS := Aside0.mk n4; have x0 : w'.cell? ⟨w.heap.size, 0, none⟩ = some (.string sB) := (blk_cell n1 0).trans rfl; have x1 : w'.cell? ⟨w.heap.size, 1, none⟩ = some (.string sA) := (blk_cell n1 1).trans rfl; have x2 : w'.cell? ⟨w.heap.size, 2, none⟩ = some (.int .i64 0) := (blk_cell n1 2).trans rfl; have x3 : w'.cell? ⟨w.heap.size, 3, none⟩ = some (.int .i64 100) := (blk_cell n1 3).trans rfl; have x4 : w'.cell? ⟨w.heap.size, 4, none⟩ = some (.slice (some ⟨g, 0, none⟩) 3 3) := (blk_cell n1 4).trans rfl; have c0 : w'.cell? ⟨g, 0, none⟩ = some (.string sA) := (blk_cell n0 0).trans rfl; have c1 : w'.cell? ⟨g, 1, none⟩ = some (.string sB) := (blk_cell n0 1).trans rfl; have c2 : w'.cell? ⟨g, 2, none⟩ = some (.string sC) := (blk_cell n0 2).trans rfl; clear n0 n1 n2 n3 n4 hb)
    | (go_at_call 99; refine (itoa34 _).mono ?_; rintro e w' ⟨rfl, rfl⟩)
    | (go_at_call 99; refine (itoa33 _).mono ?_; rintro e w' ⟨rfl, rfl⟩)
    | (at_builtin; go_loud (refine wpList_append_own_at _ rfl _ _ 134 rfl w1.heap.size 140 Tryd.t140 (.agg #[.string ⟨#[]⟩, .string ⟨#[]⟩]) 2 32 Tryd.underlying134 (by kernel_rfl) rfl rfl rfl rfl (by decide) _ _ _ rfl (OW.out.alloc _) ⟨_, 0, none⟩ 1 1 [_, _] rfl rfl (lit_cells _ _ _) (by intro u hu; simp at hu; rcases hu with rfl | rfl <;> rfl) (by decide) (by decide) (below_size (below_alloc HS.out _)) ?_; intro v' w2 hown' hgrow _ _; have n0 := blk_grown (blk_alloc G.out _) hgrow (fun e => absurd (OW.out.lt _ e.symm).1 (Nat.not_le.2 GL.out)); have n1 := blk_grown (blk_alloc X.out _) hgrow (fun e => absurd (OW.out.lt _ e.symm).1 (Nat.not_le.2 XL.out)); have n2 := pw_below_grown (below_alloc HB.out _) _ (below_size (below_alloc HB.out _)) hgrow (fun k e => Nat.le_trans (Nat.le_of_lt XL.out) (OW.out.lt k e).1); have n3 := hown'; have n4 := pw_below_grown (below_alloc HS.out _) _ (below_size (below_alloc HS.out _)) hgrow (fun k e => (OW.out.lt k e).1); clear G X HB HS OW c0 c1 c2 x0 x1 x2 x3 x4; have G := Aside0.mk n0; have X := Aside0.mk n1; have HB := Aside0.mk n2; have OW := Aside0.mk n3; have HS := Aside0.mk n4; have x0 : w2.cell? ⟨w.heap.size, 0, none⟩ = some (.string sB) := (blk_cell n1 0).trans rfl; have x1 : w2.cell? ⟨w.heap.size, 1, none⟩ = some (.string sA) := (blk_cell n1 1).trans rfl; have x2 : w2.cell? ⟨w.heap.size, 2, none⟩ = some (.int .i64 0) := (blk_cell n1 2).trans rfl; have x3 : w2.cell? ⟨w.heap.size, 3, none⟩ = some (.int .i64 100) := (blk_cell n1 3).trans rfl; have x4 : w2.cell? ⟨w.heap.size, 4, none⟩ = some (.slice (some ⟨g, 0, none⟩) 3 3) := (blk_cell n1 4).trans rfl; have c0 : w2.cell? ⟨g, 0, none⟩ = some (.string sA) := (blk_cell n0 0).trans rfl; have c1 : w2.cell? ⟨g, 1, none⟩ = some (.string sB) := (blk_cell n0 1).trans rfl; have c2 : w2.cell? ⟨g, 2, none⟩ = some (.string sC) := (blk_cell n0 2).trans rfl; clear n0 n1 n2 n3 n4 hown' hgrow)))
  rw [rounds_succ]
  go_wp2_with (first
    | (go_at_call 143; refine (share_walk g _ _ _ (by first | exact .inl ⟨rfl, rfl⟩ | exact .inr (.inl ⟨rfl, rfl⟩) | exact .inr (.inr ⟨rfl, rfl⟩))).mono ?_; rintro e w' ⟨rfl, hb⟩; have n0 := blk_below G.out hb; have n1 := blk_below X.out hb; have n2 := below_step HB.out hb; have n3 := own_below OW.out hb; have n4 := below_step HS.out hb; clear G X HB HS OW c0 c1 c2 x0 x1 x2 x3 x4; have G := Aside0.mk n0; have X := Aside0.mk n1; have HB := Aside0.mk n2; have OW := Aside0.mk n3; have HS := Aside0.mk n4; have x0 : w'.cell? ⟨w.heap.size, 0, none⟩ = some (.string sB) := (blk_cell n1 0).trans rfl; have x1 : w'.cell? ⟨w.heap.size, 1, none⟩ = some (.string sA) := (blk_cell n1 1).trans rfl; have x2 : w'.cell? ⟨w.heap.size, 2, none⟩ = some (.int .i64 0) := (blk_cell n1 2).trans rfl; have x3 : w'.cell? ⟨w.heap.size, 3, none⟩ = some (.int .i64 100) := (blk_cell n1 3).trans rfl; have x4 : w'.cell? ⟨w.heap.size, 4, none⟩ = some (.slice (some ⟨g, 0, none⟩) 3 3) := (blk_cell n1 4).trans rfl; have c0 : w'.cell? ⟨g, 0, none⟩ = some (.string sA) := (blk_cell n0 0).trans rfl; have c1 : w'.cell? ⟨g, 1, none⟩ = some (.string sB) := (blk_cell n0 1).trans rfl; have c2 : w'.cell? ⟨g, 2, none⟩ = some (.string sC) := (blk_cell n0 2).trans rfl; clear n0 n1 n2 n3 n4 hb)
    | (go_at_call 99; refine (itoa34 _).mono ?_; rintro e w' ⟨rfl, rfl⟩)
    | (go_at_call 99; refine (itoa33 _).mono ?_; rintro e w' ⟨rfl, rfl⟩)
    | (at_builtin; go_loud (refine wpList_append_own_at _ rfl _ _ 134 rfl w1.heap.size 140 Tryd.t140 (.agg #[.string ⟨#[]⟩, .string ⟨#[]⟩]) 2 32 Tryd.underlying134 (by kernel_rfl) rfl rfl rfl rfl (by decide) _ _ _ rfl (OW.out.alloc _) ⟨_, 0, none⟩ 1 1 [_, _] rfl rfl (lit_cells _ _ _) (by intro u hu; simp at hu; rcases hu with rfl | rfl <;> rfl) (by decide) (by decide) (below_size (below_alloc HS.out _)) ?_; intro v' w2 hown' hgrow _ _; have n0 := blk_grown (blk_alloc G.out _) hgrow (fun e => absurd (OW.out.lt _ e.symm).1 (Nat.not_le.2 GL.out)); have n1 := blk_grown (blk_alloc X.out _) hgrow (fun e => absurd (OW.out.lt _ e.symm).1 (Nat.not_le.2 XL.out)); have n2 := pw_below_grown (below_alloc HB.out _) _ (below_size (below_alloc HB.out _)) hgrow (fun k e => Nat.le_trans (Nat.le_of_lt XL.out) (OW.out.lt k e).1); have n3 := hown'; have n4 := pw_below_grown (below_alloc HS.out _) _ (below_size (below_alloc HS.out _)) hgrow (fun k e => (OW.out.lt k e).1); clear G X HB HS OW c0 c1 c2 x0 x1 x2 x3 x4; have G := Aside0.mk n0; have X := Aside0.mk n1; have HB := Aside0.mk n2; have OW := Aside0.mk n3; have HS := Aside0.mk n4; have x0 : w2.cell? ⟨w.heap.size, 0, none⟩ = some (.string sB) := (blk_cell n1 0).trans rfl; have x1 : w2.cell? ⟨w.heap.size, 1, none⟩ = some (.string sA) := (blk_cell n1 1).trans rfl; have x2 : w2.cell? ⟨w.heap.size, 2, none⟩ = some (.int .i64 0) := (blk_cell n1 2).trans rfl; have x3 : w2.cell? ⟨w.heap.size, 3, none⟩ = some (.int .i64 100) := (blk_cell n1 3).trans rfl; have x4 : w2.cell? ⟨w.heap.size, 4, none⟩ = some (.slice (some ⟨g, 0, none⟩) 3 3) := (blk_cell n1 4).trans rfl; have c0 : w2.cell? ⟨g, 0, none⟩ = some (.string sA) := (blk_cell n0 0).trans rfl; have c1 : w2.cell? ⟨g, 1, none⟩ = some (.string sB) := (blk_cell n0 1).trans rfl; have c2 : w2.cell? ⟨g, 2, none⟩ = some (.string sC) := (blk_cell n0 2).trans rfl; clear n0 n1 n2 n3 n4 hown' hgrow)))
  rw [rounds_succ]
  go_wp2_with (first
    | (go_at_call 143; refine (share_walk g _ _ _ (by first | exact .inl ⟨rfl, rfl⟩ | exact .inr (.inl ⟨rfl, rfl⟩) | exact .inr (.inr ⟨rfl, rfl⟩))).mono ?_; rintro e w' ⟨rfl, hb⟩; have n0 := blk_below G.out hb; have n1 := blk_below X.out hb; have n2 := below_step HB.out hb; have n3 := own_below OW.out hb; have n4 := below_step HS.out hb; clear G X HB HS OW c0 c1 c2 x0 x1 x2 x3 x4; have G := Aside0.mk n0; have X := Aside0.mk n1; have HB := Aside0.mk n2; have OW := Aside0.mk n3; have HS := Aside0.mk n4; have x0 : w'.cell? ⟨w.heap.size, 0, none⟩ = some (.string sB) := (blk_cell n1 0).trans rfl; have x1 : w'.cell? ⟨w.heap.size, 1, none⟩ = some (.string sA) := (blk_cell n1 1).trans rfl; have x2 : w'.cell? ⟨w.heap.size, 2, none⟩ = some (.int .i64 0) := (blk_cell n1 2).trans rfl; have x3 : w'.cell? ⟨w.heap.size, 3, none⟩ = some (.int .i64 100) := (blk_cell n1 3).trans rfl; have x4 : w'.cell? ⟨w.heap.size, 4, none⟩ = some (.slice (some ⟨g, 0, none⟩) 3 3) := (blk_cell n1 4).trans rfl; have c0 : w'.cell? ⟨g, 0, none⟩ = some (.string sA) := (blk_cell n0 0).trans rfl; have c1 : w'.cell? ⟨g, 1, none⟩ = some (.string sB) := (blk_cell n0 1).trans rfl; have c2 : w'.cell? ⟨g, 2, none⟩ = some (.string sC) := (blk_cell n0 2).trans rfl; clear n0 n1 n2 n3 n4 hb)
    | (go_at_call 99; refine (itoa34 _).mono ?_; rintro e w' ⟨rfl, rfl⟩)
    | (go_at_call 99; refine (itoa33 _).mono ?_; rintro e w' ⟨rfl, rfl⟩)
    | (at_builtin; go_loud (refine wpList_append_own_at _ rfl _ _ 134 rfl w1.heap.size 140 Tryd.t140 (.agg #[.string ⟨#[]⟩, .string ⟨#[]⟩]) 2 32 Tryd.underlying134 (by kernel_rfl) rfl rfl rfl rfl (by decide) _ _ _ rfl (OW.out.alloc _) ⟨_, 0, none⟩ 1 1 [_, _] rfl rfl (lit_cells _ _ _) (by intro u hu; simp at hu; rcases hu with rfl | rfl <;> rfl) (by decide) (by decide) (below_size (below_alloc HS.out _)) ?_; intro v' w2 hown' hgrow _ _; have n0 := blk_grown (blk_alloc G.out _) hgrow (fun e => absurd (OW.out.lt _ e.symm).1 (Nat.not_le.2 GL.out)); have n1 := blk_grown (blk_alloc X.out _) hgrow (fun e => absurd (OW.out.lt _ e.symm).1 (Nat.not_le.2 XL.out)); have n2 := pw_below_grown (below_alloc HB.out _) _ (below_size (below_alloc HB.out _)) hgrow (fun k e => Nat.le_trans (Nat.le_of_lt XL.out) (OW.out.lt k e).1); have n3 := hown'; have n4 := pw_below_grown (below_alloc HS.out _) _ (below_size (below_alloc HS.out _)) hgrow (fun k e => (OW.out.lt k e).1); clear G X HB HS OW c0 c1 c2 x0 x1 x2 x3 x4; have G := Aside0.mk n0; have X := Aside0.mk n1; have HB := Aside0.mk n2; have OW := Aside0.mk n3; have HS := Aside0.mk n4; have x0 : w2.cell? ⟨w.heap.size, 0, none⟩ = some (.string sB) := (blk_cell n1 0).trans rfl; have x1 : w2.cell? ⟨w.heap.size, 1, none⟩ = some (.string sA) := (blk_cell n1 1).trans rfl; have x2 : w2.cell? ⟨w.heap.size, 2, none⟩ = some (.int .i64 0) := (blk_cell n1 2).trans rfl; have x3 : w2.cell? ⟨w.heap.size, 3, none⟩ = some (.int .i64 100) := (blk_cell n1 3).trans rfl; have x4 : w2.cell? ⟨w.heap.size, 4, none⟩ = some (.slice (some ⟨g, 0, none⟩) 3 3) := (blk_cell n1 4).trans rfl; have c0 : w2.cell? ⟨g, 0, none⟩ = some (.string sA) := (blk_cell n0 0).trans rfl; have c1 : w2.cell? ⟨g, 1, none⟩ = some (.string sB) := (blk_cell n0 1).trans rfl; have c2 : w2.cell? ⟨g, 2, none⟩ = some (.string sC) := (blk_cell n0 2).trans rfl; clear n0 n1 n2 n3 n4 hown' hgrow)))
  rw [rounds_succ]
  go_wp2
  go_ret2
  have hO := OW.out
  clear OW
  obtain ⟨r, c, rfl, _, _⟩ := hO.form (by decide)
  exact ⟨r, c, rfl, HB.out, fun j u h => by
    have q := hO.cells rfl j u h
    by_cases hj : j = 0
    · subst hj
      simpa [Addr.add] using q
    · simpa [Addr.add, hj] using q⟩
theorem comfort_c (w : World) : Calls Tryd.prog 72 #[.agg #[.int .i64 48, .int .i64 67], .agg #[.int .i64 50, .int .i64 64]] w fun e w' => e = .returned (.tuple #[.int .i64 2, .bool true, .int .i64 0]) ∧ Below w.heap.size w w' :=
  voice_Comfort.calls 48 67 50 64 2 true 0 w (by decide +kernel)
theorem name_c (w : World) : Calls Tryd.prog 66 #[.int .i64 61] w fun e w' => e = .returned (.tuple #[.string ⟨#[99, 35, 52]⟩, .int .i64 0]) ∧ Below w.heap.size w w' :=
  tune_Name.calls 61 _ 0 w (by decide +kernel)
set_option maxRecDepth 100000 in
theorem ready_walk (w : World) : Calls Tryd.prog 32 #[] w fun e w' => e = .returned (.bool true) ∧ Below w.heap.size w w' := by
  have HB := Aside0.mk (Below.refl w.heap.size w)
  go_enter Tryd.func32, Tryd.ntmps32
  go_wp2_with (first | (go_at_call 72; refine (comfort_c _).mono ?_; rintro e w' ⟨rfl, hb⟩; have n0 := below_step HB.out hb; clear HB hb; have HB := Aside0.mk n0; clear n0) | (go_at_call 66; refine (name_c _).mono ?_; rintro e w' ⟨rfl, hb⟩; have n0 := below_step HB.out hb; clear HB hb; have HB := Aside0.mk n0; clear n0) | (go_at_call 93; refine (shares_walk _ _ (heap_alloc_new _ _)).mono ?_; rintro e w' ⟨r, c, rfl, hb, hc⟩; have n0 := below_step (below_alloc HB.out _) hb; clear HB hb; have HB := Aside0.mk n0; clear n0; have c0 : w'.cell? ⟨r, 0, none⟩ = some (.string sA) := hc 0 _ rfl; have c1 : w'.cell? ⟨r, 1, none⟩ = some (.string s34) := hc 1 _ rfl; clear hc))
  go_ret
  exact ⟨rfl, HB.out⟩
def gleekeep1_ready.f : Option Bool := some true
theorem gleekeep1_ready.calls (r : Bool) (w : World) (h : gleekeep1_ready.f = some r) : Calls Tryd.prog 32 #[] w fun e w' => e = .returned (.bool r) ∧ Below w.heap.size w w' := by
  obtain rfl := Option.some.inj h
  exact ready_walk w

/-! ### gleekeep1_WithinIsWithin: function 6 -/
def gleekeep1_WithinIsWithin.f (k : Nat) (l0 : List Int) : Option (Bool) := (gleemake_Stream_Interval.f k l0 0).bind fun bt205 => ((tune_Within.f k bt205.1 bt205.2.1 bt205.2.2.1 bt205.2.2.2.1).bind fun bt211 => (if bt211.2.2.2.2.2 = 0 then ((tune_Compare.f k 0 0 0 0 bt211.1 bt211.2.1 bt211.2.2.1 bt211.2.2.2.1).bind fun bt218 => ((tune_Compare.f k bt211.1 bt211.2.1 bt211.2.2.1 bt211.2.2.2.1 1 0 0 0).bind fun bt220 => (if bt218.2 = 0 then (if bt220.2 = 0 then (if bt218.1 ≤ 0 then (if bt220.1 < 0 then (if ((wrap64 (bt211.1 + bt211.2.2.2.2.1)) == bt205.1 && (bt211.2.1 == bt205.2.1 && (bt211.2.2.1 == bt205.2.2.1 && (bt211.2.2.2.1 == bt205.2.2.2.1)))) = true then ((gleekeep1_ready.f).bind fun t222 => (some t222)) else (none)) else (none)) else (none)) else (none)) else (none)))) else (if bt211.2.2.2.2.2 = 1 then ((gleekeep1_ready.f).bind fun t223 => (some t223)) else (none))))
theorem gleekeep1_WithinIsWithin.mono : ∀ a0 k, LeO (gleekeep1_WithinIsWithin.f k a0) (gleekeep1_WithinIsWithin.f (k + 1) a0) := by
 intro a0 k
 unfold gleekeep1_WithinIsWithin.f
 repeat' first
   | (with_reducible exact gleemake_Stream_Interval.mono _ _ _)
   | (with_reducible exact tune_Compare.mono _ _ _ _ _ _ _ _ _)
   | (with_reducible exact tune_Within.mono _ _ _ _ _)
   | (with_reducible exact LeO.refl _)
   | (with_reducible exact LeO.none _)
   | (with_reducible refine LeO.ite ?_ ?_)
   | (with_reducible refine LeO.bind ?_ (fun _ => ?_))
   | exact gleemake_Stream_Interval.mono _ _ _
   | exact tune_Compare.mono _ _ _ _ _ _ _ _ _
   | exact tune_Within.mono _ _ _ _ _
   | exact LeO.none _
   | refine LeO.ite ?_ ?_
   | refine LeO.bind ?_ (fun _ => ?_)
set_option maxHeartbeats 8000000 in
set_option maxRecDepth 100000 in
theorem gleekeep1_WithinIsWithin.calls (k : Nat) (A0 : Option Addr) (c0 : Nat) (l0 : List Int) (r : Bool) (w : World) (hr0 : Kd.C (Kd.int .i64) w A0 l0.length l0) (hc0 : l0.length ≤ c0) (h : gleekeep1_WithinIsWithin.f k l0 = some r) :
  Calls Tryd.prog 6 #[.slice A0 l0.length c0] w fun e w' => e = .returned (.bool r) ∧ Below w.heap.size w w' := by
 have hu25 := Tryd.underlying25
 have hu27 := Tryd.underlying27
 have HR0 := Aside0.mk hr0
 have HC0 := Aside0.mk hc0
 clear hr0 hc0
 have HB := Aside0.mk (Below.refl w.heap.size w)
 have H : ((gleemake_Stream_Interval.f k l0 0).bind fun bt205 => ((tune_Within.f k bt205.1 bt205.2.1 bt205.2.2.1 bt205.2.2.2.1).bind fun bt211 => (if bt211.2.2.2.2.2 = 0 then ((tune_Compare.f k 0 0 0 0 bt211.1 bt211.2.1 bt211.2.2.1 bt211.2.2.2.1).bind fun bt218 => ((tune_Compare.f k bt211.1 bt211.2.1 bt211.2.2.1 bt211.2.2.2.1 1 0 0 0).bind fun bt220 => (if bt218.2 = 0 then (if bt220.2 = 0 then (if bt218.1 ≤ 0 then (if bt220.1 < 0 then (if ((wrap64 (bt211.1 + bt211.2.2.2.2.1)) == bt205.1 && (bt211.2.1 == bt205.2.1 && (bt211.2.2.1 == bt205.2.2.1 && (bt211.2.2.2.1 == bt205.2.2.2.1)))) = true then ((gleekeep1_ready.f).bind fun t222 => (some t222)) else (none)) else (none)) else (none)) else (none)) else (none)))) else (if bt211.2.2.2.2.2 = 1 then ((gleekeep1_ready.f).bind fun t223 => (some t223)) else (none))))) = some r := h
 clear h
 replace H := Option.bind_eq_some_iff.mp H
 obtain ⟨⟨t205, t206, t207, t208, t209⟩, A20, H⟩ := H
 replace H : ((tune_Within.f k t205 t206 t207 t208).bind fun bt211 => (if bt211.2.2.2.2.2 = 0 then ((tune_Compare.f k 0 0 0 0 bt211.1 bt211.2.1 bt211.2.2.1 bt211.2.2.2.1).bind fun bt218 => ((tune_Compare.f k bt211.1 bt211.2.1 bt211.2.2.1 bt211.2.2.2.1 1 0 0 0).bind fun bt220 => (if bt218.2 = 0 then (if bt220.2 = 0 then (if bt218.1 ≤ 0 then (if bt220.1 < 0 then (if ((wrap64 (bt211.1 + bt211.2.2.2.2.1)) == t205 && (bt211.2.1 == t206 && (bt211.2.2.1 == t207 && (bt211.2.2.2.1 == t208)))) = true then ((gleekeep1_ready.f).bind fun t222 => (some t222)) else (none)) else (none)) else (none)) else (none)) else (none)))) else (if bt211.2.2.2.2.2 = 1 then ((gleekeep1_ready.f).bind fun t223 => (some t223)) else (none)))) = some r := H
 have A2 := Aside0.mk A20
 clear A20
 replace H := Option.bind_eq_some_iff.mp H
 obtain ⟨⟨t211, t212, t213, t214, t215, t216⟩, A30, H⟩ := H
 replace H : (if t216 = 0 then ((tune_Compare.f k 0 0 0 0 t211 t212 t213 t214).bind fun bt218 => ((tune_Compare.f k t211 t212 t213 t214 1 0 0 0).bind fun bt220 => (if bt218.2 = 0 then (if bt220.2 = 0 then (if bt218.1 ≤ 0 then (if bt220.1 < 0 then (if ((wrap64 (t211 + t215)) == t205 && (t212 == t206 && (t213 == t207 && (t214 == t208)))) = true then ((gleekeep1_ready.f).bind fun t222 => (some t222)) else (none)) else (none)) else (none)) else (none)) else (none)))) else (if t216 = 1 then ((gleekeep1_ready.f).bind fun t223 => (some t223)) else (none))) = some r := H
 have A3 := Aside0.mk A30
 clear A30
 by_cases c4 : t216 = 0
 ·
  rw [if_pos c4] at H
  have c4b0 : (t216 == 0) = true := beq_iff_eq.mpr c4
  have c4b1 : (t216 != 0) = false := bne_eq_false_iff_eq.mpr c4
  clear c4
  replace H := Option.bind_eq_some_iff.mp H
  obtain ⟨⟨t218, t219⟩, A50, H⟩ := H
  replace H : ((tune_Compare.f k t211 t212 t213 t214 1 0 0 0).bind fun bt220 => (if t219 = 0 then (if bt220.2 = 0 then (if t218 ≤ 0 then (if bt220.1 < 0 then (if ((wrap64 (t211 + t215)) == t205 && (t212 == t206 && (t213 == t207 && (t214 == t208)))) = true then ((gleekeep1_ready.f).bind fun t222 => (some t222)) else (none)) else (none)) else (none)) else (none)) else (none))) = some r := H
  have A5 := Aside0.mk A50
  clear A50
  replace H := Option.bind_eq_some_iff.mp H
  obtain ⟨⟨t220, t221⟩, A60, H⟩ := H
  replace H : (if t219 = 0 then (if t221 = 0 then (if t218 ≤ 0 then (if t220 < 0 then (if ((wrap64 (t211 + t215)) == t205 && (t212 == t206 && (t213 == t207 && (t214 == t208)))) = true then ((gleekeep1_ready.f).bind fun t222 => (some t222)) else (none)) else (none)) else (none)) else (none)) else (none)) = some r := H
  have A6 := Aside0.mk A60
  clear A60
  by_cases c7 : t219 = 0
  ·
   rw [if_pos c7] at H
   have c7b0 : (t219 == 0) = true := beq_iff_eq.mpr c7
   have c7b1 : (t219 != 0) = false := bne_eq_false_iff_eq.mpr c7
   clear c7
   by_cases c8 : t221 = 0
   ·
    rw [if_pos c8] at H
    have c8b0 : (t221 == 0) = true := beq_iff_eq.mpr c8
    have c8b1 : (t221 != 0) = false := bne_eq_false_iff_eq.mpr c8
    clear c8
    by_cases c9 : t218 ≤ 0
    ·
     rw [if_pos c9] at H
     have c9b0 : decide (t218 ≤ 0) = true := decide_eq_true c9
     clear c9
     by_cases c10 : t220 < 0
     ·
      rw [if_pos c10] at H
      have c10b0 : decide (t220 < 0) = true := decide_eq_true c10
      clear c10
      by_cases c11 : ((wrap64 (t211 + t215)) == t205 && (t212 == t206 && (t213 == t207 && (t214 == t208)))) = true
      ·
       rw [if_pos c11] at H
       have c11b0 : ((wrap64 (t211 + t215)) == t205 && (t212 == t206 && (t213 == t207 && (t214 == t208)))) = true := c11
       (try (have c11b1 : decide ((wrap64 (t211 + t215)) = t205 && (t212 == t206 && (t213 == t207 && (t214 == t208)))) = true := by simpa using c11))
       (try (have c11b2 : ((wrap64 (t211 + t215)) == t205 && (t212 == t206 && (t213 == t207 && (t214 == t208)))) = true := by simpa using c11))
       clear c11
       replace H := Option.bind_eq_some_iff.mp H
       obtain ⟨t222, A120, H⟩ := H
       replace H : (some t222) = some r := H
       have A12 := Aside0.mk A120
       clear A120
       obtain rfl := Option.some.inj H
       go_enter Tryd.func6, Tryd.ntmps6
       go_wp2_with (first | ((with_reducible refine gate_dst (N := 13) rfl ?_); refine box_event ?hg (N := 13) ?hd (cs := #[.slice A0 l0.length c0, .int .i64 0]) (t := 25) ?hr ?_; (case hd => rfl); (case hg => rfl); (case hr => first | (go_simp; done) | (go_simp; rfl)); intro gb204 hg w13 hbox hb; have n0_ := Aside0.mk (below_step (by repeat (first | (with_reducible first | exact HB.out | apply below_alloc | apply pw_below_drewN | apply below_drew1) | exact HB.out)) hb); have n1_ := Aside0.mk ((by rw [hg]; exact (below_size (by repeat (first | (with_reducible first | exact HB.out | apply below_alloc | apply pw_below_drewN | apply below_drew1) | exact HB.out))) : w.heap.size ≤ gb204)); have n2_ := Aside0.mk ((by rw [hg]; exact (below_size (by repeat (first | (with_reducible first | exact HB.out | apply below_alloc | apply pw_below_drewN | apply below_drew1) | exact HB.out))) : w.heap.size ≤ gb204)); have n3_ := Aside0.mk ((⟨_, _, hbox, (by rw [hg]; exact (below_size (by repeat (first | (with_reducible first | exact HB.out | apply below_alloc | apply pw_below_drewN | apply below_drew1) | exact HB.out))) : w.heap.size ≤ gb204), HR0.out⟩ : IsS25 w w13 gb204 l0 0)); clear HB; have HB := n0_; have GW204 := n1_; have GE204 := n2_; have HI204 := n3_; clear n0_ n1_ n2_ n3_; clear hb hbox hg) | ((with_reducible refine gate_callee (f := 12) rfl ?_); refine goesL_ (some 15) rfl rfl Tryd.func12 (by kernel_rfl) rfl #[.pointer (some ⟨gb204, 0, none⟩)] rfl (by (try simp only [List.map_toArray, List.map_cons, List.map_nil]); first | done | rfl | (simp only [List.length_drop, List.length_take]; rfl)) ?_; (with_reducible refine (gleemake_Stream_Interval.calls k gb204 l0 0 t205 t206 t207 t208 t209 w _ ?side1 ?side2 A2.out).mono ?_); (case side1 => repeat (first | (with_reducible first | exact HI204.out | apply IsS25.alloc | apply IsS25.drewN | apply IsS25.drew | apply IsS25.set_1) | exact HI204.out)); (case side2 => repeat (first | (with_reducible first | exact HB.out | apply below_alloc | apply pw_below_drewN | apply below_drew1 | refine below_set ?_ (IsS25.ge HI204.out)) | exact HB.out)); rintro e w14 ⟨rfl, hi, hb, hk⟩; refine ⟨_, rfl, ?_⟩; have n0_ := Aside0.mk (hb); have n1_ := Aside0.mk (hi); clear HB; clear HI204; have HB := n0_; have HI204 := n1_; clear n0_ n1_; (try clear hb); (try clear hb2); (try clear hk); (try clear hi)) | ((with_reducible refine gate_dst (N := 4) rfl ?_); refine box_event ?hg (N := 4) ?hd (cs := #[.int .i64 0, .int .i64 0, .int .i64 0, .int .i64 0]) (t := 27) ?hr ?_; (case hd => rfl); (case hg => rfl); (case hr => first | (go_simp; done) | (go_simp; rfl)); intro gb210 hg w15 hbox hb; have n0_ := Aside0.mk (IsS25.below (by repeat (first | (with_reducible first | exact HI204.out | apply IsS25.alloc | apply IsS25.drewN | apply IsS25.drew | apply IsS25.set_1) | exact HI204.out)) hb); have n1_ := Aside0.mk (below_step (by repeat (first | (with_reducible first | exact HB.out | apply below_alloc | apply pw_below_drewN | apply below_drew1 | refine below_set ?_ (IsS25.ge HI204.out)) | exact HB.out)) hb); have n2_ := Aside0.mk (hbox); have n3_ := Aside0.mk ((by rw [hg]; exact (below_size (by repeat (first | (with_reducible first | exact HB.out | apply below_alloc | apply pw_below_drewN | apply below_drew1 | refine below_set ?_ (IsS25.ge HI204.out)) | exact HB.out))) : w.heap.size ≤ gb210)); have n4_ := Aside0.mk ((by rw [hg]; exact (below_size (by repeat (first | (with_reducible first | exact HB.out | apply below_alloc | apply pw_below_drewN | apply below_drew1 | refine below_set ?_ (IsS25.ge HI204.out)) | exact HB.out))) : w.heap.size ≤ gb210)); have n5_ := Aside0.mk ((by rw [hg]; exact Nat.ne_of_lt (IsS25.lt (show IsS25 w _ gb204 l0 t209 from by repeat (first | (with_reducible first | exact HI204.out | apply IsS25.alloc | apply IsS25.drewN | apply IsS25.drew | apply IsS25.set_1) | exact HI204.out))) : gb204 ≠ gb210)); have n6_ := Aside0.mk ((by rw [hg]; exact Nat.ne_of_gt (IsS25.lt (show IsS25 w _ gb204 l0 t209 from by repeat (first | (with_reducible first | exact HI204.out | apply IsS25.alloc | apply IsS25.drewN | apply IsS25.drew | apply IsS25.set_1) | exact HI204.out))) : gb210 ≠ gb204)); clear HI204; clear HB; have HI204 := n0_; have HB := n1_; have BK210 := n2_; have GW210 := n3_; have GE210 := n4_; have NB204_210 := n5_; have NB210_204 := n6_; clear n0_ n1_ n2_ n3_ n4_ n5_ n6_; clear hb hbox hg; have hnb16 := NB210_204.out; have hnc16 := NB204_210.out; have hcz17_0 : w15.cell? ⟨gb210, 0, none⟩ = some (.int .i64 0) := (blk_cell BK210.out 0).trans rfl; have hcz17_1 : w15.cell? ⟨gb210, 1, none⟩ = some (.int .i64 0) := (blk_cell BK210.out 1).trans rfl; have hcz17_2 : w15.cell? ⟨gb210, 2, none⟩ = some (.int .i64 0) := (blk_cell BK210.out 2).trans rfl; have hcz17_3 : w15.cell? ⟨gb210, 3, none⟩ = some (.int .i64 0) := (blk_cell BK210.out 3).trans rfl; have hfz17_0 := blk_frozen BK210.out 0; have hfz17_1 := blk_frozen BK210.out 1; have hfz17_2 := blk_frozen BK210.out 2; have hfz17_3 := blk_frozen BK210.out 3) | ((with_reducible refine gate_callee (f := 20) rfl ?_); refine goesL_ (some 18) rfl rfl Tryd.func20 (by kernel_rfl) rfl #[.agg #[.int .i64 t205, .int .i64 t206, .int .i64 t207, .int .i64 t208]] rfl (by (try simp only [List.map_toArray, List.map_cons, List.map_nil]); first | done | rfl | (simp only [List.length_drop, List.length_take]; rfl)) ?_; (with_reducible refine (tune_Within.calls k t205 t206 t207 t208 t211 t212 t213 t214 t215 t216 _ A3.out).mono ?_); rintro e w18 ⟨rfl, hb⟩; refine ⟨_, rfl, ?_⟩; have n0_ := Aside0.mk (IsS25.below (show IsS25 w ((((w15.setCell ⟨gb210, 0, none⟩ (.int .i64 t205)).setCell ⟨gb210, 1, none⟩ (.int .i64 t206)).setCell ⟨gb210, 2, none⟩ (.int .i64 t207)).setCell ⟨gb210, 3, none⟩ (.int .i64 t208)) gb204 l0 t209 from by repeat (first | (with_reducible first | exact HI204.out | apply IsS25.alloc | apply IsS25.drewN | apply IsS25.drew | apply IsS25.set_1 | refine IsS25.far ?_ NB204_210.out _) | exact HI204.out)) hb); have n1_ := Aside0.mk (blk_below (g := gb210) (o := .cells #[.int .i64 t205, .int .i64 t206, .int .i64 t207, .int .i64 t208] 27 (0, 0)) (by (with_reducible repeat (first | refine blk_drewN ?_ _ | refine blk_drew ?_ | refine blk_alloc ?_ _)); refine blk_put (cs := #[.int .i64 t205, .int .i64 t206, .int .i64 t207, .int .i64 0]) ?_ 3 _ rfl; (with_reducible repeat (first | refine blk_drewN ?_ _ | refine blk_drew ?_ | refine blk_alloc ?_ _)); refine blk_put (cs := #[.int .i64 t205, .int .i64 t206, .int .i64 0, .int .i64 0]) ?_ 2 _ rfl; (with_reducible repeat (first | refine blk_drewN ?_ _ | refine blk_drew ?_ | refine blk_alloc ?_ _)); refine blk_put (cs := #[.int .i64 t205, .int .i64 0, .int .i64 0, .int .i64 0]) ?_ 1 _ rfl; (with_reducible repeat (first | refine blk_drewN ?_ _ | refine blk_drew ?_ | refine blk_alloc ?_ _)); refine blk_put (cs := #[.int .i64 0, .int .i64 0, .int .i64 0, .int .i64 0]) ?_ 0 _ rfl; (with_reducible repeat (first | refine blk_drewN ?_ _ | refine blk_drew ?_ | refine blk_alloc ?_ _)); exact BK210.out) hb); have n2_ := Aside0.mk (below_step (by repeat (first | (with_reducible first | exact HB.out | apply below_alloc | apply pw_below_drewN | apply below_drew1 | refine below_set ?_ (IsS25.ge HI204.out) | refine below_set ?_ GE210.out) | exact HB.out)) hb); clear HI204; clear BK210; clear HB; have HI204 := n0_; have BK210 := n1_; have HB := n2_; clear n0_ n1_ n2_; (try clear hb); (try clear hb2); (try clear hk); (try clear hi)) | ((with_reducible refine gate_dst (N := 5) rfl ?_); refine box_event ?hg (N := 5) ?hd (cs := #[.int .i64 0, .int .i64 0, .int .i64 0, .int .i64 0]) (t := 27) ?hr ?_; (case hd => rfl); (case hg => rfl); (case hr => first | (go_simp; done) | (go_simp; rfl)); intro gb217 hg w19 hbox hb; have n0_ := Aside0.mk (IsS25.below (by repeat (first | (with_reducible first | exact HI204.out | apply IsS25.alloc | apply IsS25.drewN | apply IsS25.drew | apply IsS25.set_1 | refine IsS25.far ?_ NB204_210.out _) | exact HI204.out)) hb); have n1_ := Aside0.mk (blk_below (g := gb210) (o := .cells #[.int .i64 t205, .int .i64 t206, .int .i64 t207, .int .i64 t208] 27 (0, 0)) (by (with_reducible repeat (first | refine blk_drewN ?_ _ | refine blk_drew ?_ | refine blk_alloc ?_ _)); exact BK210.out) hb); have n2_ := Aside0.mk (below_step (by repeat (first | (with_reducible first | exact HB.out | apply below_alloc | apply pw_below_drewN | apply below_drew1 | refine below_set ?_ (IsS25.ge HI204.out) | refine below_set ?_ GE210.out) | exact HB.out)) hb); have n3_ := Aside0.mk (hbox); have n4_ := Aside0.mk ((by rw [hg]; exact (below_size (by repeat (first | (with_reducible first | exact HB.out | apply below_alloc | apply pw_below_drewN | apply below_drew1 | refine below_set ?_ (IsS25.ge HI204.out) | refine below_set ?_ GE210.out) | exact HB.out))) : w.heap.size ≤ gb217)); have n5_ := Aside0.mk ((by rw [hg]; exact (below_size (by repeat (first | (with_reducible first | exact HB.out | apply below_alloc | apply pw_below_drewN | apply below_drew1 | refine below_set ?_ (IsS25.ge HI204.out) | refine below_set ?_ GE210.out) | exact HB.out))) : w.heap.size ≤ gb217)); have n6_ := Aside0.mk ((by rw [hg]; exact Nat.ne_of_lt (blk_lt (g := gb210) (o := .cells #[.int .i64 t205, .int .i64 t206, .int .i64 t207, .int .i64 t208] 27 (0, 0)) (by (with_reducible repeat (first | refine blk_drewN ?_ _ | refine blk_drew ?_ | refine blk_alloc ?_ _)); exact BK210.out)) : gb210 ≠ gb217)); have n7_ := Aside0.mk ((by rw [hg]; exact Nat.ne_of_gt (blk_lt (g := gb210) (o := .cells #[.int .i64 t205, .int .i64 t206, .int .i64 t207, .int .i64 t208] 27 (0, 0)) (by (with_reducible repeat (first | refine blk_drewN ?_ _ | refine blk_drew ?_ | refine blk_alloc ?_ _)); exact BK210.out)) : gb217 ≠ gb210)); have n8_ := Aside0.mk ((by rw [hg]; exact Nat.ne_of_lt (IsS25.lt (show IsS25 w _ gb204 l0 t209 from by repeat (first | (with_reducible first | exact HI204.out | apply IsS25.alloc | apply IsS25.drewN | apply IsS25.drew | apply IsS25.set_1 | refine IsS25.far ?_ NB204_210.out _) | exact HI204.out))) : gb204 ≠ gb217)); have n9_ := Aside0.mk ((by rw [hg]; exact Nat.ne_of_gt (IsS25.lt (show IsS25 w _ gb204 l0 t209 from by repeat (first | (with_reducible first | exact HI204.out | apply IsS25.alloc | apply IsS25.drewN | apply IsS25.drew | apply IsS25.set_1 | refine IsS25.far ?_ NB204_210.out _) | exact HI204.out))) : gb217 ≠ gb204)); clear HI204; clear BK210; clear HB; have HI204 := n0_; have BK210 := n1_; have HB := n2_; have BK217 := n3_; have GW217 := n4_; have GE217 := n5_; have NB210_217 := n6_; have NB217_210 := n7_; have NB204_217 := n8_; have NB217_204 := n9_; clear n0_ n1_ n2_ n3_ n4_ n5_ n6_ n7_ n8_ n9_; clear hb hbox hg; have hnb20 := NB217_210.out; have hnc20 := NB210_217.out; have hnb21 := NB217_204.out; have hnc21 := NB204_217.out; have hcz22_0 : w19.cell? ⟨gb217, 0, none⟩ = some (.int .i64 0) := (blk_cell BK217.out 0).trans rfl; have hcz22_1 : w19.cell? ⟨gb217, 1, none⟩ = some (.int .i64 0) := (blk_cell BK217.out 1).trans rfl; have hcz22_2 : w19.cell? ⟨gb217, 2, none⟩ = some (.int .i64 0) := (blk_cell BK217.out 2).trans rfl; have hcz22_3 : w19.cell? ⟨gb217, 3, none⟩ = some (.int .i64 0) := (blk_cell BK217.out 3).trans rfl; have hfz22_0 := blk_frozen BK217.out 0; have hfz22_1 := blk_frozen BK217.out 1; have hfz22_2 := blk_frozen BK217.out 2; have hfz22_3 := blk_frozen BK217.out 3) | ((with_reducible refine gate_callee (f := 25) rfl ?_); refine goesL_ (some 32) rfl rfl Tryd.func25 (by kernel_rfl) rfl #[.agg #[.int .i64 0, .int .i64 0, .int .i64 0, .int .i64 0], .agg #[.int .i64 t211, .int .i64 t212, .int .i64 t213, .int .i64 t214]] rfl (by (try simp only [List.map_toArray, List.map_cons, List.map_nil]); first | done | rfl | (simp only [List.length_drop, List.length_take]; rfl)) ?_; (with_reducible refine (tune_Compare.calls k 0 0 0 0 t211 t212 t213 t214 t218 t219 _ A5.out).mono ?_); rintro e w23 ⟨rfl, hb⟩; refine ⟨_, rfl, ?_⟩; have n0_ := Aside0.mk (IsS25.below (show IsS25 w ((((w19.setCell ⟨gb217, 0, none⟩ (.int .i64 t211)).setCell ⟨gb217, 1, none⟩ (.int .i64 t212)).setCell ⟨gb217, 2, none⟩ (.int .i64 t213)).setCell ⟨gb217, 3, none⟩ (.int .i64 t214)) gb204 l0 t209 from by repeat (first | (with_reducible first | exact HI204.out | apply IsS25.alloc | apply IsS25.drewN | apply IsS25.drew | apply IsS25.set_1 | refine IsS25.far ?_ NB204_210.out _ | refine IsS25.far ?_ NB204_217.out _) | exact HI204.out)) hb); have n1_ := Aside0.mk (blk_below (g := gb210) (o := .cells #[.int .i64 t205, .int .i64 t206, .int .i64 t207, .int .i64 t208] 27 (0, 0)) (by (with_reducible repeat (first | refine blk_drewN ?_ _ | refine blk_drew ?_ | refine blk_alloc ?_ _)); refine blk_far ?_ NB210_217.out _; (with_reducible repeat (first | refine blk_drewN ?_ _ | refine blk_drew ?_ | refine blk_alloc ?_ _)); refine blk_far ?_ NB210_217.out _; (with_reducible repeat (first | refine blk_drewN ?_ _ | refine blk_drew ?_ | refine blk_alloc ?_ _)); refine blk_far ?_ NB210_217.out _; (with_reducible repeat (first | refine blk_drewN ?_ _ | refine blk_drew ?_ | refine blk_alloc ?_ _)); refine blk_far ?_ NB210_217.out _; (with_reducible repeat (first | refine blk_drewN ?_ _ | refine blk_drew ?_ | refine blk_alloc ?_ _)); exact BK210.out) hb); have n2_ := Aside0.mk (blk_below (g := gb217) (o := .cells #[.int .i64 t211, .int .i64 t212, .int .i64 t213, .int .i64 t214] 27 (0, 0)) (by (with_reducible repeat (first | refine blk_drewN ?_ _ | refine blk_drew ?_ | refine blk_alloc ?_ _)); refine blk_put (cs := #[.int .i64 t211, .int .i64 t212, .int .i64 t213, .int .i64 0]) ?_ 3 _ rfl; (with_reducible repeat (first | refine blk_drewN ?_ _ | refine blk_drew ?_ | refine blk_alloc ?_ _)); refine blk_put (cs := #[.int .i64 t211, .int .i64 t212, .int .i64 0, .int .i64 0]) ?_ 2 _ rfl; (with_reducible repeat (first | refine blk_drewN ?_ _ | refine blk_drew ?_ | refine blk_alloc ?_ _)); refine blk_put (cs := #[.int .i64 t211, .int .i64 0, .int .i64 0, .int .i64 0]) ?_ 1 _ rfl; (with_reducible repeat (first | refine blk_drewN ?_ _ | refine blk_drew ?_ | refine blk_alloc ?_ _)); refine blk_put (cs := #[.int .i64 0, .int .i64 0, .int .i64 0, .int .i64 0]) ?_ 0 _ rfl; (with_reducible repeat (first | refine blk_drewN ?_ _ | refine blk_drew ?_ | refine blk_alloc ?_ _)); exact BK217.out) hb); have n3_ := Aside0.mk (below_step (by repeat (first | (with_reducible first | exact HB.out | apply below_alloc | apply pw_below_drewN | apply below_drew1 | refine below_set ?_ (IsS25.ge HI204.out) | refine below_set ?_ GE210.out | refine below_set ?_ GE217.out) | exact HB.out)) hb); clear HI204; clear BK210; clear BK217; clear HB; have HI204 := n0_; have BK210 := n1_; have BK217 := n2_; have HB := n3_; clear n0_ n1_ n2_ n3_; (try clear hb); (try clear hb2); (try clear hk); (try clear hi); have hcz24_0 : w23.cell? ⟨gb217, 0, none⟩ = some (.int .i64 t211) := (blk_cell BK217.out 0).trans rfl; have hcz24_1 : w23.cell? ⟨gb217, 1, none⟩ = some (.int .i64 t212) := (blk_cell BK217.out 1).trans rfl; have hcz24_2 : w23.cell? ⟨gb217, 2, none⟩ = some (.int .i64 t213) := (blk_cell BK217.out 2).trans rfl; have hcz24_3 : w23.cell? ⟨gb217, 3, none⟩ = some (.int .i64 t214) := (blk_cell BK217.out 3).trans rfl; have hfz24_0 := blk_frozen BK217.out 0; have hfz24_1 := blk_frozen BK217.out 1; have hfz24_2 := blk_frozen BK217.out 2; have hfz24_3 := blk_frozen BK217.out 3) | ((with_reducible refine gate_callee (f := 25) rfl ?_); refine goesL_ (some 38) rfl rfl Tryd.func25 (by kernel_rfl) rfl #[.agg #[.int .i64 t211, .int .i64 t212, .int .i64 t213, .int .i64 t214], .agg #[.int .i64 1, .int .i64 0, .int .i64 0, .int .i64 0]] rfl (by (try simp only [List.map_toArray, List.map_cons, List.map_nil]); first | done | rfl | (simp only [List.length_drop, List.length_take]; rfl)) ?_; (with_reducible refine (tune_Compare.calls k t211 t212 t213 t214 1 0 0 0 t220 t221 _ A6.out).mono ?_); rintro e w25 ⟨rfl, hb⟩; refine ⟨_, rfl, ?_⟩; have n0_ := Aside0.mk (IsS25.below (by repeat (first | (with_reducible first | exact HI204.out | apply IsS25.alloc | apply IsS25.drewN | apply IsS25.drew | apply IsS25.set_1 | refine IsS25.far ?_ NB204_210.out _ | refine IsS25.far ?_ NB204_217.out _) | exact HI204.out)) hb); have n1_ := Aside0.mk (blk_below (g := gb210) (o := .cells #[.int .i64 t205, .int .i64 t206, .int .i64 t207, .int .i64 t208] 27 (0, 0)) (by (with_reducible repeat (first | refine blk_drewN ?_ _ | refine blk_drew ?_ | refine blk_alloc ?_ _)); exact BK210.out) hb); have n2_ := Aside0.mk (blk_below (g := gb217) (o := .cells #[.int .i64 t211, .int .i64 t212, .int .i64 t213, .int .i64 t214] 27 (0, 0)) (by (with_reducible repeat (first | refine blk_drewN ?_ _ | refine blk_drew ?_ | refine blk_alloc ?_ _)); exact BK217.out) hb); have n3_ := Aside0.mk (below_step (by repeat (first | (with_reducible first | exact HB.out | apply below_alloc | apply pw_below_drewN | apply below_drew1 | refine below_set ?_ (IsS25.ge HI204.out) | refine below_set ?_ GE210.out | refine below_set ?_ GE217.out) | exact HB.out)) hb); clear HI204; clear BK210; clear BK217; clear HB; have HI204 := n0_; have BK210 := n1_; have BK217 := n2_; have HB := n3_; clear n0_ n1_ n2_ n3_; (try clear hb); (try clear hb2); (try clear hk); (try clear hi); have hcz26_0 : w25.cell? ⟨gb217, 0, none⟩ = some (.int .i64 t211) := (blk_cell BK217.out 0).trans rfl; have hcz26_1 : w25.cell? ⟨gb217, 1, none⟩ = some (.int .i64 t212) := (blk_cell BK217.out 1).trans rfl; have hcz26_2 : w25.cell? ⟨gb217, 2, none⟩ = some (.int .i64 t213) := (blk_cell BK217.out 2).trans rfl; have hcz26_3 : w25.cell? ⟨gb217, 3, none⟩ = some (.int .i64 t214) := (blk_cell BK217.out 3).trans rfl; have hfz26_0 := blk_frozen BK217.out 0; have hfz26_1 := blk_frozen BK217.out 1; have hfz26_2 := blk_frozen BK217.out 2; have hfz26_3 := blk_frozen BK217.out 3; have hcz27_0 : w25.cell? ⟨gb210, 0, none⟩ = some (.int .i64 t205) := (blk_cell BK210.out 0).trans rfl; have hcz27_1 : w25.cell? ⟨gb210, 1, none⟩ = some (.int .i64 t206) := (blk_cell BK210.out 1).trans rfl; have hcz27_2 : w25.cell? ⟨gb210, 2, none⟩ = some (.int .i64 t207) := (blk_cell BK210.out 2).trans rfl; have hcz27_3 : w25.cell? ⟨gb210, 3, none⟩ = some (.int .i64 t208) := (blk_cell BK210.out 3).trans rfl; have hfz27_0 := blk_frozen BK210.out 0; have hfz27_1 := blk_frozen BK210.out 1; have hfz27_2 := blk_frozen BK210.out 2; have hfz27_3 := blk_frozen BK210.out 3) | (go_at_call 32; (with_reducible refine (gleekeep1_ready.calls  t222 _ A12.out).mono ?_); rintro e w28 ⟨rfl, hb⟩; have n0_ := Aside0.mk (IsS25.below (show IsS25 w (w25.setCell ⟨gb217, 0, none⟩ (.int .i64 (wrap64 (t211 + t215)))) gb204 l0 t209 from by repeat (first | (with_reducible first | exact HI204.out | apply IsS25.alloc | apply IsS25.drewN | apply IsS25.drew | apply IsS25.set_1 | refine IsS25.far ?_ NB204_210.out _ | refine IsS25.far ?_ NB204_217.out _) | exact HI204.out)) hb); have n1_ := Aside0.mk (blk_below (g := gb210) (o := .cells #[.int .i64 t205, .int .i64 t206, .int .i64 t207, .int .i64 t208] 27 (0, 0)) (by (with_reducible repeat (first | refine blk_drewN ?_ _ | refine blk_drew ?_ | refine blk_alloc ?_ _)); refine blk_far ?_ NB210_217.out _; (with_reducible repeat (first | refine blk_drewN ?_ _ | refine blk_drew ?_ | refine blk_alloc ?_ _)); exact BK210.out) hb); have n2_ := Aside0.mk (blk_below (g := gb217) (o := .cells #[.int .i64 (wrap64 (t211 + t215)), .int .i64 t212, .int .i64 t213, .int .i64 t214] 27 (0, 0)) (by (with_reducible repeat (first | refine blk_drewN ?_ _ | refine blk_drew ?_ | refine blk_alloc ?_ _)); refine blk_put (cs := #[.int .i64 t211, .int .i64 t212, .int .i64 t213, .int .i64 t214]) ?_ 0 _ rfl; (with_reducible repeat (first | refine blk_drewN ?_ _ | refine blk_drew ?_ | refine blk_alloc ?_ _)); exact BK217.out) hb); have n3_ := Aside0.mk (below_step (by repeat (first | (with_reducible first | exact HB.out | apply below_alloc | apply pw_below_drewN | apply below_drew1 | refine below_set ?_ (IsS25.ge HI204.out) | refine below_set ?_ GE210.out | refine below_set ?_ GE217.out) | exact HB.out)) hb); clear HI204; clear BK210; clear BK217; clear HB; have HI204 := n0_; have BK210 := n1_; have BK217 := n2_; have HB := n3_; clear n0_ n1_ n2_ n3_; (try clear hb); (try clear hb2); (try clear hk); (try clear hi)))
       go_ret
       exact ⟨by first | rfl | (simp [errW_none, errW_some] <;> rfl) | (simp [*, errW_none, errW_some] <;> rfl), by repeat (first | (with_reducible first | exact HB.out | apply below_alloc | apply pw_below_drewN | apply below_drew1 | refine below_set ?_ (IsS25.ge HI204.out) | refine below_set ?_ GE210.out | refine below_set ?_ GE217.out) | exact HB.out)⟩
      ·
       rw [if_neg c11] at H
       exact absurd H (by simp)
     ·
      rw [if_neg c10] at H
      exact absurd H (by simp)
    ·
     rw [if_neg c9] at H
     exact absurd H (by simp)
   ·
    rw [if_neg c8] at H
    exact absurd H (by simp)
  ·
   rw [if_neg c7] at H
   exact absurd H (by simp)
 ·
  rw [if_neg c4] at H
  have c4b0 : (t216 == 0) = false := beq_eq_false_iff_ne.mpr c4
  have c4b1 : (t216 != 0) = true := bne_iff_ne.mpr c4
  by_cases c29 : t216 = 1
  ·
   rw [if_pos c29] at H
   have c29b0 : (t216 == 1) = true := beq_iff_eq.mpr c29
   have c29b1 : (t216 != 1) = false := bne_eq_false_iff_eq.mpr c29
   clear c29
   replace H := Option.bind_eq_some_iff.mp H
   obtain ⟨t223, A300, H⟩ := H
   replace H : (some t223) = some r := H
   have A30 := Aside0.mk A300
   clear A300
   obtain rfl := Option.some.inj H
   go_enter Tryd.func6, Tryd.ntmps6
   go_wp2_with (first | ((with_reducible refine gate_dst (N := 13) rfl ?_); refine box_event ?hg (N := 13) ?hd (cs := #[.slice A0 l0.length c0, .int .i64 0]) (t := 25) ?hr ?_; (case hd => rfl); (case hg => rfl); (case hr => first | (go_simp; done) | (go_simp; rfl)); intro gb204 hg w31 hbox hb; have n0_ := Aside0.mk (below_step (by repeat (first | (with_reducible first | exact HB.out | apply below_alloc | apply pw_below_drewN | apply below_drew1) | exact HB.out)) hb); have n1_ := Aside0.mk ((by rw [hg]; exact (below_size (by repeat (first | (with_reducible first | exact HB.out | apply below_alloc | apply pw_below_drewN | apply below_drew1) | exact HB.out))) : w.heap.size ≤ gb204)); have n2_ := Aside0.mk ((by rw [hg]; exact (below_size (by repeat (first | (with_reducible first | exact HB.out | apply below_alloc | apply pw_below_drewN | apply below_drew1) | exact HB.out))) : w.heap.size ≤ gb204)); have n3_ := Aside0.mk ((⟨_, _, hbox, (by rw [hg]; exact (below_size (by repeat (first | (with_reducible first | exact HB.out | apply below_alloc | apply pw_below_drewN | apply below_drew1) | exact HB.out))) : w.heap.size ≤ gb204), HR0.out⟩ : IsS25 w w31 gb204 l0 0)); clear HB; have HB := n0_; have GW204 := n1_; have GE204 := n2_; have HI204 := n3_; clear n0_ n1_ n2_ n3_; clear hb hbox hg) | ((with_reducible refine gate_callee (f := 12) rfl ?_); refine goesL_ (some 15) rfl rfl Tryd.func12 (by kernel_rfl) rfl #[.pointer (some ⟨gb204, 0, none⟩)] rfl (by (try simp only [List.map_toArray, List.map_cons, List.map_nil]); first | done | rfl | (simp only [List.length_drop, List.length_take]; rfl)) ?_; (with_reducible refine (gleemake_Stream_Interval.calls k gb204 l0 0 t205 t206 t207 t208 t209 w _ ?side1 ?side2 A2.out).mono ?_); (case side1 => repeat (first | (with_reducible first | exact HI204.out | apply IsS25.alloc | apply IsS25.drewN | apply IsS25.drew | apply IsS25.set_1) | exact HI204.out)); (case side2 => repeat (first | (with_reducible first | exact HB.out | apply below_alloc | apply pw_below_drewN | apply below_drew1 | refine below_set ?_ (IsS25.ge HI204.out)) | exact HB.out)); rintro e w32 ⟨rfl, hi, hb, hk⟩; refine ⟨_, rfl, ?_⟩; have n0_ := Aside0.mk (hb); have n1_ := Aside0.mk (hi); clear HB; clear HI204; have HB := n0_; have HI204 := n1_; clear n0_ n1_; (try clear hb); (try clear hb2); (try clear hk); (try clear hi)) | ((with_reducible refine gate_dst (N := 4) rfl ?_); refine box_event ?hg (N := 4) ?hd (cs := #[.int .i64 0, .int .i64 0, .int .i64 0, .int .i64 0]) (t := 27) ?hr ?_; (case hd => rfl); (case hg => rfl); (case hr => first | (go_simp; done) | (go_simp; rfl)); intro gb210 hg w33 hbox hb; have n0_ := Aside0.mk (IsS25.below (by repeat (first | (with_reducible first | exact HI204.out | apply IsS25.alloc | apply IsS25.drewN | apply IsS25.drew | apply IsS25.set_1) | exact HI204.out)) hb); have n1_ := Aside0.mk (below_step (by repeat (first | (with_reducible first | exact HB.out | apply below_alloc | apply pw_below_drewN | apply below_drew1 | refine below_set ?_ (IsS25.ge HI204.out)) | exact HB.out)) hb); have n2_ := Aside0.mk (hbox); have n3_ := Aside0.mk ((by rw [hg]; exact (below_size (by repeat (first | (with_reducible first | exact HB.out | apply below_alloc | apply pw_below_drewN | apply below_drew1 | refine below_set ?_ (IsS25.ge HI204.out)) | exact HB.out))) : w.heap.size ≤ gb210)); have n4_ := Aside0.mk ((by rw [hg]; exact (below_size (by repeat (first | (with_reducible first | exact HB.out | apply below_alloc | apply pw_below_drewN | apply below_drew1 | refine below_set ?_ (IsS25.ge HI204.out)) | exact HB.out))) : w.heap.size ≤ gb210)); have n5_ := Aside0.mk ((by rw [hg]; exact Nat.ne_of_lt (IsS25.lt (show IsS25 w _ gb204 l0 t209 from by repeat (first | (with_reducible first | exact HI204.out | apply IsS25.alloc | apply IsS25.drewN | apply IsS25.drew | apply IsS25.set_1) | exact HI204.out))) : gb204 ≠ gb210)); have n6_ := Aside0.mk ((by rw [hg]; exact Nat.ne_of_gt (IsS25.lt (show IsS25 w _ gb204 l0 t209 from by repeat (first | (with_reducible first | exact HI204.out | apply IsS25.alloc | apply IsS25.drewN | apply IsS25.drew | apply IsS25.set_1) | exact HI204.out))) : gb210 ≠ gb204)); clear HI204; clear HB; have HI204 := n0_; have HB := n1_; have BK210 := n2_; have GW210 := n3_; have GE210 := n4_; have NB204_210 := n5_; have NB210_204 := n6_; clear n0_ n1_ n2_ n3_ n4_ n5_ n6_; clear hb hbox hg; have hnb34 := NB210_204.out; have hnc34 := NB204_210.out; have hcz35_0 : w33.cell? ⟨gb210, 0, none⟩ = some (.int .i64 0) := (blk_cell BK210.out 0).trans rfl; have hcz35_1 : w33.cell? ⟨gb210, 1, none⟩ = some (.int .i64 0) := (blk_cell BK210.out 1).trans rfl; have hcz35_2 : w33.cell? ⟨gb210, 2, none⟩ = some (.int .i64 0) := (blk_cell BK210.out 2).trans rfl; have hcz35_3 : w33.cell? ⟨gb210, 3, none⟩ = some (.int .i64 0) := (blk_cell BK210.out 3).trans rfl; have hfz35_0 := blk_frozen BK210.out 0; have hfz35_1 := blk_frozen BK210.out 1; have hfz35_2 := blk_frozen BK210.out 2; have hfz35_3 := blk_frozen BK210.out 3) | ((with_reducible refine gate_callee (f := 20) rfl ?_); refine goesL_ (some 18) rfl rfl Tryd.func20 (by kernel_rfl) rfl #[.agg #[.int .i64 t205, .int .i64 t206, .int .i64 t207, .int .i64 t208]] rfl (by (try simp only [List.map_toArray, List.map_cons, List.map_nil]); first | done | rfl | (simp only [List.length_drop, List.length_take]; rfl)) ?_; (with_reducible refine (tune_Within.calls k t205 t206 t207 t208 t211 t212 t213 t214 t215 t216 _ A3.out).mono ?_); rintro e w36 ⟨rfl, hb⟩; refine ⟨_, rfl, ?_⟩; have n0_ := Aside0.mk (IsS25.below (show IsS25 w ((((w33.setCell ⟨gb210, 0, none⟩ (.int .i64 t205)).setCell ⟨gb210, 1, none⟩ (.int .i64 t206)).setCell ⟨gb210, 2, none⟩ (.int .i64 t207)).setCell ⟨gb210, 3, none⟩ (.int .i64 t208)) gb204 l0 t209 from by repeat (first | (with_reducible first | exact HI204.out | apply IsS25.alloc | apply IsS25.drewN | apply IsS25.drew | apply IsS25.set_1 | refine IsS25.far ?_ NB204_210.out _) | exact HI204.out)) hb); have n1_ := Aside0.mk (blk_below (g := gb210) (o := .cells #[.int .i64 t205, .int .i64 t206, .int .i64 t207, .int .i64 t208] 27 (0, 0)) (by (with_reducible repeat (first | refine blk_drewN ?_ _ | refine blk_drew ?_ | refine blk_alloc ?_ _)); refine blk_put (cs := #[.int .i64 t205, .int .i64 t206, .int .i64 t207, .int .i64 0]) ?_ 3 _ rfl; (with_reducible repeat (first | refine blk_drewN ?_ _ | refine blk_drew ?_ | refine blk_alloc ?_ _)); refine blk_put (cs := #[.int .i64 t205, .int .i64 t206, .int .i64 0, .int .i64 0]) ?_ 2 _ rfl; (with_reducible repeat (first | refine blk_drewN ?_ _ | refine blk_drew ?_ | refine blk_alloc ?_ _)); refine blk_put (cs := #[.int .i64 t205, .int .i64 0, .int .i64 0, .int .i64 0]) ?_ 1 _ rfl; (with_reducible repeat (first | refine blk_drewN ?_ _ | refine blk_drew ?_ | refine blk_alloc ?_ _)); refine blk_put (cs := #[.int .i64 0, .int .i64 0, .int .i64 0, .int .i64 0]) ?_ 0 _ rfl; (with_reducible repeat (first | refine blk_drewN ?_ _ | refine blk_drew ?_ | refine blk_alloc ?_ _)); exact BK210.out) hb); have n2_ := Aside0.mk (below_step (by repeat (first | (with_reducible first | exact HB.out | apply below_alloc | apply pw_below_drewN | apply below_drew1 | refine below_set ?_ (IsS25.ge HI204.out) | refine below_set ?_ GE210.out) | exact HB.out)) hb); clear HI204; clear BK210; clear HB; have HI204 := n0_; have BK210 := n1_; have HB := n2_; clear n0_ n1_ n2_; (try clear hb); (try clear hb2); (try clear hk); (try clear hi)) | ((with_reducible refine gate_dst (N := 5) rfl ?_); refine box_event ?hg (N := 5) ?hd (cs := #[.int .i64 0, .int .i64 0, .int .i64 0, .int .i64 0]) (t := 27) ?hr ?_; (case hd => rfl); (case hg => rfl); (case hr => first | (go_simp; done) | (go_simp; rfl)); intro gb217 hg w37 hbox hb; have n0_ := Aside0.mk (IsS25.below (by repeat (first | (with_reducible first | exact HI204.out | apply IsS25.alloc | apply IsS25.drewN | apply IsS25.drew | apply IsS25.set_1 | refine IsS25.far ?_ NB204_210.out _) | exact HI204.out)) hb); have n1_ := Aside0.mk (blk_below (g := gb210) (o := .cells #[.int .i64 t205, .int .i64 t206, .int .i64 t207, .int .i64 t208] 27 (0, 0)) (by (with_reducible repeat (first | refine blk_drewN ?_ _ | refine blk_drew ?_ | refine blk_alloc ?_ _)); exact BK210.out) hb); have n2_ := Aside0.mk (below_step (by repeat (first | (with_reducible first | exact HB.out | apply below_alloc | apply pw_below_drewN | apply below_drew1 | refine below_set ?_ (IsS25.ge HI204.out) | refine below_set ?_ GE210.out) | exact HB.out)) hb); have n3_ := Aside0.mk (hbox); have n4_ := Aside0.mk ((by rw [hg]; exact (below_size (by repeat (first | (with_reducible first | exact HB.out | apply below_alloc | apply pw_below_drewN | apply below_drew1 | refine below_set ?_ (IsS25.ge HI204.out) | refine below_set ?_ GE210.out) | exact HB.out))) : w.heap.size ≤ gb217)); have n5_ := Aside0.mk ((by rw [hg]; exact (below_size (by repeat (first | (with_reducible first | exact HB.out | apply below_alloc | apply pw_below_drewN | apply below_drew1 | refine below_set ?_ (IsS25.ge HI204.out) | refine below_set ?_ GE210.out) | exact HB.out))) : w.heap.size ≤ gb217)); have n6_ := Aside0.mk ((by rw [hg]; exact Nat.ne_of_lt (blk_lt (g := gb210) (o := .cells #[.int .i64 t205, .int .i64 t206, .int .i64 t207, .int .i64 t208] 27 (0, 0)) (by (with_reducible repeat (first | refine blk_drewN ?_ _ | refine blk_drew ?_ | refine blk_alloc ?_ _)); exact BK210.out)) : gb210 ≠ gb217)); have n7_ := Aside0.mk ((by rw [hg]; exact Nat.ne_of_gt (blk_lt (g := gb210) (o := .cells #[.int .i64 t205, .int .i64 t206, .int .i64 t207, .int .i64 t208] 27 (0, 0)) (by (with_reducible repeat (first | refine blk_drewN ?_ _ | refine blk_drew ?_ | refine blk_alloc ?_ _)); exact BK210.out)) : gb217 ≠ gb210)); have n8_ := Aside0.mk ((by rw [hg]; exact Nat.ne_of_lt (IsS25.lt (show IsS25 w _ gb204 l0 t209 from by repeat (first | (with_reducible first | exact HI204.out | apply IsS25.alloc | apply IsS25.drewN | apply IsS25.drew | apply IsS25.set_1 | refine IsS25.far ?_ NB204_210.out _) | exact HI204.out))) : gb204 ≠ gb217)); have n9_ := Aside0.mk ((by rw [hg]; exact Nat.ne_of_gt (IsS25.lt (show IsS25 w _ gb204 l0 t209 from by repeat (first | (with_reducible first | exact HI204.out | apply IsS25.alloc | apply IsS25.drewN | apply IsS25.drew | apply IsS25.set_1 | refine IsS25.far ?_ NB204_210.out _) | exact HI204.out))) : gb217 ≠ gb204)); clear HI204; clear BK210; clear HB; have HI204 := n0_; have BK210 := n1_; have HB := n2_; have BK217 := n3_; have GW217 := n4_; have GE217 := n5_; have NB210_217 := n6_; have NB217_210 := n7_; have NB204_217 := n8_; have NB217_204 := n9_; clear n0_ n1_ n2_ n3_ n4_ n5_ n6_ n7_ n8_ n9_; clear hb hbox hg; have hnb38 := NB217_210.out; have hnc38 := NB210_217.out; have hnb39 := NB217_204.out; have hnc39 := NB204_217.out; have hcz40_0 : w37.cell? ⟨gb217, 0, none⟩ = some (.int .i64 0) := (blk_cell BK217.out 0).trans rfl; have hcz40_1 : w37.cell? ⟨gb217, 1, none⟩ = some (.int .i64 0) := (blk_cell BK217.out 1).trans rfl; have hcz40_2 : w37.cell? ⟨gb217, 2, none⟩ = some (.int .i64 0) := (blk_cell BK217.out 2).trans rfl; have hcz40_3 : w37.cell? ⟨gb217, 3, none⟩ = some (.int .i64 0) := (blk_cell BK217.out 3).trans rfl; have hfz40_0 := blk_frozen BK217.out 0; have hfz40_1 := blk_frozen BK217.out 1; have hfz40_2 := blk_frozen BK217.out 2; have hfz40_3 := blk_frozen BK217.out 3) | (go_at_call 32; (with_reducible refine (gleekeep1_ready.calls  t223 _ A30.out).mono ?_); rintro e w41 ⟨rfl, hb⟩; have n0_ := Aside0.mk (IsS25.below (show IsS25 w ((((w37.setCell ⟨gb217, 0, none⟩ (.int .i64 t211)).setCell ⟨gb217, 1, none⟩ (.int .i64 t212)).setCell ⟨gb217, 2, none⟩ (.int .i64 t213)).setCell ⟨gb217, 3, none⟩ (.int .i64 t214)) gb204 l0 t209 from by repeat (first | (with_reducible first | exact HI204.out | apply IsS25.alloc | apply IsS25.drewN | apply IsS25.drew | apply IsS25.set_1 | refine IsS25.far ?_ NB204_210.out _ | refine IsS25.far ?_ NB204_217.out _) | exact HI204.out)) hb); have n1_ := Aside0.mk (blk_below (g := gb210) (o := .cells #[.int .i64 t205, .int .i64 t206, .int .i64 t207, .int .i64 t208] 27 (0, 0)) (by (with_reducible repeat (first | refine blk_drewN ?_ _ | refine blk_drew ?_ | refine blk_alloc ?_ _)); refine blk_far ?_ NB210_217.out _; (with_reducible repeat (first | refine blk_drewN ?_ _ | refine blk_drew ?_ | refine blk_alloc ?_ _)); refine blk_far ?_ NB210_217.out _; (with_reducible repeat (first | refine blk_drewN ?_ _ | refine blk_drew ?_ | refine blk_alloc ?_ _)); refine blk_far ?_ NB210_217.out _; (with_reducible repeat (first | refine blk_drewN ?_ _ | refine blk_drew ?_ | refine blk_alloc ?_ _)); refine blk_far ?_ NB210_217.out _; (with_reducible repeat (first | refine blk_drewN ?_ _ | refine blk_drew ?_ | refine blk_alloc ?_ _)); exact BK210.out) hb); have n2_ := Aside0.mk (blk_below (g := gb217) (o := .cells #[.int .i64 t211, .int .i64 t212, .int .i64 t213, .int .i64 t214] 27 (0, 0)) (by (with_reducible repeat (first | refine blk_drewN ?_ _ | refine blk_drew ?_ | refine blk_alloc ?_ _)); refine blk_put (cs := #[.int .i64 t211, .int .i64 t212, .int .i64 t213, .int .i64 0]) ?_ 3 _ rfl; (with_reducible repeat (first | refine blk_drewN ?_ _ | refine blk_drew ?_ | refine blk_alloc ?_ _)); refine blk_put (cs := #[.int .i64 t211, .int .i64 t212, .int .i64 0, .int .i64 0]) ?_ 2 _ rfl; (with_reducible repeat (first | refine blk_drewN ?_ _ | refine blk_drew ?_ | refine blk_alloc ?_ _)); refine blk_put (cs := #[.int .i64 t211, .int .i64 0, .int .i64 0, .int .i64 0]) ?_ 1 _ rfl; (with_reducible repeat (first | refine blk_drewN ?_ _ | refine blk_drew ?_ | refine blk_alloc ?_ _)); refine blk_put (cs := #[.int .i64 0, .int .i64 0, .int .i64 0, .int .i64 0]) ?_ 0 _ rfl; (with_reducible repeat (first | refine blk_drewN ?_ _ | refine blk_drew ?_ | refine blk_alloc ?_ _)); exact BK217.out) hb); have n3_ := Aside0.mk (below_step (by repeat (first | (with_reducible first | exact HB.out | apply below_alloc | apply pw_below_drewN | apply below_drew1 | refine below_set ?_ (IsS25.ge HI204.out) | refine below_set ?_ GE210.out | refine below_set ?_ GE217.out) | exact HB.out)) hb); clear HI204; clear BK210; clear BK217; clear HB; have HI204 := n0_; have BK210 := n1_; have BK217 := n2_; have HB := n3_; clear n0_ n1_ n2_ n3_; (try clear hb); (try clear hb2); (try clear hk); (try clear hi)))
   go_ret
   exact ⟨by first | rfl | (simp [errW_none, errW_some] <;> rfl) | (simp [*, errW_none, errW_some] <;> rfl), by repeat (first | (with_reducible first | exact HB.out | apply below_alloc | apply pw_below_drewN | apply below_drew1 | refine below_set ?_ (IsS25.ge HI204.out) | refine below_set ?_ GE210.out | refine below_set ?_ GE217.out) | exact HB.out)⟩
  ·
   rw [if_neg c29] at H
   exact absurd H (by simp)

/-- THE ONE PURE STATEMENT of gleekeep1_WithinIsWithin: yours. -/
def gleekeep1_WithinIsWithin.Pure : Prop := ∀ (l0 : List Int), l0.length ≤ maxLen → l0.length * 8 ≤ 140737488351232 → (∀ x ∈ l0, (Lit.int .i64 x).wf = true) → ∃ k, gleekeep1_WithinIsWithin.f k l0 = some true
theorem gleekeep1_WithinIsWithin.walk (P : gleekeep1_WithinIsWithin.Pure) (a0 : Option Addr) (len0 cap0 : Nat) (z0 : List Int) (w : World) (w0 : (a0 = none ∧ len0 = 0 ∧ cap0 = 0 ∧ z0 = []) ∨ ∃ x, a0 = some x ∧ len0 ≤ cap0 ∧ cap0 ≤ maxLen ∧ z0.length = cap0 ∧ (∀ i, i < z0.length → w.cell? (x.add i) = some (.int .i64 (z0.getD i 0))) ∧ ∀ n ∈ z0, (Lit.int .i64 n).wf = true) (y0 : len0 * 8 ≤ 140737488351232) :
  Calls Tryd.prog 6 #[.slice a0 len0 cap0] w fun e w' => e = .returned (.bool true) ∧ Below w.heap.size w w' := by
 obtain ⟨l0, rfl, hr0, hm0, hw0, hc0⟩ := ReadsInt.ofRowC w0
 obtain ⟨k, h⟩ := P l0 hm0 y0 hw0
 refine (gleekeep1_WithinIsWithin.calls k _ _ l0 true w (Kd.C_of_reads (d := (0 : Int)) (h1 := fun _ => rfl) hr0) hc0 h).mono ?_
 rintro e w' ⟨rfl, hd⟩
 exact ⟨rfl, hd⟩

end Go.Proofs.YtdagocpgefjmdaaDoor.PWithinIsWithin
