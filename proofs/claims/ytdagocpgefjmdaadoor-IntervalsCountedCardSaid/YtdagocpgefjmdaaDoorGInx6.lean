import Derived.Test.YtdagocpgefjmdaaDoorGInx0
import Derived.Test.YtdagocpgefjmdaaDoorGInx2
import Derived.Test.YtdagocpgefjmdaaDoorGInx5
namespace Go.Proofs.YtdagocpgefjmdaaDoor.PIntervalsCounted
open Go.RowKit Go.Proofs.YtdagocpgefjmdaaDoorW.PrintWords Go.Proofs.YtdagocpgefjmdaaDoorW.PrintLast Go.Proofs.YtdagocpgefjmdaaDoorW.PrintMore
attribute [local go_sem] max2_int min2_int max_two min_two max_three min_three max_four min_four   -- for this text's walks alone
set_option linter.unusedVariables false
set_option linter.unusedSimpArgs false

attribute [local go_sem high] eqA30
/-! ### tune_Of: function 17 -/
mutual
def tune_Of.j0 : Nat → Bool → Int → Int → Option (Int × Int × Int × Int × Int)
 | 0, _, _, _ => none
 | k + 1, x20, x209000, x209001 => if x20 = true then (some (0, 0, 0, 0, 1)) else ((kit_Lowest.f k x209000 x209001).bind fun bt210 => (if (!(bt210.1 == x209000) || (!(bt210.2 == x209001))) = true then (some (0, 0, 0, 0, 3)) else ((tune_primes.f).bind fun bt213 => (tune_Of.l0 k x209000 x209001 0 bt213.2.2.2 bt213.2.2.1 bt213.2.1 bt213.1 0 0 0 0))))
def tune_Of.l0 : Nat → Int → Int → Int → Int → Int → Int → Int → Int → Int → Int → Int → Option (Int × Int × Int × Int × Int)
 | 0, _, _, _, _, _, _, _, _, _, _, _ => none
 | k + 1, x5, x6, x35, x992, x993, x994, x995, x213000, x213001, x213002, x213003 => if x35 < 4 then (if 0 ≤ x35 then ((tune_times.f k x5 (rd ([x995, x994, x993, x992] : List Int) x35)).bind fun bt217 => ((tune_times.f k x6 (rd ([x995, x994, x993, x992] : List Int) x35)).bind fun bt219 => (if x35 = 0 then (tune_Of.l0 k bt217.2 bt219.2 (wrap64 (x35 + 1)) x992 x993 x994 x995 (wrap64 (bt217.1 - bt219.1)) x213001 x213002 x213003) else (if x35 = 1 then (tune_Of.l0 k bt217.2 bt219.2 (wrap64 (x35 + 1)) x992 x993 x994 x995 x213000 (wrap64 (bt217.1 - bt219.1)) x213002 x213003) else (if x35 = 2 then (tune_Of.l0 k bt217.2 bt219.2 (wrap64 (x35 + 1)) x992 x993 x994 x995 x213000 x213001 (wrap64 (bt217.1 - bt219.1)) x213003) else (if x35 = 3 then (tune_Of.l0 k bt217.2 bt219.2 (wrap64 (x35 + 1)) x992 x993 x994 x995 x213000 x213001 x213002 (wrap64 (bt217.1 - bt219.1))) else (none))))))) else (none)) else (if x5 = 1 then (tune_Of.j2 k (x6 != 1) x213000 x213001 x213002 x213003) else (tune_Of.j2 k true x213000 x213001 x213002 x213003))
def tune_Of.j2 : Nat → Bool → Int → Int → Int → Int → Option (Int × Int × Int × Int × Int)
 | 0, _, _, _, _, _ => none
 | k + 1, x62, x213000, x213001, x213002, x213003 => if x62 = true then (some (0, 0, 0, 0, 16)) else ((tune_CheckInterval.f x213000 x213001 x213002 x213003).bind fun t222 => (if t222 = 0 then (some (x213000, x213001, x213002, x213003, 0)) else (some (0, 0, 0, 0, t222))))
end
def tune_Of.f (k : Nat) (a0_0 : Int) (a0_1 : Int) : Option (Int × Int × Int × Int × Int) := if a0_0 < 1 then (tune_Of.j0 k true a0_0 a0_1) else (tune_Of.j0 k (decide (a0_1 < 1)) a0_0 a0_1)
theorem tune_Of.mono_l : ∀ k, (∀ y0 y1 y2, LeO (tune_Of.j0 k y0 y1 y2) (tune_Of.j0 (k + 1) y0 y1 y2)) ∧ (∀ y0 y1 y2 y3 y4 y5 y6 y7 y8 y9 y10, LeO (tune_Of.l0 k y0 y1 y2 y3 y4 y5 y6 y7 y8 y9 y10) (tune_Of.l0 (k + 1) y0 y1 y2 y3 y4 y5 y6 y7 y8 y9 y10)) ∧ (∀ y0 y1 y2 y3 y4, LeO (tune_Of.j2 k y0 y1 y2 y3 y4) (tune_Of.j2 (k + 1) y0 y1 y2 y3 y4))
 | 0 => ⟨fun _ _ _ r h => by simp [tune_Of.j0] at h, fun _ _ _ _ _ _ _ _ _ _ _ r h => by simp [tune_Of.l0] at h, fun _ _ _ _ _ r h => by simp [tune_Of.j2] at h⟩
 | k + 1 => by
  obtain ⟨ih0, ih1, ih2⟩ := tune_Of.mono_l k
  refine ⟨?_, ?_, ?_⟩
  ·
   intro y0 y1 y2
   unfold tune_Of.j0
   repeat' first
   | (with_reducible exact ih0 _ _ _)
   | (with_reducible exact ih1 _ _ _ _ _ _ _ _ _ _ _)
   | (with_reducible exact ih2 _ _ _ _ _)
   | (with_reducible exact kit_Lowest.mono _ _ _)
   | (with_reducible exact tune_times.mono _ _ _)
   | (with_reducible exact LeO.refl _)
   | (with_reducible exact LeO.none _)
   | (with_reducible refine LeO.ite ?_ ?_)
   | (with_reducible refine LeO.bind ?_ (fun _ => ?_))
   | exact ih0 _ _ _
   | exact ih1 _ _ _ _ _ _ _ _ _ _ _
   | exact ih2 _ _ _ _ _
   | exact kit_Lowest.mono _ _ _
   | exact tune_times.mono _ _ _
   | exact LeO.none _
   | refine LeO.ite ?_ ?_
   | refine LeO.bind ?_ (fun _ => ?_)
  ·
   intro y0 y1 y2 y3 y4 y5 y6 y7 y8 y9 y10
   unfold tune_Of.l0
   repeat' first
   | (with_reducible exact ih0 _ _ _)
   | (with_reducible exact ih1 _ _ _ _ _ _ _ _ _ _ _)
   | (with_reducible exact ih2 _ _ _ _ _)
   | (with_reducible exact kit_Lowest.mono _ _ _)
   | (with_reducible exact tune_times.mono _ _ _)
   | (with_reducible exact LeO.refl _)
   | (with_reducible exact LeO.none _)
   | (with_reducible refine LeO.ite ?_ ?_)
   | (with_reducible refine LeO.bind ?_ (fun _ => ?_))
   | exact ih0 _ _ _
   | exact ih1 _ _ _ _ _ _ _ _ _ _ _
   | exact ih2 _ _ _ _ _
   | exact kit_Lowest.mono _ _ _
   | exact tune_times.mono _ _ _
   | exact LeO.none _
   | refine LeO.ite ?_ ?_
   | refine LeO.bind ?_ (fun _ => ?_)
  ·
   intro y0 y1 y2 y3 y4
   unfold tune_Of.j2
   repeat' first
   | (with_reducible exact ih0 _ _ _)
   | (with_reducible exact ih1 _ _ _ _ _ _ _ _ _ _ _)
   | (with_reducible exact ih2 _ _ _ _ _)
   | (with_reducible exact kit_Lowest.mono _ _ _)
   | (with_reducible exact tune_times.mono _ _ _)
   | (with_reducible exact LeO.refl _)
   | (with_reducible exact LeO.none _)
   | (with_reducible refine LeO.ite ?_ ?_)
   | (with_reducible refine LeO.bind ?_ (fun _ => ?_))
   | exact ih0 _ _ _
   | exact ih1 _ _ _ _ _ _ _ _ _ _ _
   | exact ih2 _ _ _ _ _
   | exact kit_Lowest.mono _ _ _
   | exact tune_times.mono _ _ _
   | exact LeO.none _
   | refine LeO.ite ?_ ?_
   | refine LeO.bind ?_ (fun _ => ?_)
theorem tune_Of.mono : ∀ a0 a1 k, LeO (tune_Of.f k a0 a1) (tune_Of.f (k + 1) a0 a1) := by
 intro a0 a1 k
 obtain ⟨ih0, ih1, ih2⟩ := tune_Of.mono_l k
 unfold tune_Of.f
 repeat' first
   | (with_reducible exact ih0 _ _ _)
   | (with_reducible exact ih1 _ _ _ _ _ _ _ _ _ _ _)
   | (with_reducible exact ih2 _ _ _ _ _)
   | (with_reducible exact kit_Lowest.mono _ _ _)
   | (with_reducible exact tune_times.mono _ _ _)
   | (with_reducible exact LeO.refl _)
   | (with_reducible exact LeO.none _)
   | (with_reducible refine LeO.ite ?_ ?_)
   | (with_reducible refine LeO.bind ?_ (fun _ => ?_))
   | exact ih0 _ _ _
   | exact ih1 _ _ _ _ _ _ _ _ _ _ _
   | exact ih2 _ _ _ _ _
   | exact kit_Lowest.mono _ _ _
   | exact tune_times.mono _ _ _
   | exact LeO.none _
   | refine LeO.ite ?_ ?_
   | refine LeO.bind ?_ (fun _ => ?_)
set_option maxHeartbeats 8000000 in
set_option maxRecDepth 100000 in
theorem tune_Of.calls (k : Nat) (a0_0 : Int) (a0_1 : Int) (r1 : Int) (r2 : Int) (r3 : Int) (r4 : Int) (r5 : Int) (w : World) (h : tune_Of.f k a0_0 a0_1 = some (r1, r2, r3, r4, r5)) :
  Calls Tryd.prog 17 #[.agg #[.int .i64 a0_0, .int .i64 a0_1]] w fun e w' => e = .returned (.tuple #[.agg #[.int .i64 r1, .int .i64 r2, .int .i64 r3, .int .i64 r4], .int .i64 r5]) ∧ Below w.heap.size w w' := by
 have hu30 := Tryd.underlying30
 have hu27 := Tryd.underlying27
 have hu119 := Tryd.underlying119
 have HB := Ad.mk (Below.refl w.heap.size w)
 have H : (if a0_0 < 1 then (tune_Of.j0 k true a0_0 a0_1) else (tune_Of.j0 k (decide (a0_1 < 1)) a0_0 a0_1)) = some (r1, r2, r3, r4, r5) := h
 clear h
 have HC2 := Ad.mk H
 clear H
 go_enter Tryd.func17, Tryd.ntmps17
 go_upto_region 1 with (first | ((with_reducible refine qgd (N := 1) rfl ?_); refine qbe ?hg (N := 1) ?hd (cs := #[.int .i64 a0_0, .int .i64 a0_1]) (t := 30) ?hr ?_; (case hd => rfl); (case hg => rfl); (case hr => first | (go_simp; done) | (go_simp; rfl)); intro gb208 hg w3 hbox hb; have BK208 := Ad.mk (hbox); have GW208 := Ad.mk ((by rw [hg]; exact (qbz (by repeat (first | (with_reducible first | exact HB.out | apply qbn | apply qb1) | exact HB.out))) : w.heap.size ≤ gb208)); have GE208 := Ad.mk ((by rw [hg]; exact (qbz (by repeat (first | (with_reducible first | exact HB.out | apply qbn | apply qb1) | exact HB.out))) : w.heap.size ≤ gb208)); replace HB := Ad.mk (qbt (by repeat (first | (with_reducible first | exact HB.out | apply qbn | apply qb1) | exact HB.out)) hb); clear hb hbox hg) | ((with_reducible refine qgd (N := 2) rfl ?_); refine qbe ?hg (N := 2) ?hd (cs := #[.int .i64 0, .int .i64 0, .int .i64 0, .int .i64 0]) (t := 27) ?hr ?_; (case hd => rfl); (case hg => rfl); (case hr => first | (go_simp; done) | (go_simp; rfl)); intro gb209 hg w4 hbox hb; have BK209 := Ad.mk (hbox); have GW209 := Ad.mk ((by rw [hg]; exact (qbz (by repeat (first | (with_reducible first | exact HB.out | apply qbn | apply qb1) | exact HB.out))) : w.heap.size ≤ gb209)); have GE209 := Ad.mk ((by rw [hg]; exact (qbz (by repeat (first | (with_reducible first | exact HB.out | apply qbn | apply qb1) | exact HB.out))) : w.heap.size ≤ gb209)); have NB208_209 := Ad.mk ((by rw [hg]; exact Nat.ne_of_lt (qkl (by exact BK208.out)) : gb208 ≠ gb209)); have NB209_208 := Ad.mk ((by rw [hg]; exact Nat.ne_of_gt (qkl (by exact BK208.out)) : gb209 ≠ gb208)); replace BK208 := Ad.mk (qkb (by exact BK208.out) hb); replace HB := Ad.mk (qbt (by repeat (first | (with_reducible first | exact HB.out | apply qbn | apply qb1) | exact HB.out)) hb); clear hb hbox hg))
 (try simp only [Act.put, List.setIfInBounds_toArray, List.set_cons_zero, List.set_cons_succ])
 go_cut [20] (fun v20 wc => ∃ (kq : Nat) (x20_1 : Bool), v20 = .bool x20_1 ∧ Ad (tune_Of.j0 kq x20_1 a0_0 a0_1 = some (r1, r2, r3, r4, r5)) ∧ Ad (kq ≤ k) ∧ Ad (wc.heap[gb208]? = some (.cells #[.int .i64 a0_0, .int .i64 a0_1] 30 (0, 0))) ∧ Ad (wc.heap[gb209]? = some (.cells #[.int .i64 0, .int .i64 0, .int .i64 0, .int .i64 0] 27 (0, 0))) ∧ Ad (Below w.heap.size w wc))
 case first =>
  have H := HC2.out
  clear HC2
  by_cases c5 : a0_0 < 1
  ·
   rw [if_pos c5] at H
   have c5b0 : decide (a0_0 < 1) = true := decide_eq_true c5
   clear c5
   (first | rw [c5b0] | (simp only [i64_w, i32_w]; rw [c5b0]) | skip)
   have H' := Ad.mk H
   clear H
   have hnb6 := NB208_209.out
   have hnc6 := NB209_208.out
   have hcz7_0 : w4.cell? ⟨gb208, 0, none⟩ = some (.int .i64 a0_0) := (qkc BK208.out 0).trans rfl
   have hcz7_1 : w4.cell? ⟨gb208, 1, none⟩ = some (.int .i64 a0_1) := (qkc BK208.out 1).trans rfl
   have hfz7_0 := qkz BK208.out 0
   have hfz7_1 := qkz BK208.out 1
   go_wp2
   go_meet
   case rel => exact ⟨_, (true), (by first | rfl | (simp; done) | (simp [*]; done)), H', ⟨by first | omega | exact Nat.le_refl _⟩, ⟨by exact BK208.out⟩, ⟨by exact BK209.out⟩, ⟨by repeat (first | (with_reducible first | exact HB.out | apply qbn | apply qb1) | exact HB.out)⟩⟩
  ·
   rw [if_neg c5] at H
   have c5b0 : decide (a0_0 < 1) = false := decide_eq_false c5
   clear c5
   (first | rw [c5b0] | (simp only [i64_w, i32_w]; rw [c5b0]) | skip)
   have H' := Ad.mk H
   clear H
   have hnb8 := NB208_209.out
   have hnc8 := NB209_208.out
   have hcz9_0 : w4.cell? ⟨gb208, 0, none⟩ = some (.int .i64 a0_0) := (qkc BK208.out 0).trans rfl
   have hcz9_1 : w4.cell? ⟨gb208, 1, none⟩ = some (.int .i64 a0_1) := (qkc BK208.out 1).trans rfl
   have hfz9_0 := qkz BK208.out 0
   have hfz9_1 := qkz BK208.out 1
   go_wp2
   go_meet
   case rel => exact ⟨_, (decide (a0_1 < 1)), (by first | rfl | (simp; done) | (simp [*]; done)), H', ⟨by first | omega | exact Nat.le_refl _⟩, ⟨by exact BK208.out⟩, ⟨by exact BK209.out⟩, ⟨by repeat (first | (with_reducible first | exact HB.out | apply qbn | apply qb1) | exact HB.out)⟩⟩
 case rest =>
  clear HC2
  try clear c1
  try clear p2
  try clear c5
  try clear c5b0
  try clear c6
  try clear c8
  try clear hcz7_0
  try clear hcz7_1
  try clear hcz9_0
  try clear hcz9_1
  try clear hfz7_0
  try clear hfz7_1
  try clear hfz9_0
  try clear hfz9_1
  obtain ⟨kq, x20_1, rfl, HA, HJ1, BK208, BK209, HB⟩ := hcut
  cases kq with
  | zero => exact absurd HA.out (by simp [tune_Of.j0])
  | succ kj1 =>
   have H := HA.out
   clear HA
   simp only [tune_Of.j0] at H
   by_cases c10 : x20_1 = true
   ·
    subst c10
    have H1 : (some (0, 0, 0, 0, 1)) = some (r1, r2, r3, r4, r5) := by rw [if_pos rfl] at H; exact H
    clear H
    have H := H1
    clear H1
    simp only [Option.some.injEq, Prod.mk.injEq] at H
    obtain ⟨rfl, rfl, rfl, rfl, rfl⟩ := H
    have hnb11 := NB209_208.out
    have hnc11 := NB208_209.out
    have hcz12_0 : wc.cell? ⟨gb209, 0, none⟩ = some (.int .i64 0) := (qkc BK209.out 0).trans rfl
    have hcz12_1 : wc.cell? ⟨gb209, 1, none⟩ = some (.int .i64 0) := (qkc BK209.out 1).trans rfl
    have hcz12_2 : wc.cell? ⟨gb209, 2, none⟩ = some (.int .i64 0) := (qkc BK209.out 2).trans rfl
    have hcz12_3 : wc.cell? ⟨gb209, 3, none⟩ = some (.int .i64 0) := (qkc BK209.out 3).trans rfl
    have hfz12_0 := qkz BK209.out 0
    have hfz12_1 := qkz BK209.out 1
    have hfz12_2 := qkz BK209.out 2
    have hfz12_3 := qkz BK209.out 3
    go_wp2
    refine bodyPost_ret (results_ct rfl _ _ gb209 27 #[.int .i64 0, .int .i64 0, .int .i64 0, .int .i64 0] (0, 0) _ rfl (by (with_reducible repeat (first | apply qkn | apply qkd)); refine qkp (cs := #[.int .i64 0, .int .i64 0, .int .i64 0, .int .i64 0]) ?_ 3 _ rfl; (with_reducible repeat (first | apply qkn | apply qkd)); refine qkp (cs := #[.int .i64 0, .int .i64 0, .int .i64 0, .int .i64 0]) ?_ 2 _ rfl; (with_reducible repeat (first | apply qkn | apply qkd)); refine qkp (cs := #[.int .i64 0, .int .i64 0, .int .i64 0, .int .i64 0]) ?_ 1 _ rfl; (with_reducible repeat (first | apply qkn | apply qkd)); refine qkp (cs := #[.int .i64 0, .int .i64 0, .int .i64 0, .int .i64 0]) ?_ 0 _ rfl; (with_reducible repeat (first | apply qkn | apply qkd)); exact BK209.out) Tryd.underlying27 rfl (by kernel_rfl)) rfl ?_
    exact ⟨by first | rfl | (simp [errW_none, errW_some] <;> rfl) | (simp [*, errW_none, errW_some] <;> rfl), by repeat (first | (with_reducible first | exact HB.out | apply qbn | apply qb1 | refine qbs ?_ GE209.out) | exact HB.out)⟩
   ·
    replace c10 := Bool.eq_false_iff.mpr c10
    subst c10
    have H1 : ((kit_Lowest.f kj1 a0_0 a0_1).bind fun bt210 => (if (!(bt210.1 == a0_0) || (!(bt210.2 == a0_1))) = true then (some (0, 0, 0, 0, 3)) else ((tune_primes.f).bind fun bt213 => (tune_Of.l0 kj1 a0_0 a0_1 0 bt213.2.2.2 bt213.2.2.1 bt213.2.1 bt213.1 0 0 0 0)))) = some (r1, r2, r3, r4, r5) := by rw [if_neg (show ¬ (false = true) by decide)] at H; exact H
    clear H
    have H := H1
    clear H1
    replace H := Option.bind_eq_some_iff.mp H
    obtain ⟨⟨t210, t211⟩, A130, H⟩ := H
    replace H : (if (!(t210 == a0_0) || (!(t211 == a0_1))) = true then (some (0, 0, 0, 0, 3)) else ((tune_primes.f).bind fun bt213 => (tune_Of.l0 kj1 a0_0 a0_1 0 bt213.2.2.2 bt213.2.2.1 bt213.2.1 bt213.1 0 0 0 0))) = some (r1, r2, r3, r4, r5) := H
    have A13 := Ad.mk A130
    clear A130
    by_cases c14 : (!(t210 == a0_0) || (!(t211 == a0_1))) = true
    ·
     rw [if_pos c14] at H
     have c14b0 : (!(t210 == a0_0) || (!(t211 == a0_1))) = true := c14
     clear c14
     simp only [Option.some.injEq, Prod.mk.injEq] at H
     obtain ⟨rfl, rfl, rfl, rfl, rfl⟩ := H
     try go_wp2
     replace BK208 := Ad.mk (qkd BK208.out)
     replace BK209 := Ad.mk (qkd BK209.out)
     replace HB := Ad.mk (qb1 HB.out)
     refine start_ (n := 7) (S := fun w' => w'.cell? ⟨gb208, 0, none⟩ = some (.int .i64 a0_0) ∧ w'.cell? ⟨gb208, 1, none⟩ = some (.int .i64 a0_1)) (ds := []) #[false, false, false, false, false, false, false] (by kernel_rfl) rfl rfl ⟨(qkc BK208.out 0).trans rfl, (qkc BK208.out 1).trans rfl⟩ (fun hHeld => ?_)
     generalize wc.drew = w15 at BK208 BK209 HB hHeld ⊢
     refine pure_ (i := 0) (N := some 22) (v := ?_) (a' := ?_) #[true, false, false, false, false, false, false] rfl rfl (by kernel_rfl) (fun _ _ _ h => h) (Or.inl ⟨by rfl, ?_⟩) ?_ ?_
     rotate_left
     ·
      intro w'
      go_simp
      with_reducible rfl
     rotate_left
     ·
      simp only [Act.put, List.setIfInBounds_toArray, List.set_cons_zero, List.set_cons_succ, i64_w, i32_w]
      rfl
     refine pure_ (i := 2) (N := some 24) (v := ?_) (a' := ?_) #[true, false, true, false, false, false, false] rfl rfl (by kernel_rfl) (fun _ _ _ h => h) (Or.inl ⟨by rfl, ?_⟩) ?_ ?_
     rotate_left
     ·
      intro w'
      go_simp
      with_reducible rfl
     rotate_left
     ·
      simp only [Act.put, List.setIfInBounds_toArray, List.set_cons_zero, List.set_cons_succ, i64_w, i32_w]
      rfl
     refine take_ (i := 1) (N := some 23) (v := ?_) (a' := ?_) #[true, true, true, false, false, false, false] rfl rfl (by kernel_rfl) (fun _ _ _ h => h) (Or.inl ⟨by rfl, ?_⟩) hHeld ?_ ?_
     rotate_left
     ·
      rintro w' ⟨s0, s1⟩
      go_simp
      with_reducible rfl
     rotate_left
     ·
      simp only [Act.put, List.setIfInBounds_toArray, List.set_cons_zero, List.set_cons_succ, i64_w, i32_w]
      rfl
     refine take_ (i := 3) (N := some 25) (v := ?_) (a' := ?_) #[true, true, true, true, false, false, false] rfl rfl (by kernel_rfl) (fun _ _ _ h => h) (Or.inl ⟨by rfl, ?_⟩) hHeld ?_ ?_
     rotate_left
     ·
      rintro w' ⟨s0, s1⟩
      go_simp
      with_reducible rfl
     rotate_left
     ·
      simp only [Act.put, List.setIfInBounds_toArray, List.set_cons_zero, List.set_cons_succ, i64_w, i32_w]
      rfl
     refine take_ (i := 5) (N := some 27) (v := ?_) (a' := ?_) #[true, true, true, true, false, true, false] rfl rfl (by kernel_rfl) (fun _ _ _ h => h) (Or.inl ⟨by rfl, ?_⟩) hHeld ?_ ?_
     rotate_left
     ·
      rintro w' ⟨s0, s1⟩
      go_simp
      with_reducible rfl
     rotate_left
     ·
      simp only [Act.put, List.setIfInBounds_toArray, List.set_cons_zero, List.set_cons_succ, i64_w, i32_w]
      rfl
     refine one_ (i := 4) (N := some 26) #[true, true, true, true, true, true, false] rfl rfl (by kernel_rfl) (by decide) (fun K hK => ?_)
     refine goes_ Tryd.func75 (by kernel_rfl) rfl #[.int .i64 a0_0, .int .i64 a0_1] (by rfl) rfl rfl (by (try simp only [List.map_toArray, List.map_cons, List.map_nil]); first | done | rfl) ?_
     with_reducible refine (kit_Lowest.calls kj1 a0_0 a0_1 t210 t211 _ A13.out).mono ?_
     rintro e w16 ⟨rfl, hb⟩
     refine ⟨_, rfl, ?_⟩
     replace BK208 := Ad.mk (qkb (by exact BK208.out) hb)
     replace BK209 := Ad.mk (qkb (by exact BK209.out) hb)
     replace HB := Ad.mk (qbt (by repeat (first | (with_reducible first | exact HB.out | apply qbn | apply qb1) | exact HB.out)) hb)
     (try clear hb)
     (try clear hb2)
     (try clear hk)
     (try clear hi)
     refine hK.out _ _ ⟨(qkc BK208.out 0).trans rfl, (qkc BK208.out 1).trans rfl⟩ (fun hHeld => ?_)
     clear hK K
     refine norm_ (a' := ?_) ?_ ?_
     rotate_left
     ·
      show Act.put _ (some 26) _ = _
      simp only [Act.put, List.setIfInBounds_toArray, List.set_cons_zero, List.set_cons_succ, i64_w, i32_w]
      rfl
     refine pure_ (i := 6) (N := some 28) (v := ?_) (a' := ?_) #[true, true, true, true, true, true, true] rfl rfl (by kernel_rfl) (fun _ _ _ h => h) (Or.inl ⟨by rfl, ?_⟩) ?_ ?_
     rotate_left
     ·
      intro w'
      go_simp
      with_reducible rfl
     rotate_left
     ·
      simp only [Act.put, List.setIfInBounds_toArray, List.set_cons_zero, List.set_cons_succ, i64_w, i32_w]
      rfl
     refine done_ (by kernel_rfl) ?_
     have hnb17 := NB209_208.out
     have hnc17 := NB208_209.out
     have hcz18_0 : w16.cell? ⟨gb209, 0, none⟩ = some (.int .i64 0) := (qkc BK209.out 0).trans rfl
     have hcz18_1 : w16.cell? ⟨gb209, 1, none⟩ = some (.int .i64 0) := (qkc BK209.out 1).trans rfl
     have hcz18_2 : w16.cell? ⟨gb209, 2, none⟩ = some (.int .i64 0) := (qkc BK209.out 2).trans rfl
     have hcz18_3 : w16.cell? ⟨gb209, 3, none⟩ = some (.int .i64 0) := (qkc BK209.out 3).trans rfl
     have hfz18_0 := qkz BK209.out 0
     have hfz18_1 := qkz BK209.out 1
     have hfz18_2 := qkz BK209.out 2
     have hfz18_3 := qkz BK209.out 3
     try go_wp2
     refine bodyPost_ret (results_ct rfl _ _ gb209 27 #[.int .i64 0, .int .i64 0, .int .i64 0, .int .i64 0] (0, 0) _ rfl (by (with_reducible repeat (first | apply qkn | apply qkd)); refine qkp (cs := #[.int .i64 0, .int .i64 0, .int .i64 0, .int .i64 0]) ?_ 3 _ rfl; (with_reducible repeat (first | apply qkn | apply qkd)); refine qkp (cs := #[.int .i64 0, .int .i64 0, .int .i64 0, .int .i64 0]) ?_ 2 _ rfl; (with_reducible repeat (first | apply qkn | apply qkd)); refine qkp (cs := #[.int .i64 0, .int .i64 0, .int .i64 0, .int .i64 0]) ?_ 1 _ rfl; (with_reducible repeat (first | apply qkn | apply qkd)); refine qkp (cs := #[.int .i64 0, .int .i64 0, .int .i64 0, .int .i64 0]) ?_ 0 _ rfl; (with_reducible repeat (first | apply qkn | apply qkd)); exact BK209.out) Tryd.underlying27 rfl (by kernel_rfl)) rfl ?_
     exact ⟨by first | rfl | (simp [errW_none, errW_some] <;> rfl) | (simp [*, errW_none, errW_some] <;> rfl), by repeat (first | (with_reducible first | exact HB.out | apply qbn | apply qb1 | refine qbs ?_ GE209.out) | exact HB.out)⟩
    ·
     rw [if_neg c14] at H
     have c14b0 : (!(t210 == a0_0) || (!(t211 == a0_1))) = false := by simpa using c14
     clear c14
     replace H := Option.bind_eq_some_iff.mp H
     obtain ⟨⟨t213, t214, t215, t216⟩, A190, H⟩ := H
     replace H : (tune_Of.l0 kj1 a0_0 a0_1 0 t216 t215 t214 t213 0 0 0 0) = some (r1, r2, r3, r4, r5) := H
     have A19 := Ad.mk A190
     clear A190
     have H' := Ad.mk H
     clear H
     try go_wp2
     replace BK208 := Ad.mk (qkd BK208.out)
     replace BK209 := Ad.mk (qkd BK209.out)
     replace HB := Ad.mk (qb1 HB.out)
     refine start_ (n := 7) (S := fun w' => w'.cell? ⟨gb208, 0, none⟩ = some (.int .i64 a0_0) ∧ w'.cell? ⟨gb208, 1, none⟩ = some (.int .i64 a0_1)) (ds := []) #[false, false, false, false, false, false, false] (by kernel_rfl) rfl rfl ⟨(qkc BK208.out 0).trans rfl, (qkc BK208.out 1).trans rfl⟩ (fun hHeld => ?_)
     generalize wc.drew = w20 at BK208 BK209 HB hHeld ⊢
     refine pure_ (i := 0) (N := some 22) (v := ?_) (a' := ?_) #[true, false, false, false, false, false, false] rfl rfl (by kernel_rfl) (fun _ _ _ h => h) (Or.inl ⟨by rfl, ?_⟩) ?_ ?_
     rotate_left
     ·
      intro w'
      go_simp
      with_reducible rfl
     rotate_left
     ·
      simp only [Act.put, List.setIfInBounds_toArray, List.set_cons_zero, List.set_cons_succ, i64_w, i32_w]
      rfl
     refine pure_ (i := 2) (N := some 24) (v := ?_) (a' := ?_) #[true, false, true, false, false, false, false] rfl rfl (by kernel_rfl) (fun _ _ _ h => h) (Or.inl ⟨by rfl, ?_⟩) ?_ ?_
     rotate_left
     ·
      intro w'
      go_simp
      with_reducible rfl
     rotate_left
     ·
      simp only [Act.put, List.setIfInBounds_toArray, List.set_cons_zero, List.set_cons_succ, i64_w, i32_w]
      rfl
     refine take_ (i := 1) (N := some 23) (v := ?_) (a' := ?_) #[true, true, true, false, false, false, false] rfl rfl (by kernel_rfl) (fun _ _ _ h => h) (Or.inl ⟨by rfl, ?_⟩) hHeld ?_ ?_
     rotate_left
     ·
      rintro w' ⟨s0, s1⟩
      go_simp
      with_reducible rfl
     rotate_left
     ·
      simp only [Act.put, List.setIfInBounds_toArray, List.set_cons_zero, List.set_cons_succ, i64_w, i32_w]
      rfl
     refine take_ (i := 3) (N := some 25) (v := ?_) (a' := ?_) #[true, true, true, true, false, false, false] rfl rfl (by kernel_rfl) (fun _ _ _ h => h) (Or.inl ⟨by rfl, ?_⟩) hHeld ?_ ?_
     rotate_left
     ·
      rintro w' ⟨s0, s1⟩
      go_simp
      with_reducible rfl
     rotate_left
     ·
      simp only [Act.put, List.setIfInBounds_toArray, List.set_cons_zero, List.set_cons_succ, i64_w, i32_w]
      rfl
     refine take_ (i := 5) (N := some 27) (v := ?_) (a' := ?_) #[true, true, true, true, false, true, false] rfl rfl (by kernel_rfl) (fun _ _ _ h => h) (Or.inl ⟨by rfl, ?_⟩) hHeld ?_ ?_
     rotate_left
     ·
      rintro w' ⟨s0, s1⟩
      go_simp
      with_reducible rfl
     rotate_left
     ·
      simp only [Act.put, List.setIfInBounds_toArray, List.set_cons_zero, List.set_cons_succ, i64_w, i32_w]
      rfl
     refine one_ (i := 4) (N := some 26) #[true, true, true, true, true, true, false] rfl rfl (by kernel_rfl) (by decide) (fun K hK => ?_)
     refine goes_ Tryd.func75 (by kernel_rfl) rfl #[.int .i64 a0_0, .int .i64 a0_1] (by rfl) rfl rfl (by (try simp only [List.map_toArray, List.map_cons, List.map_nil]); first | done | rfl) ?_
     with_reducible refine (kit_Lowest.calls kj1 a0_0 a0_1 t210 t211 _ A13.out).mono ?_
     rintro e w21 ⟨rfl, hb⟩
     refine ⟨_, rfl, ?_⟩
     replace BK208 := Ad.mk (qkb (by exact BK208.out) hb)
     replace BK209 := Ad.mk (qkb (by exact BK209.out) hb)
     replace HB := Ad.mk (qbt (by repeat (first | (with_reducible first | exact HB.out | apply qbn | apply qb1) | exact HB.out)) hb)
     (try clear hb)
     (try clear hb2)
     (try clear hk)
     (try clear hi)
     refine hK.out _ _ ⟨(qkc BK208.out 0).trans rfl, (qkc BK208.out 1).trans rfl⟩ (fun hHeld => ?_)
     clear hK K
     refine norm_ (a' := ?_) ?_ ?_
     rotate_left
     ·
      show Act.put _ (some 26) _ = _
      simp only [Act.put, List.setIfInBounds_toArray, List.set_cons_zero, List.set_cons_succ, i64_w, i32_w]
      rfl
     refine pure_ (i := 6) (N := some 28) (v := ?_) (a' := ?_) #[true, true, true, true, true, true, true] rfl rfl (by kernel_rfl) (fun _ _ _ h => h) (Or.inl ⟨by rfl, ?_⟩) ?_ ?_
     rotate_left
     ·
      intro w'
      go_simp
      with_reducible rfl
     rotate_left
     ·
      simp only [Act.put, List.setIfInBounds_toArray, List.set_cons_zero, List.set_cons_succ, i64_w, i32_w]
      rfl
     refine done_ (by kernel_rfl) ?_
     try go_wp2_with (first | ((with_reducible refine qgd (N := 4) rfl ?_); refine qbe ?hg (N := 4) ?hd (cs := #[.int .i64 0, .int .i64 0, .int .i64 0, .int .i64 0]) (t := 119) ?hr ?_; (case hd => rfl); (case hg => rfl); (case hr => first | (go_simp; done) | (go_simp; rfl)); intro gb212 hg w22 hbox hb; have BK212 := Ad.mk (hbox); have GW212 := Ad.mk ((by rw [hg]; exact (qbz (by repeat (first | (with_reducible first | exact HB.out | apply qbn | apply qb1) | exact HB.out))) : w.heap.size ≤ gb212)); have GE212 := Ad.mk ((by rw [hg]; exact (qbz (by repeat (first | (with_reducible first | exact HB.out | apply qbn | apply qb1) | exact HB.out))) : w.heap.size ≤ gb212)); have NB208_212 := Ad.mk ((by rw [hg]; exact Nat.ne_of_lt (qkl (by exact BK208.out)) : gb208 ≠ gb212)); have NB212_208 := Ad.mk ((by rw [hg]; exact Nat.ne_of_gt (qkl (by exact BK208.out)) : gb212 ≠ gb208)); have NB209_212 := Ad.mk ((by rw [hg]; exact Nat.ne_of_lt (qkl (by exact BK209.out)) : gb209 ≠ gb212)); have NB212_209 := Ad.mk ((by rw [hg]; exact Nat.ne_of_gt (qkl (by exact BK209.out)) : gb212 ≠ gb209)); replace BK208 := Ad.mk (qkb (by exact BK208.out) hb); replace BK209 := Ad.mk (qkb (by exact BK209.out) hb); replace HB := Ad.mk (qbt (by repeat (first | (with_reducible first | exact HB.out | apply qbn | apply qb1) | exact HB.out)) hb); clear hb hbox hg))
     replace BK208 := Ad.mk (qkd BK208.out)
     replace BK209 := Ad.mk (qkd BK209.out)
     replace BK212 := Ad.mk (qkd BK212.out)
     replace HB := Ad.mk (qb1 HB.out)
     refine start_ (n := 6) (S := fun w' => w'.cell? ⟨gb208, 0, none⟩ = some (.int .i64 a0_0) ∧ w'.cell? ⟨gb208, 1, none⟩ = some (.int .i64 a0_1)) (ds := []) #[false, false, false, false, false, false] (by kernel_rfl) rfl rfl ⟨(qkc BK208.out 0).trans rfl, (qkc BK208.out 1).trans rfl⟩ (fun hHeld => ?_)
     generalize w22.drew = w23 at BK208 BK209 BK212 HB hHeld ⊢
     refine pure_ (i := 0) (N := some 30) (v := ?_) (a' := ?_) #[true, false, false, false, false, false] rfl rfl (by kernel_rfl) (fun _ _ _ h => h) (Or.inl ⟨by rfl, ?_⟩) ?_ ?_
     rotate_left
     ·
      intro w'
      go_simp
      with_reducible rfl
     rotate_left
     ·
      simp only [Act.put, List.setIfInBounds_toArray, List.set_cons_zero, List.set_cons_succ, i64_w, i32_w]
      rfl
     refine pure_ (i := 2) (N := some 32) (v := ?_) (a' := ?_) #[true, false, true, false, false, false] rfl rfl (by kernel_rfl) (fun _ _ _ h => h) (Or.inl ⟨by rfl, ?_⟩) ?_ ?_
     rotate_left
     ·
      intro w'
      go_simp
      with_reducible rfl
     rotate_left
     ·
      simp only [Act.put, List.setIfInBounds_toArray, List.set_cons_zero, List.set_cons_succ, i64_w, i32_w]
      rfl
     refine take_ (i := 1) (N := some 31) (v := ?_) (a' := ?_) #[true, true, true, false, false, false] rfl rfl (by kernel_rfl) (fun _ _ _ h => h) (Or.inl ⟨by rfl, ?_⟩) hHeld ?_ ?_
     rotate_left
     ·
      rintro w' ⟨s0, s1⟩
      go_simp
      with_reducible rfl
     rotate_left
     ·
      simp only [Act.put, List.setIfInBounds_toArray, List.set_cons_zero, List.set_cons_succ, i64_w, i32_w]
      rfl
     refine pure_ (i := 4) (N := some 5) (v := ?_) (a' := ?_) #[true, true, true, false, true, false] rfl rfl (by kernel_rfl) (fun _ _ _ h => h) (Or.inl ⟨by rfl, ?_⟩) ?_ ?_
     rotate_left
     ·
      intro w'
      go_simp
      with_reducible rfl
     rotate_left
     ·
      simp only [Act.put, List.setIfInBounds_toArray, List.set_cons_zero, List.set_cons_succ, i64_w, i32_w]
      rfl
     refine take_ (i := 3) (N := some 33) (v := ?_) (a' := ?_) #[true, true, true, true, true, false] rfl rfl (by kernel_rfl) (fun _ _ _ h => h) (Or.inl ⟨by rfl, ?_⟩) hHeld ?_ ?_
     rotate_left
     ·
      rintro w' ⟨s0, s1⟩
      go_simp
      with_reducible rfl
     rotate_left
     ·
      simp only [Act.put, List.setIfInBounds_toArray, List.set_cons_zero, List.set_cons_succ, i64_w, i32_w]
      rfl
     refine pure_ (i := 5) (N := some 6) (v := ?_) (a' := ?_) #[true, true, true, true, true, true] rfl rfl (by kernel_rfl) (fun _ _ _ h => h) (Or.inl ⟨by rfl, ?_⟩) ?_ ?_
     rotate_left
     ·
      intro w'
      go_simp
      with_reducible rfl
     rotate_left
     ·
      simp only [Act.put, List.setIfInBounds_toArray, List.set_cons_zero, List.set_cons_succ, i64_w, i32_w]
      rfl
     refine done_ (by kernel_rfl) ?_
     try go_wp2_with (first | ((with_reducible refine qgc (f := 76) rfl ?_); refine goesL_ (some 34) rfl rfl Tryd.func76 (by kernel_rfl) rfl #[] rfl (by (try simp only [List.map_toArray, List.map_cons, List.map_nil]); first | done | rfl) ?_; (with_reducible refine (tune_primes.calls  t213 t214 t215 t216 _ A19.out).mono ?_); rintro e w24 ⟨rfl, hb⟩; refine ⟨_, rfl, ?_⟩; replace BK208 := Ad.mk (qkb (by exact BK208.out) hb); replace BK209 := Ad.mk (qkb (by exact BK209.out) hb); replace BK212 := Ad.mk (qkb (by exact BK212.out) hb); replace HB := Ad.mk (qbt (by repeat (first | (with_reducible first | exact HB.out | apply qbn | apply qb1) | exact HB.out)) hb); (try clear hb)))
     go_loopg [5, 6, 35] kj1 (fun kq v5 v6 v35 w' => ∃ (x5_2 : Int) (x6_2 : Int) (x35_2 : Int) (x213000_2 : Int) (x213001_2 : Int) (x213002_2 : Int) (x213003_2 : Int), v5 = .int .i64 x5_2 ∧ v6 = .int .i64 x6_2 ∧ v35 = .int .i64 x35_2 ∧ Ad (tune_Of.l0 kq x5_2 x6_2 x35_2 t216 t215 t214 t213 x213000_2 x213001_2 x213002_2 x213003_2 = some (r1, r2, r3, r4, r5)) ∧ Ad (kq ≤ kj1) ∧ Ad (w'.heap[gb208]? = some (.cells #[.int .i64 a0_0, .int .i64 a0_1] 30 (0, 0))) ∧ Ad (w'.heap[gb209]? = some (.cells #[.int .i64 0, .int .i64 0, .int .i64 0, .int .i64 0] 27 (0, 0))) ∧ Ad (w'.heap[gb212]? = some (.cells #[.int .i64 x213000_2, .int .i64 x213001_2, .int .i64 x213002_2, .int .i64 x213003_2] 119 (0, 0))) ∧ Ad (Below w.heap.size w w'))
     case atStart => exact ⟨(a0_0), (a0_1), (0), (0), (0), (0), (0), (by first | rfl | (simp; done) | (simp [*]; done)), (by first | rfl | (simp; done) | (simp [*]; done)), (by first | rfl | (simp; done) | (simp [*]; done)), H', ⟨Nat.le_refl _⟩, ⟨by exact BK208.out⟩, ⟨by exact BK209.out⟩, ⟨by exact BK212.out⟩, ⟨by repeat (first | (with_reducible first | exact HB.out | apply qbn | apply qb1) | exact HB.out)⟩⟩
     case round =>
      clear H'
      try clear c1
      try clear p2
      try clear c5
      try clear c5b0
      try clear c6
      try clear c7
      try clear c8
      try clear c10
      try clear c11
      try clear c14
      try clear c14b0
      try clear c17
      try clear hcz12_0
      try clear hcz12_1
      try clear hcz12_2
      try clear hcz12_3
      try clear hcz18_0
      try clear hcz18_1
      try clear hcz18_2
      try clear hcz18_3
      try clear hcz7_0
      try clear hcz7_1
      try clear hcz9_0
      try clear hcz9_1
      try clear hfz12_0
      try clear hfz12_1
      try clear hfz12_2
      try clear hfz12_3
      try clear hfz18_0
      try clear hfz18_1
      try clear hfz18_2
      try clear hfz18_3
      try clear hfz7_0
      try clear hfz7_1
      try clear hfz9_0
      try clear hfz9_1
      try clear p2
      obtain ⟨x5_2, x6_2, x35_2, x213000_2, x213001_2, x213002_2, x213003_2, rfl, rfl, rfl, HA, HK2, BK208, BK209, BK212, HB⟩ := hrel
      cases gk with
      | zero => exact absurd HA.out (by simp [tune_Of.l0])
      | succ k2 =>
       have H := HA.out
       clear HA
       simp only [tune_Of.l0] at H
       by_cases c25 : x35_2 < 4
       ·
        rw [if_pos c25] at H
        have c25b0 : decide (x35_2 < 4) = true := decide_eq_true c25
        clear c25
        by_cases c26 : 0 ≤ x35_2
        ·
         rw [if_pos c26] at H
         have c26b0 : decide (0 ≤ x35_2) = true := decide_eq_true c26
         clear c26
         replace H := Option.bind_eq_some_iff.mp H
         obtain ⟨⟨t217, t218⟩, A280, H⟩ := H
         replace H : ((tune_times.f k2 x6_2 (rd ([t213, t214, t215, t216] : List Int) x35_2)).bind fun bt219 => (if x35_2 = 0 then (tune_Of.l0 k2 t218 bt219.2 (wrap64 (x35_2 + 1)) t216 t215 t214 t213 (wrap64 (t217 - bt219.1)) x213001_2 x213002_2 x213003_2) else (if x35_2 = 1 then (tune_Of.l0 k2 t218 bt219.2 (wrap64 (x35_2 + 1)) t216 t215 t214 t213 x213000_2 (wrap64 (t217 - bt219.1)) x213002_2 x213003_2) else (if x35_2 = 2 then (tune_Of.l0 k2 t218 bt219.2 (wrap64 (x35_2 + 1)) t216 t215 t214 t213 x213000_2 x213001_2 (wrap64 (t217 - bt219.1)) x213003_2) else (if x35_2 = 3 then (tune_Of.l0 k2 t218 bt219.2 (wrap64 (x35_2 + 1)) t216 t215 t214 t213 x213000_2 x213001_2 x213002_2 (wrap64 (t217 - bt219.1))) else (none)))))) = some (r1, r2, r3, r4, r5) := H
         have A28 := Ad.mk A280
         clear A280
         replace H := Option.bind_eq_some_iff.mp H
         obtain ⟨⟨t219, t220⟩, A290, H⟩ := H
         replace H : (if x35_2 = 0 then (tune_Of.l0 k2 t218 t220 (wrap64 (x35_2 + 1)) t216 t215 t214 t213 (wrap64 (t217 - t219)) x213001_2 x213002_2 x213003_2) else (if x35_2 = 1 then (tune_Of.l0 k2 t218 t220 (wrap64 (x35_2 + 1)) t216 t215 t214 t213 x213000_2 (wrap64 (t217 - t219)) x213002_2 x213003_2) else (if x35_2 = 2 then (tune_Of.l0 k2 t218 t220 (wrap64 (x35_2 + 1)) t216 t215 t214 t213 x213000_2 x213001_2 (wrap64 (t217 - t219)) x213003_2) else (if x35_2 = 3 then (tune_Of.l0 k2 t218 t220 (wrap64 (x35_2 + 1)) t216 t215 t214 t213 x213000_2 x213001_2 x213002_2 (wrap64 (t217 - t219))) else (none))))) = some (r1, r2, r3, r4, r5) := H
         have A29 := Ad.mk A290
         clear A290
         by_cases c30 : x35_2 = 0
         ·
          rw [if_pos c30] at H
          have c30b0 : (x35_2 == 0) = true := beq_iff_eq.mpr c30
          have c30b1 : (x35_2 != 0) = false := bne_eq_false_iff_eq.mpr c30
          clear c30
          have H' := Ad.mk H
          clear H
          have hx27 : ∀ w_ : World, (Instr.index 119 (.agg #[.int .i64 t213, .int .i64 t214, .int .i64 t215, .int .i64 t216]) (.int .i64 x35_2)).run Tryd.prog w_ = .ok (.int .i64 (rd ([t213, t214, t215, t216] : List Int) x35_2)) w_ := fun w_ => arr_index_119 w_ t213 t214 t215 t216 x35_2 (of_decide_eq_true (by first | (with_reducible assumption) | assumption)) (of_decide_eq_true (by first | (with_reducible assumption) | assumption))
          go_wp2_with (first | ((with_reducible refine qgc (f := 77) rfl ?_); refine goesL_ (some 42) rfl rfl Tryd.func77 (by kernel_rfl) rfl #[.int .i64 x5_2, .int .i64 (rd ([t213, t214, t215, t216] : List Int) x35_2)] rfl (by (try simp only [List.map_toArray, List.map_cons, List.map_nil]); first | done | rfl) ?_; (with_reducible refine (tune_times.calls k2 x5_2 (rd ([t213, t214, t215, t216] : List Int) x35_2) t217 t218 _ A28.out).mono ?_); rintro e w' ⟨rfl, ⟨nd, rfl⟩⟩; refine ⟨_, rfl, ?_⟩; (try (rw [drewN_self wr]; generalize hq_ : World.drewN wr _ = wr; have n0_ : Ad (wr.heap[gb208]? = some (.cells #[.int .i64 a0_0, .int .i64 a0_1] 30 (0, 0))) := ⟨by rw [← hq_]; exact (by exact BK208.out)⟩; have n1_ : Ad (wr.heap[gb209]? = some (.cells #[.int .i64 0, .int .i64 0, .int .i64 0, .int .i64 0] 27 (0, 0))) := ⟨by rw [← hq_]; exact (by exact BK209.out)⟩; have n2_ : Ad (wr.heap[gb212]? = some (.cells #[.int .i64 x213000_2, .int .i64 x213001_2, .int .i64 x213002_2, .int .i64 x213003_2] 119 (0, 0))) := ⟨by rw [← hq_]; exact (by exact BK212.out)⟩; have n3_ : Ad (Below w.heap.size w wr) := ⟨by rw [← hq_]; exact (by repeat (first | (with_reducible first | exact HB.out | apply qbn | apply qb1) | exact HB.out))⟩; clear BK208 BK209 BK212 HB hq_; have BK208 := n0_; have BK209 := n1_; have BK212 := n2_; have HB := n3_; clear n0_ n1_ n2_ n3_))) | ((with_reducible refine qgc (f := 77) rfl ?_); refine goesL_ (some 48) rfl rfl Tryd.func77 (by kernel_rfl) rfl #[.int .i64 x6_2, .int .i64 (rd ([t213, t214, t215, t216] : List Int) x35_2)] rfl (by (try simp only [List.map_toArray, List.map_cons, List.map_nil]); first | done | rfl) ?_; (with_reducible refine (tune_times.calls k2 x6_2 (rd ([t213, t214, t215, t216] : List Int) x35_2) t219 t220 _ A29.out).mono ?_); rintro e w' ⟨rfl, ⟨nd, rfl⟩⟩; refine ⟨_, rfl, ?_⟩; (try (rw [drewN_self wr]; generalize hq_ : World.drewN wr _ = wr; have n0_ : Ad (wr.heap[gb208]? = some (.cells #[.int .i64 a0_0, .int .i64 a0_1] 30 (0, 0))) := ⟨by rw [← hq_]; exact (by exact BK208.out)⟩; have n1_ : Ad (wr.heap[gb209]? = some (.cells #[.int .i64 0, .int .i64 0, .int .i64 0, .int .i64 0] 27 (0, 0))) := ⟨by rw [← hq_]; exact (by exact BK209.out)⟩; have n2_ : Ad (wr.heap[gb212]? = some (.cells #[.int .i64 x213000_2, .int .i64 x213001_2, .int .i64 x213002_2, .int .i64 x213003_2] 119 (0, 0))) := ⟨by rw [← hq_]; exact (by exact BK212.out)⟩; have n3_ : Ad (Below w.heap.size w wr) := ⟨by rw [← hq_]; exact (by repeat (first | (with_reducible first | exact HB.out | apply qbn | apply qb1) | exact HB.out))⟩; clear BK208 BK209 BK212 HB hq_; have BK208 := n0_; have BK209 := n1_; have BK212 := n2_; have HB := n3_; clear n0_ n1_ n2_ n3_)); have hx31 : ∀ (g_ : Nat) (w_ : World), (Instr.indexAt 119 (.pointer (some ⟨g_, 0, none⟩)) (.int .i64 x35_2)).run Tryd.prog w_ = .ok (.pointer (some ⟨g_, 0, none⟩)) w_ := fun g_ w_ => arr_addr_119_0 g_ w_ x35_2 (beq_iff_eq.mp (by first | (with_reducible assumption) | assumption)); have hnb32 := NB212_208.out; have hnc32 := NB208_212.out; have hnb33 := NB212_209.out; have hnc33 := NB209_212.out; have hcz34_0 : wr.cell? ⟨gb212, 0, none⟩ = some (.int .i64 x213000_2) := (qkc BK212.out 0).trans rfl; have hcz34_1 : wr.cell? ⟨gb212, 1, none⟩ = some (.int .i64 x213001_2) := (qkc BK212.out 1).trans rfl; have hcz34_2 : wr.cell? ⟨gb212, 2, none⟩ = some (.int .i64 x213002_2) := (qkc BK212.out 2).trans rfl; have hcz34_3 : wr.cell? ⟨gb212, 3, none⟩ = some (.int .i64 x213003_2) := (qkc BK212.out 3).trans rfl; have hfz34_0 := qkz BK212.out 0; have hfz34_1 := qkz BK212.out 1; have hfz34_2 := qkz BK212.out 2; have hfz34_3 := qkz BK212.out 3))
          go_roundg k2
          case measure => have := HJ1.out; have := HK2.out; omega
          case rel => exact ⟨(t218), (t220), (wrap64 (x35_2 + 1)), (wrap64 (t217 - t219)), (x213001_2), (x213002_2), (x213003_2), (by first | rfl | (simp; done) | (simp [*]; done)), (by first | rfl | (simp; done) | (simp [*]; done)), (by first | rfl | (simp; done) | (simp [*]; done)), H', ⟨by have := HJ1.out; have := HK2.out; omega⟩, ⟨by (with_reducible repeat (first | apply qkn | apply qkd)); refine qkf ?_ NB208_212.out _; (with_reducible repeat (first | apply qkn | apply qkd)); exact BK208.out⟩, ⟨by (with_reducible repeat (first | apply qkn | apply qkd)); refine qkf ?_ NB209_212.out _; (with_reducible repeat (first | apply qkn | apply qkd)); exact BK209.out⟩, ⟨by (with_reducible repeat (first | apply qkn | apply qkd)); refine qkp (cs := #[.int .i64 x213000_2, .int .i64 x213001_2, .int .i64 x213002_2, .int .i64 x213003_2]) ?_ 0 _ rfl; (with_reducible repeat (first | apply qkn | apply qkd)); exact BK212.out⟩, ⟨by repeat (first | (with_reducible first | exact HB.out | apply qbn | apply qb1 | refine qbs ?_ GE212.out) | exact HB.out)⟩⟩
         ·
          rw [if_neg c30] at H
          have c30b0 : (x35_2 == 0) = false := beq_eq_false_iff_ne.mpr c30
          have c30b1 : (x35_2 != 0) = true := bne_iff_ne.mpr c30
          by_cases c35 : x35_2 = 1
          ·
           rw [if_pos c35] at H
           have c35b0 : (x35_2 == 1) = true := beq_iff_eq.mpr c35
           have c35b1 : (x35_2 != 1) = false := bne_eq_false_iff_eq.mpr c35
           clear c35
           have H' := Ad.mk H
           clear H
           have hx27 : ∀ w_ : World, (Instr.index 119 (.agg #[.int .i64 t213, .int .i64 t214, .int .i64 t215, .int .i64 t216]) (.int .i64 x35_2)).run Tryd.prog w_ = .ok (.int .i64 (rd ([t213, t214, t215, t216] : List Int) x35_2)) w_ := fun w_ => arr_index_119 w_ t213 t214 t215 t216 x35_2 (of_decide_eq_true (by first | (with_reducible assumption) | assumption)) (of_decide_eq_true (by first | (with_reducible assumption) | assumption))
           go_wp2_with (first | ((with_reducible refine qgc (f := 77) rfl ?_); refine goesL_ (some 42) rfl rfl Tryd.func77 (by kernel_rfl) rfl #[.int .i64 x5_2, .int .i64 (rd ([t213, t214, t215, t216] : List Int) x35_2)] rfl (by (try simp only [List.map_toArray, List.map_cons, List.map_nil]); first | done | rfl) ?_; (with_reducible refine (tune_times.calls k2 x5_2 (rd ([t213, t214, t215, t216] : List Int) x35_2) t217 t218 _ A28.out).mono ?_); rintro e w' ⟨rfl, ⟨nd, rfl⟩⟩; refine ⟨_, rfl, ?_⟩; (try (rw [drewN_self wr]; generalize hq_ : World.drewN wr _ = wr; have n0_ : Ad (wr.heap[gb208]? = some (.cells #[.int .i64 a0_0, .int .i64 a0_1] 30 (0, 0))) := ⟨by rw [← hq_]; exact (by exact BK208.out)⟩; have n1_ : Ad (wr.heap[gb209]? = some (.cells #[.int .i64 0, .int .i64 0, .int .i64 0, .int .i64 0] 27 (0, 0))) := ⟨by rw [← hq_]; exact (by exact BK209.out)⟩; have n2_ : Ad (wr.heap[gb212]? = some (.cells #[.int .i64 x213000_2, .int .i64 x213001_2, .int .i64 x213002_2, .int .i64 x213003_2] 119 (0, 0))) := ⟨by rw [← hq_]; exact (by exact BK212.out)⟩; have n3_ : Ad (Below w.heap.size w wr) := ⟨by rw [← hq_]; exact (by repeat (first | (with_reducible first | exact HB.out | apply qbn | apply qb1) | exact HB.out))⟩; clear BK208 BK209 BK212 HB hq_; have BK208 := n0_; have BK209 := n1_; have BK212 := n2_; have HB := n3_; clear n0_ n1_ n2_ n3_))) | ((with_reducible refine qgc (f := 77) rfl ?_); refine goesL_ (some 48) rfl rfl Tryd.func77 (by kernel_rfl) rfl #[.int .i64 x6_2, .int .i64 (rd ([t213, t214, t215, t216] : List Int) x35_2)] rfl (by (try simp only [List.map_toArray, List.map_cons, List.map_nil]); first | done | rfl) ?_; (with_reducible refine (tune_times.calls k2 x6_2 (rd ([t213, t214, t215, t216] : List Int) x35_2) t219 t220 _ A29.out).mono ?_); rintro e w' ⟨rfl, ⟨nd, rfl⟩⟩; refine ⟨_, rfl, ?_⟩; (try (rw [drewN_self wr]; generalize hq_ : World.drewN wr _ = wr; have n0_ : Ad (wr.heap[gb208]? = some (.cells #[.int .i64 a0_0, .int .i64 a0_1] 30 (0, 0))) := ⟨by rw [← hq_]; exact (by exact BK208.out)⟩; have n1_ : Ad (wr.heap[gb209]? = some (.cells #[.int .i64 0, .int .i64 0, .int .i64 0, .int .i64 0] 27 (0, 0))) := ⟨by rw [← hq_]; exact (by exact BK209.out)⟩; have n2_ : Ad (wr.heap[gb212]? = some (.cells #[.int .i64 x213000_2, .int .i64 x213001_2, .int .i64 x213002_2, .int .i64 x213003_2] 119 (0, 0))) := ⟨by rw [← hq_]; exact (by exact BK212.out)⟩; have n3_ : Ad (Below w.heap.size w wr) := ⟨by rw [← hq_]; exact (by repeat (first | (with_reducible first | exact HB.out | apply qbn | apply qb1) | exact HB.out))⟩; clear BK208 BK209 BK212 HB hq_; have BK208 := n0_; have BK209 := n1_; have BK212 := n2_; have HB := n3_; clear n0_ n1_ n2_ n3_)); have hx36 : ∀ (g_ : Nat) (w_ : World), (Instr.indexAt 119 (.pointer (some ⟨g_, 0, none⟩)) (.int .i64 x35_2)).run Tryd.prog w_ = .ok (.pointer (some ⟨g_, 1, none⟩)) w_ := fun g_ w_ => arr_addr_119_1 g_ w_ x35_2 (beq_iff_eq.mp (by first | (with_reducible assumption) | assumption)); have hnb37 := NB212_208.out; have hnc37 := NB208_212.out; have hnb38 := NB212_209.out; have hnc38 := NB209_212.out; have hcz39_0 : wr.cell? ⟨gb212, 0, none⟩ = some (.int .i64 x213000_2) := (qkc BK212.out 0).trans rfl; have hcz39_1 : wr.cell? ⟨gb212, 1, none⟩ = some (.int .i64 x213001_2) := (qkc BK212.out 1).trans rfl; have hcz39_2 : wr.cell? ⟨gb212, 2, none⟩ = some (.int .i64 x213002_2) := (qkc BK212.out 2).trans rfl; have hcz39_3 : wr.cell? ⟨gb212, 3, none⟩ = some (.int .i64 x213003_2) := (qkc BK212.out 3).trans rfl; have hfz39_0 := qkz BK212.out 0; have hfz39_1 := qkz BK212.out 1; have hfz39_2 := qkz BK212.out 2; have hfz39_3 := qkz BK212.out 3))
           go_roundg k2
           case measure => have := HJ1.out; have := HK2.out; omega
           case rel => exact ⟨(t218), (t220), (wrap64 (x35_2 + 1)), (x213000_2), (wrap64 (t217 - t219)), (x213002_2), (x213003_2), (by first | rfl | (simp; done) | (simp [*]; done)), (by first | rfl | (simp; done) | (simp [*]; done)), (by first | rfl | (simp; done) | (simp [*]; done)), H', ⟨by have := HJ1.out; have := HK2.out; omega⟩, ⟨by (with_reducible repeat (first | apply qkn | apply qkd)); refine qkf ?_ NB208_212.out _; (with_reducible repeat (first | apply qkn | apply qkd)); exact BK208.out⟩, ⟨by (with_reducible repeat (first | apply qkn | apply qkd)); refine qkf ?_ NB209_212.out _; (with_reducible repeat (first | apply qkn | apply qkd)); exact BK209.out⟩, ⟨by (with_reducible repeat (first | apply qkn | apply qkd)); refine qkp (cs := #[.int .i64 x213000_2, .int .i64 x213001_2, .int .i64 x213002_2, .int .i64 x213003_2]) ?_ 1 _ rfl; (with_reducible repeat (first | apply qkn | apply qkd)); exact BK212.out⟩, ⟨by repeat (first | (with_reducible first | exact HB.out | apply qbn | apply qb1 | refine qbs ?_ GE212.out) | exact HB.out)⟩⟩
          ·
           rw [if_neg c35] at H
           have c35b0 : (x35_2 == 1) = false := beq_eq_false_iff_ne.mpr c35
           have c35b1 : (x35_2 != 1) = true := bne_iff_ne.mpr c35
           by_cases c40 : x35_2 = 2
           ·
            rw [if_pos c40] at H
            have c40b0 : (x35_2 == 2) = true := beq_iff_eq.mpr c40
            have c40b1 : (x35_2 != 2) = false := bne_eq_false_iff_eq.mpr c40
            clear c40
            have H' := Ad.mk H
            clear H
            have hx27 : ∀ w_ : World, (Instr.index 119 (.agg #[.int .i64 t213, .int .i64 t214, .int .i64 t215, .int .i64 t216]) (.int .i64 x35_2)).run Tryd.prog w_ = .ok (.int .i64 (rd ([t213, t214, t215, t216] : List Int) x35_2)) w_ := fun w_ => arr_index_119 w_ t213 t214 t215 t216 x35_2 (of_decide_eq_true (by first | (with_reducible assumption) | assumption)) (of_decide_eq_true (by first | (with_reducible assumption) | assumption))
            go_wp2_with (first | ((with_reducible refine qgc (f := 77) rfl ?_); refine goesL_ (some 42) rfl rfl Tryd.func77 (by kernel_rfl) rfl #[.int .i64 x5_2, .int .i64 (rd ([t213, t214, t215, t216] : List Int) x35_2)] rfl (by (try simp only [List.map_toArray, List.map_cons, List.map_nil]); first | done | rfl) ?_; (with_reducible refine (tune_times.calls k2 x5_2 (rd ([t213, t214, t215, t216] : List Int) x35_2) t217 t218 _ A28.out).mono ?_); rintro e w' ⟨rfl, ⟨nd, rfl⟩⟩; refine ⟨_, rfl, ?_⟩; (try (rw [drewN_self wr]; generalize hq_ : World.drewN wr _ = wr; have n0_ : Ad (wr.heap[gb208]? = some (.cells #[.int .i64 a0_0, .int .i64 a0_1] 30 (0, 0))) := ⟨by rw [← hq_]; exact (by exact BK208.out)⟩; have n1_ : Ad (wr.heap[gb209]? = some (.cells #[.int .i64 0, .int .i64 0, .int .i64 0, .int .i64 0] 27 (0, 0))) := ⟨by rw [← hq_]; exact (by exact BK209.out)⟩; have n2_ : Ad (wr.heap[gb212]? = some (.cells #[.int .i64 x213000_2, .int .i64 x213001_2, .int .i64 x213002_2, .int .i64 x213003_2] 119 (0, 0))) := ⟨by rw [← hq_]; exact (by exact BK212.out)⟩; have n3_ : Ad (Below w.heap.size w wr) := ⟨by rw [← hq_]; exact (by repeat (first | (with_reducible first | exact HB.out | apply qbn | apply qb1) | exact HB.out))⟩; clear BK208 BK209 BK212 HB hq_; have BK208 := n0_; have BK209 := n1_; have BK212 := n2_; have HB := n3_; clear n0_ n1_ n2_ n3_))) | ((with_reducible refine qgc (f := 77) rfl ?_); refine goesL_ (some 48) rfl rfl Tryd.func77 (by kernel_rfl) rfl #[.int .i64 x6_2, .int .i64 (rd ([t213, t214, t215, t216] : List Int) x35_2)] rfl (by (try simp only [List.map_toArray, List.map_cons, List.map_nil]); first | done | rfl) ?_; (with_reducible refine (tune_times.calls k2 x6_2 (rd ([t213, t214, t215, t216] : List Int) x35_2) t219 t220 _ A29.out).mono ?_); rintro e w' ⟨rfl, ⟨nd, rfl⟩⟩; refine ⟨_, rfl, ?_⟩; (try (rw [drewN_self wr]; generalize hq_ : World.drewN wr _ = wr; have n0_ : Ad (wr.heap[gb208]? = some (.cells #[.int .i64 a0_0, .int .i64 a0_1] 30 (0, 0))) := ⟨by rw [← hq_]; exact (by exact BK208.out)⟩; have n1_ : Ad (wr.heap[gb209]? = some (.cells #[.int .i64 0, .int .i64 0, .int .i64 0, .int .i64 0] 27 (0, 0))) := ⟨by rw [← hq_]; exact (by exact BK209.out)⟩; have n2_ : Ad (wr.heap[gb212]? = some (.cells #[.int .i64 x213000_2, .int .i64 x213001_2, .int .i64 x213002_2, .int .i64 x213003_2] 119 (0, 0))) := ⟨by rw [← hq_]; exact (by exact BK212.out)⟩; have n3_ : Ad (Below w.heap.size w wr) := ⟨by rw [← hq_]; exact (by repeat (first | (with_reducible first | exact HB.out | apply qbn | apply qb1) | exact HB.out))⟩; clear BK208 BK209 BK212 HB hq_; have BK208 := n0_; have BK209 := n1_; have BK212 := n2_; have HB := n3_; clear n0_ n1_ n2_ n3_)); have hx41 : ∀ (g_ : Nat) (w_ : World), (Instr.indexAt 119 (.pointer (some ⟨g_, 0, none⟩)) (.int .i64 x35_2)).run Tryd.prog w_ = .ok (.pointer (some ⟨g_, 2, none⟩)) w_ := fun g_ w_ => arr_addr_119_2 g_ w_ x35_2 (beq_iff_eq.mp (by first | (with_reducible assumption) | assumption)); have hnb42 := NB212_208.out; have hnc42 := NB208_212.out; have hnb43 := NB212_209.out; have hnc43 := NB209_212.out; have hcz44_0 : wr.cell? ⟨gb212, 0, none⟩ = some (.int .i64 x213000_2) := (qkc BK212.out 0).trans rfl; have hcz44_1 : wr.cell? ⟨gb212, 1, none⟩ = some (.int .i64 x213001_2) := (qkc BK212.out 1).trans rfl; have hcz44_2 : wr.cell? ⟨gb212, 2, none⟩ = some (.int .i64 x213002_2) := (qkc BK212.out 2).trans rfl; have hcz44_3 : wr.cell? ⟨gb212, 3, none⟩ = some (.int .i64 x213003_2) := (qkc BK212.out 3).trans rfl; have hfz44_0 := qkz BK212.out 0; have hfz44_1 := qkz BK212.out 1; have hfz44_2 := qkz BK212.out 2; have hfz44_3 := qkz BK212.out 3))
            go_roundg k2
            case measure => have := HJ1.out; have := HK2.out; omega
            case rel => exact ⟨(t218), (t220), (wrap64 (x35_2 + 1)), (x213000_2), (x213001_2), (wrap64 (t217 - t219)), (x213003_2), (by first | rfl | (simp; done) | (simp [*]; done)), (by first | rfl | (simp; done) | (simp [*]; done)), (by first | rfl | (simp; done) | (simp [*]; done)), H', ⟨by have := HJ1.out; have := HK2.out; omega⟩, ⟨by (with_reducible repeat (first | apply qkn | apply qkd)); refine qkf ?_ NB208_212.out _; (with_reducible repeat (first | apply qkn | apply qkd)); exact BK208.out⟩, ⟨by (with_reducible repeat (first | apply qkn | apply qkd)); refine qkf ?_ NB209_212.out _; (with_reducible repeat (first | apply qkn | apply qkd)); exact BK209.out⟩, ⟨by (with_reducible repeat (first | apply qkn | apply qkd)); refine qkp (cs := #[.int .i64 x213000_2, .int .i64 x213001_2, .int .i64 x213002_2, .int .i64 x213003_2]) ?_ 2 _ rfl; (with_reducible repeat (first | apply qkn | apply qkd)); exact BK212.out⟩, ⟨by repeat (first | (with_reducible first | exact HB.out | apply qbn | apply qb1 | refine qbs ?_ GE212.out) | exact HB.out)⟩⟩
           ·
            rw [if_neg c40] at H
            have c40b0 : (x35_2 == 2) = false := beq_eq_false_iff_ne.mpr c40
            have c40b1 : (x35_2 != 2) = true := bne_iff_ne.mpr c40
            by_cases c45 : x35_2 = 3
            ·
             rw [if_pos c45] at H
             have c45b0 : (x35_2 == 3) = true := beq_iff_eq.mpr c45
             have c45b1 : (x35_2 != 3) = false := bne_eq_false_iff_eq.mpr c45
             clear c45
             have H' := Ad.mk H
             clear H
             have hx27 : ∀ w_ : World, (Instr.index 119 (.agg #[.int .i64 t213, .int .i64 t214, .int .i64 t215, .int .i64 t216]) (.int .i64 x35_2)).run Tryd.prog w_ = .ok (.int .i64 (rd ([t213, t214, t215, t216] : List Int) x35_2)) w_ := fun w_ => arr_index_119 w_ t213 t214 t215 t216 x35_2 (of_decide_eq_true (by first | (with_reducible assumption) | assumption)) (of_decide_eq_true (by first | (with_reducible assumption) | assumption))
             go_wp2_with (first | ((with_reducible refine qgc (f := 77) rfl ?_); refine goesL_ (some 42) rfl rfl Tryd.func77 (by kernel_rfl) rfl #[.int .i64 x5_2, .int .i64 (rd ([t213, t214, t215, t216] : List Int) x35_2)] rfl (by (try simp only [List.map_toArray, List.map_cons, List.map_nil]); first | done | rfl) ?_; (with_reducible refine (tune_times.calls k2 x5_2 (rd ([t213, t214, t215, t216] : List Int) x35_2) t217 t218 _ A28.out).mono ?_); rintro e w' ⟨rfl, ⟨nd, rfl⟩⟩; refine ⟨_, rfl, ?_⟩; (try (rw [drewN_self wr]; generalize hq_ : World.drewN wr _ = wr; have n0_ : Ad (wr.heap[gb208]? = some (.cells #[.int .i64 a0_0, .int .i64 a0_1] 30 (0, 0))) := ⟨by rw [← hq_]; exact (by exact BK208.out)⟩; have n1_ : Ad (wr.heap[gb209]? = some (.cells #[.int .i64 0, .int .i64 0, .int .i64 0, .int .i64 0] 27 (0, 0))) := ⟨by rw [← hq_]; exact (by exact BK209.out)⟩; have n2_ : Ad (wr.heap[gb212]? = some (.cells #[.int .i64 x213000_2, .int .i64 x213001_2, .int .i64 x213002_2, .int .i64 x213003_2] 119 (0, 0))) := ⟨by rw [← hq_]; exact (by exact BK212.out)⟩; have n3_ : Ad (Below w.heap.size w wr) := ⟨by rw [← hq_]; exact (by repeat (first | (with_reducible first | exact HB.out | apply qbn | apply qb1) | exact HB.out))⟩; clear BK208 BK209 BK212 HB hq_; have BK208 := n0_; have BK209 := n1_; have BK212 := n2_; have HB := n3_; clear n0_ n1_ n2_ n3_))) | ((with_reducible refine qgc (f := 77) rfl ?_); refine goesL_ (some 48) rfl rfl Tryd.func77 (by kernel_rfl) rfl #[.int .i64 x6_2, .int .i64 (rd ([t213, t214, t215, t216] : List Int) x35_2)] rfl (by (try simp only [List.map_toArray, List.map_cons, List.map_nil]); first | done | rfl) ?_; (with_reducible refine (tune_times.calls k2 x6_2 (rd ([t213, t214, t215, t216] : List Int) x35_2) t219 t220 _ A29.out).mono ?_); rintro e w' ⟨rfl, ⟨nd, rfl⟩⟩; refine ⟨_, rfl, ?_⟩; (try (rw [drewN_self wr]; generalize hq_ : World.drewN wr _ = wr; have n0_ : Ad (wr.heap[gb208]? = some (.cells #[.int .i64 a0_0, .int .i64 a0_1] 30 (0, 0))) := ⟨by rw [← hq_]; exact (by exact BK208.out)⟩; have n1_ : Ad (wr.heap[gb209]? = some (.cells #[.int .i64 0, .int .i64 0, .int .i64 0, .int .i64 0] 27 (0, 0))) := ⟨by rw [← hq_]; exact (by exact BK209.out)⟩; have n2_ : Ad (wr.heap[gb212]? = some (.cells #[.int .i64 x213000_2, .int .i64 x213001_2, .int .i64 x213002_2, .int .i64 x213003_2] 119 (0, 0))) := ⟨by rw [← hq_]; exact (by exact BK212.out)⟩; have n3_ : Ad (Below w.heap.size w wr) := ⟨by rw [← hq_]; exact (by repeat (first | (with_reducible first | exact HB.out | apply qbn | apply qb1) | exact HB.out))⟩; clear BK208 BK209 BK212 HB hq_; have BK208 := n0_; have BK209 := n1_; have BK212 := n2_; have HB := n3_; clear n0_ n1_ n2_ n3_)); have hx46 : ∀ (g_ : Nat) (w_ : World), (Instr.indexAt 119 (.pointer (some ⟨g_, 0, none⟩)) (.int .i64 x35_2)).run Tryd.prog w_ = .ok (.pointer (some ⟨g_, 3, none⟩)) w_ := fun g_ w_ => arr_addr_119_3 g_ w_ x35_2 (beq_iff_eq.mp (by first | (with_reducible assumption) | assumption)); have hnb47 := NB212_208.out; have hnc47 := NB208_212.out; have hnb48 := NB212_209.out; have hnc48 := NB209_212.out; have hcz49_0 : wr.cell? ⟨gb212, 0, none⟩ = some (.int .i64 x213000_2) := (qkc BK212.out 0).trans rfl; have hcz49_1 : wr.cell? ⟨gb212, 1, none⟩ = some (.int .i64 x213001_2) := (qkc BK212.out 1).trans rfl; have hcz49_2 : wr.cell? ⟨gb212, 2, none⟩ = some (.int .i64 x213002_2) := (qkc BK212.out 2).trans rfl; have hcz49_3 : wr.cell? ⟨gb212, 3, none⟩ = some (.int .i64 x213003_2) := (qkc BK212.out 3).trans rfl; have hfz49_0 := qkz BK212.out 0; have hfz49_1 := qkz BK212.out 1; have hfz49_2 := qkz BK212.out 2; have hfz49_3 := qkz BK212.out 3))
             go_roundg k2
             case measure => have := HJ1.out; have := HK2.out; omega
             case rel => exact ⟨(t218), (t220), (wrap64 (x35_2 + 1)), (x213000_2), (x213001_2), (x213002_2), (wrap64 (t217 - t219)), (by first | rfl | (simp; done) | (simp [*]; done)), (by first | rfl | (simp; done) | (simp [*]; done)), (by first | rfl | (simp; done) | (simp [*]; done)), H', ⟨by have := HJ1.out; have := HK2.out; omega⟩, ⟨by (with_reducible repeat (first | apply qkn | apply qkd)); refine qkf ?_ NB208_212.out _; (with_reducible repeat (first | apply qkn | apply qkd)); exact BK208.out⟩, ⟨by (with_reducible repeat (first | apply qkn | apply qkd)); refine qkf ?_ NB209_212.out _; (with_reducible repeat (first | apply qkn | apply qkd)); exact BK209.out⟩, ⟨by (with_reducible repeat (first | apply qkn | apply qkd)); refine qkp (cs := #[.int .i64 x213000_2, .int .i64 x213001_2, .int .i64 x213002_2, .int .i64 x213003_2]) ?_ 3 _ rfl; (with_reducible repeat (first | apply qkn | apply qkd)); exact BK212.out⟩, ⟨by repeat (first | (with_reducible first | exact HB.out | apply qbn | apply qb1 | refine qbs ?_ GE212.out) | exact HB.out)⟩⟩
            ·
             rw [if_neg c45] at H
             exact absurd H (by simp)
        ·
         rw [if_neg c26] at H
         exact absurd H (by simp)
       ·
        rw [if_neg c25] at H
        have c25b0 : decide (x35_2 < 4) = false := decide_eq_false c25
        clear c25
        have HC50 := Ad.mk H
        clear H
        go_upto_region 15 with (fail)
        go_cut [62] (fun v62 wc => ∃ (kq : Nat) (x62_49 : Bool), v62 = .bool x62_49 ∧ Ad (tune_Of.j2 kq x62_49 x213000_2 x213001_2 x213002_2 x213003_2 = some (r1, r2, r3, r4, r5)) ∧ Ad (kq ≤ k2) ∧ Ad (wc.heap[gb208]? = some (.cells #[.int .i64 a0_0, .int .i64 a0_1] 30 (0, 0))) ∧ Ad (wc.heap[gb209]? = some (.cells #[.int .i64 0, .int .i64 0, .int .i64 0, .int .i64 0] 27 (0, 0))) ∧ Ad (wc.heap[gb212]? = some (.cells #[.int .i64 x213000_2, .int .i64 x213001_2, .int .i64 x213002_2, .int .i64 x213003_2] 119 (0, 0))) ∧ Ad (Below w.heap.size w wc))
        case first =>
         have H := HC50.out
         clear HC50
         by_cases c51 : x5_2 = 1
         ·
          rw [if_pos c51] at H
          have c51b0 : (x5_2 == 1) = true := beq_iff_eq.mpr c51
          have c51b1 : (x5_2 != 1) = false := bne_eq_false_iff_eq.mpr c51
          clear c51
          (first | rw [c51b0] | (simp only [i64_w, i32_w]; rw [c51b0]) | skip)
          have H' := Ad.mk H
          clear H
          go_wp2
          go_meet
          case rel => exact ⟨_, ((x6_2 != 1)), (by first | rfl | (simp; done) | (simp [*]; done)), H', ⟨by have := HJ1.out; have := HK2.out; first | omega | exact Nat.le_refl _⟩, ⟨by exact BK208.out⟩, ⟨by exact BK209.out⟩, ⟨by exact BK212.out⟩, ⟨by repeat (first | (with_reducible first | exact HB.out | apply qbn | apply qb1) | exact HB.out)⟩⟩
         ·
          rw [if_neg c51] at H
          have c51b0 : (x5_2 == 1) = false := beq_eq_false_iff_ne.mpr c51
          have c51b1 : (x5_2 != 1) = true := bne_iff_ne.mpr c51
          (first | rw [c51b0] | (simp only [i64_w, i32_w]; rw [c51b0]) | skip)
          have H' := Ad.mk H
          clear H
          go_wp2
          go_meet
          case rel => exact ⟨_, (true), (by first | rfl | (simp; done) | (simp [*]; done)), H', ⟨by have := HJ1.out; have := HK2.out; first | omega | exact Nat.le_refl _⟩, ⟨by exact BK208.out⟩, ⟨by exact BK209.out⟩, ⟨by exact BK212.out⟩, ⟨by repeat (first | (with_reducible first | exact HB.out | apply qbn | apply qb1) | exact HB.out)⟩⟩
        case rest =>
         clear HC50
         try clear c1
         try clear c2
         try clear p2
         try clear hx2
         try clear c3
         try clear hx3
         try clear c4
         try clear hx4
         try clear c5
         try clear c5b0
         try clear c6
         try clear p6
         try clear c7
         try clear c8
         try clear c10
         try clear c11
         try clear c14
         try clear c14b0
         try clear c17
         try clear c25
         try clear c25b0
         try clear c26
         try clear c26b0
         try clear hx27
         try clear c30
         try clear c30b0
         try clear c30b1
         try clear hx31
         try clear c32
         try clear c33
         try clear c35
         try clear c35b0
         try clear c35b1
         try clear hx36
         try clear c37
         try clear c38
         try clear c40
         try clear c40b0
         try clear c40b1
         try clear hx41
         try clear c42
         try clear c43
         try clear c45
         try clear c45b0
         try clear c45b1
         try clear hx46
         try clear c47
         try clear c48
         try clear c51
         try clear c51b0
         try clear c51b1
         try clear hcz12_0
         try clear hcz12_1
         try clear hcz12_2
         try clear hcz12_3
         try clear hcz18_0
         try clear hcz18_1
         try clear hcz18_2
         try clear hcz18_3
         try clear hcz34_0
         try clear hcz34_1
         try clear hcz34_2
         try clear hcz34_3
         try clear hcz39_0
         try clear hcz39_1
         try clear hcz39_2
         try clear hcz39_3
         try clear hcz44_0
         try clear hcz44_1
         try clear hcz44_2
         try clear hcz44_3
         try clear hcz49_0
         try clear hcz49_1
         try clear hcz49_2
         try clear hcz49_3
         try clear hcz7_0
         try clear hcz7_1
         try clear hcz9_0
         try clear hcz9_1
         try clear hfz12_0
         try clear hfz12_1
         try clear hfz12_2
         try clear hfz12_3
         try clear hfz18_0
         try clear hfz18_1
         try clear hfz18_2
         try clear hfz18_3
         try clear hfz34_0
         try clear hfz34_1
         try clear hfz34_2
         try clear hfz34_3
         try clear hfz39_0
         try clear hfz39_1
         try clear hfz39_2
         try clear hfz39_3
         try clear hfz44_0
         try clear hfz44_1
         try clear hfz44_2
         try clear hfz44_3
         try clear hfz49_0
         try clear hfz49_1
         try clear hfz49_2
         try clear hfz49_3
         try clear hfz7_0
         try clear hfz7_1
         try clear hfz9_0
         try clear hfz9_1
         try clear p2
         obtain ⟨kq, x62_49, rfl, HA, HJ49, BK208, BK209, BK212, HB⟩ := hcut
         cases kq with
         | zero => exact absurd HA.out (by simp [tune_Of.j2])
         | succ kj49 =>
          have H := HA.out
          clear HA
          simp only [tune_Of.j2] at H
          by_cases c52 : x62_49 = true
          ·
           subst c52
           have H1 : (some (0, 0, 0, 0, 16)) = some (r1, r2, r3, r4, r5) := by rw [if_pos rfl] at H; exact H
           clear H
           have H := H1
           clear H1
           simp only [Option.some.injEq, Prod.mk.injEq] at H
           obtain ⟨rfl, rfl, rfl, rfl, rfl⟩ := H
           have hnb53 := NB209_208.out
           have hnc53 := NB208_209.out
           have hnb54 := NB209_212.out
           have hnc54 := NB212_209.out
           have hcz55_0 : wc.cell? ⟨gb209, 0, none⟩ = some (.int .i64 0) := (qkc BK209.out 0).trans rfl
           have hcz55_1 : wc.cell? ⟨gb209, 1, none⟩ = some (.int .i64 0) := (qkc BK209.out 1).trans rfl
           have hcz55_2 : wc.cell? ⟨gb209, 2, none⟩ = some (.int .i64 0) := (qkc BK209.out 2).trans rfl
           have hcz55_3 : wc.cell? ⟨gb209, 3, none⟩ = some (.int .i64 0) := (qkc BK209.out 3).trans rfl
           have hfz55_0 := qkz BK209.out 0
           have hfz55_1 := qkz BK209.out 1
           have hfz55_2 := qkz BK209.out 2
           have hfz55_3 := qkz BK209.out 3
           go_wp2
           refine bodyPost_ret (results_ct rfl _ _ gb209 27 #[.int .i64 0, .int .i64 0, .int .i64 0, .int .i64 0] (0, 0) _ rfl (by (with_reducible repeat (first | apply qkn | apply qkd)); refine qkp (cs := #[.int .i64 0, .int .i64 0, .int .i64 0, .int .i64 0]) ?_ 3 _ rfl; (with_reducible repeat (first | apply qkn | apply qkd)); refine qkp (cs := #[.int .i64 0, .int .i64 0, .int .i64 0, .int .i64 0]) ?_ 2 _ rfl; (with_reducible repeat (first | apply qkn | apply qkd)); refine qkp (cs := #[.int .i64 0, .int .i64 0, .int .i64 0, .int .i64 0]) ?_ 1 _ rfl; (with_reducible repeat (first | apply qkn | apply qkd)); refine qkp (cs := #[.int .i64 0, .int .i64 0, .int .i64 0, .int .i64 0]) ?_ 0 _ rfl; (with_reducible repeat (first | apply qkn | apply qkd)); exact BK209.out) Tryd.underlying27 rfl (by kernel_rfl)) rfl ?_
           exact ⟨by first | rfl | (simp [errW_none, errW_some] <;> rfl) | (simp [*, errW_none, errW_some] <;> rfl), by repeat (first | (with_reducible first | exact HB.out | apply qbn | apply qb1 | refine qbs ?_ GE209.out) | exact HB.out)⟩
          ·
           replace c52 := Bool.eq_false_iff.mpr c52
           subst c52
           have H1 : ((tune_CheckInterval.f x213000_2 x213001_2 x213002_2 x213003_2).bind fun t222 => (if t222 = 0 then (some (x213000_2, x213001_2, x213002_2, x213003_2, 0)) else (some (0, 0, 0, 0, t222)))) = some (r1, r2, r3, r4, r5) := by rw [if_neg (show ¬ (false = true) by decide)] at H; exact H
           clear H
           have H := H1
           clear H1
           replace H := Option.bind_eq_some_iff.mp H
           obtain ⟨t222, A560, H⟩ := H
           replace H : (if t222 = 0 then (some (x213000_2, x213001_2, x213002_2, x213003_2, 0)) else (some (0, 0, 0, 0, t222))) = some (r1, r2, r3, r4, r5) := H
           have A56 := Ad.mk A560
           clear A560
           by_cases c57 : t222 = 0
           ·
            rw [if_pos c57] at H
            have c57b0 : (t222 == 0) = true := beq_iff_eq.mpr c57
            have c57b1 : (t222 != 0) = false := bne_eq_false_iff_eq.mpr c57
            clear c57
            simp only [Option.some.injEq, Prod.mk.injEq] at H
            obtain ⟨rfl, rfl, rfl, rfl, rfl⟩ := H
            have hnb58 := NB212_208.out
            have hnc58 := NB208_212.out
            have hnb59 := NB212_209.out
            have hnc59 := NB209_212.out
            have hcz60_0 : wc.cell? ⟨gb212, 0, none⟩ = some (.int .i64 x213000_2) := (qkc BK212.out 0).trans rfl
            have hcz60_1 : wc.cell? ⟨gb212, 1, none⟩ = some (.int .i64 x213001_2) := (qkc BK212.out 1).trans rfl
            have hcz60_2 : wc.cell? ⟨gb212, 2, none⟩ = some (.int .i64 x213002_2) := (qkc BK212.out 2).trans rfl
            have hcz60_3 : wc.cell? ⟨gb212, 3, none⟩ = some (.int .i64 x213003_2) := (qkc BK212.out 3).trans rfl
            have hfz60_0 := qkz BK212.out 0
            have hfz60_1 := qkz BK212.out 1
            have hfz60_2 := qkz BK212.out 2
            have hfz60_3 := qkz BK212.out 3
            go_wp2_with (first | ((with_reducible refine qgd (N := 11) rfl ?_); refine qbe ?hg (N := 11) ?hd (cs := #[.int .i64 0, .int .i64 0, .int .i64 0, .int .i64 0]) (t := 27) ?hr ?_; (case hd => rfl); (case hg => rfl); (case hr => first | (go_simp; done) | (go_simp; rfl)); intro gb221 hg w61 hbox hb; have BK221 := Ad.mk (hbox); have GW221 := Ad.mk ((by rw [hg]; exact (qbz (by repeat (first | (with_reducible first | exact HB.out | apply qbn | apply qb1) | exact HB.out))) : w.heap.size ≤ gb221)); have GE221 := Ad.mk ((by rw [hg]; exact (qbz (by repeat (first | (with_reducible first | exact HB.out | apply qbn | apply qb1) | exact HB.out))) : w.heap.size ≤ gb221)); have NB208_221 := Ad.mk ((by rw [hg]; exact Nat.ne_of_lt (qkl (by exact BK208.out)) : gb208 ≠ gb221)); have NB221_208 := Ad.mk ((by rw [hg]; exact Nat.ne_of_gt (qkl (by exact BK208.out)) : gb221 ≠ gb208)); have NB209_221 := Ad.mk ((by rw [hg]; exact Nat.ne_of_lt (qkl (by exact BK209.out)) : gb209 ≠ gb221)); have NB221_209 := Ad.mk ((by rw [hg]; exact Nat.ne_of_gt (qkl (by exact BK209.out)) : gb221 ≠ gb209)); have NB212_221 := Ad.mk ((by rw [hg]; exact Nat.ne_of_lt (qkl (by exact BK212.out)) : gb212 ≠ gb221)); have NB221_212 := Ad.mk ((by rw [hg]; exact Nat.ne_of_gt (qkl (by exact BK212.out)) : gb221 ≠ gb212)); replace BK208 := Ad.mk (qkb (by exact BK208.out) hb); replace BK209 := Ad.mk (qkb (by exact BK209.out) hb); replace BK212 := Ad.mk (qkb (by exact BK212.out) hb); replace HB := Ad.mk (qbt (by repeat (first | (with_reducible first | exact HB.out | apply qbn | apply qb1) | exact HB.out)) hb); clear hb hbox hg; have hnb62 := NB221_208.out; have hnc62 := NB208_221.out; have hnb63 := NB221_209.out; have hnc63 := NB209_221.out; have hnb64 := NB221_212.out; have hnc64 := NB212_221.out; have hcz65_0 : w61.cell? ⟨gb221, 0, none⟩ = some (.int .i64 0) := (qkc BK221.out 0).trans rfl; have hcz65_1 : w61.cell? ⟨gb221, 1, none⟩ = some (.int .i64 0) := (qkc BK221.out 1).trans rfl; have hcz65_2 : w61.cell? ⟨gb221, 2, none⟩ = some (.int .i64 0) := (qkc BK221.out 2).trans rfl; have hcz65_3 : w61.cell? ⟨gb221, 3, none⟩ = some (.int .i64 0) := (qkc BK221.out 3).trans rfl; have hfz65_0 := qkz BK221.out 0; have hfz65_1 := qkz BK221.out 1; have hfz65_2 := qkz BK221.out 2; have hfz65_3 := qkz BK221.out 3) | ((with_reducible refine qgc (f := 16) rfl ?_); refine goesL_ (some 74) rfl rfl Tryd.func16 (by kernel_rfl) rfl #[.agg #[.int .i64 x213000_2, .int .i64 x213001_2, .int .i64 x213002_2, .int .i64 x213003_2]] rfl (by (try simp only [List.map_toArray, List.map_cons, List.map_nil]); first | done | rfl) ?_; (with_reducible refine (tune_CheckInterval.calls x213000_2 x213001_2 x213002_2 x213003_2 t222 _ A56.out).mono ?_); rintro e w66 ⟨rfl, hb⟩; refine ⟨_, rfl, ?_⟩; replace BK208 := Ad.mk (qkb (g := gb208) (o := .cells #[.int .i64 a0_0, .int .i64 a0_1] 30 (0, 0)) (by (iterate 4 ((with_reducible repeat (first | apply qkn | apply qkd)); refine qkf ?_ NB208_221.out _)); (with_reducible repeat (first | apply qkn | apply qkd)); exact BK208.out) hb); replace BK209 := Ad.mk (qkb (g := gb209) (o := .cells #[.int .i64 0, .int .i64 0, .int .i64 0, .int .i64 0] 27 (0, 0)) (by (iterate 4 ((with_reducible repeat (first | apply qkn | apply qkd)); refine qkf ?_ NB209_221.out _)); (with_reducible repeat (first | apply qkn | apply qkd)); exact BK209.out) hb); replace BK212 := Ad.mk (qkb (g := gb212) (o := .cells #[.int .i64 x213000_2, .int .i64 x213001_2, .int .i64 x213002_2, .int .i64 x213003_2] 119 (0, 0)) (by (iterate 4 ((with_reducible repeat (first | apply qkn | apply qkd)); refine qkf ?_ NB212_221.out _)); (with_reducible repeat (first | apply qkn | apply qkd)); exact BK212.out) hb); replace BK221 := Ad.mk (qkb (g := gb221) (o := .cells #[.int .i64 x213000_2, .int .i64 x213001_2, .int .i64 x213002_2, .int .i64 x213003_2] 27 (0, 0)) (by (with_reducible repeat (first | apply qkn | apply qkd)); refine qkp (cs := #[.int .i64 x213000_2, .int .i64 x213001_2, .int .i64 x213002_2, .int .i64 0]) ?_ 3 _ rfl; (with_reducible repeat (first | apply qkn | apply qkd)); refine qkp (cs := #[.int .i64 x213000_2, .int .i64 x213001_2, .int .i64 0, .int .i64 0]) ?_ 2 _ rfl; (with_reducible repeat (first | apply qkn | apply qkd)); refine qkp (cs := #[.int .i64 x213000_2, .int .i64 0, .int .i64 0, .int .i64 0]) ?_ 1 _ rfl; (with_reducible repeat (first | apply qkn | apply qkd)); refine qkp (cs := #[.int .i64 0, .int .i64 0, .int .i64 0, .int .i64 0]) ?_ 0 _ rfl; (with_reducible repeat (first | apply qkn | apply qkd)); exact BK221.out) hb); replace HB := Ad.mk (qbt (by repeat (first | (with_reducible first | exact HB.out | apply qbn | apply qb1 | refine qbs ?_ GE221.out) | exact HB.out)) hb); (try clear hb); have hcz67_0 : w66.cell? ⟨gb221, 0, none⟩ = some (.int .i64 x213000_2) := (qkc BK221.out 0).trans rfl; have hcz67_1 : w66.cell? ⟨gb221, 1, none⟩ = some (.int .i64 x213001_2) := (qkc BK221.out 1).trans rfl; have hcz67_2 : w66.cell? ⟨gb221, 2, none⟩ = some (.int .i64 x213002_2) := (qkc BK221.out 2).trans rfl; have hcz67_3 : w66.cell? ⟨gb221, 3, none⟩ = some (.int .i64 x213003_2) := (qkc BK221.out 3).trans rfl; have hfz67_0 := qkz BK221.out 0; have hfz67_1 := qkz BK221.out 1; have hfz67_2 := qkz BK221.out 2; have hfz67_3 := qkz BK221.out 3; have hnb68 := NB209_208.out; have hnc68 := NB208_209.out; have hcz69_0 : w66.cell? ⟨gb209, 0, none⟩ = some (.int .i64 0) := (qkc BK209.out 0).trans rfl; have hcz69_1 : w66.cell? ⟨gb209, 1, none⟩ = some (.int .i64 0) := (qkc BK209.out 1).trans rfl; have hcz69_2 : w66.cell? ⟨gb209, 2, none⟩ = some (.int .i64 0) := (qkc BK209.out 2).trans rfl; have hcz69_3 : w66.cell? ⟨gb209, 3, none⟩ = some (.int .i64 0) := (qkc BK209.out 3).trans rfl; have hfz69_0 := qkz BK209.out 0; have hfz69_1 := qkz BK209.out 1; have hfz69_2 := qkz BK209.out 2; have hfz69_3 := qkz BK209.out 3))
            refine bodyPost_ret (results_ct rfl _ _ gb209 27 #[.int .i64 x213000_2, .int .i64 x213001_2, .int .i64 x213002_2, .int .i64 x213003_2] (0, 0) _ rfl (by (with_reducible repeat (first | apply qkn | apply qkd)); refine qkp (cs := #[.int .i64 x213000_2, .int .i64 x213001_2, .int .i64 x213002_2, .int .i64 0]) ?_ 3 _ rfl; (with_reducible repeat (first | apply qkn | apply qkd)); refine qkp (cs := #[.int .i64 x213000_2, .int .i64 x213001_2, .int .i64 0, .int .i64 0]) ?_ 2 _ rfl; (with_reducible repeat (first | apply qkn | apply qkd)); refine qkp (cs := #[.int .i64 x213000_2, .int .i64 0, .int .i64 0, .int .i64 0]) ?_ 1 _ rfl; (with_reducible repeat (first | apply qkn | apply qkd)); refine qkp (cs := #[.int .i64 0, .int .i64 0, .int .i64 0, .int .i64 0]) ?_ 0 _ rfl; (with_reducible repeat (first | apply qkn | apply qkd)); exact BK209.out) Tryd.underlying27 rfl (by kernel_rfl)) rfl ?_
            exact ⟨by first | rfl | (simp [errW_none, errW_some] <;> rfl) | (simp [*, errW_none, errW_some] <;> rfl), by repeat (first | (with_reducible first | exact HB.out | apply qbn | apply qb1 | refine qbs ?_ GE209.out) | exact HB.out)⟩
           ·
            rw [if_neg c57] at H
            have c57b0 : (t222 == 0) = false := beq_eq_false_iff_ne.mpr c57
            have c57b1 : (t222 != 0) = true := bne_iff_ne.mpr c57
            simp only [Option.some.injEq, Prod.mk.injEq] at H
            obtain ⟨rfl, rfl, rfl, rfl, rfl⟩ := H
            have hnb70 := NB212_208.out
            have hnc70 := NB208_212.out
            have hnb71 := NB212_209.out
            have hnc71 := NB209_212.out
            have hcz72_0 : wc.cell? ⟨gb212, 0, none⟩ = some (.int .i64 x213000_2) := (qkc BK212.out 0).trans rfl
            have hcz72_1 : wc.cell? ⟨gb212, 1, none⟩ = some (.int .i64 x213001_2) := (qkc BK212.out 1).trans rfl
            have hcz72_2 : wc.cell? ⟨gb212, 2, none⟩ = some (.int .i64 x213002_2) := (qkc BK212.out 2).trans rfl
            have hcz72_3 : wc.cell? ⟨gb212, 3, none⟩ = some (.int .i64 x213003_2) := (qkc BK212.out 3).trans rfl
            have hfz72_0 := qkz BK212.out 0
            have hfz72_1 := qkz BK212.out 1
            have hfz72_2 := qkz BK212.out 2
            have hfz72_3 := qkz BK212.out 3
            go_wp2_with (first | ((with_reducible refine qgd (N := 11) rfl ?_); refine qbe ?hg (N := 11) ?hd (cs := #[.int .i64 0, .int .i64 0, .int .i64 0, .int .i64 0]) (t := 27) ?hr ?_; (case hd => rfl); (case hg => rfl); (case hr => first | (go_simp; done) | (go_simp; rfl)); intro gb221 hg w73 hbox hb; have BK221 := Ad.mk (hbox); have GW221 := Ad.mk ((by rw [hg]; exact (qbz (by repeat (first | (with_reducible first | exact HB.out | apply qbn | apply qb1) | exact HB.out))) : w.heap.size ≤ gb221)); have GE221 := Ad.mk ((by rw [hg]; exact (qbz (by repeat (first | (with_reducible first | exact HB.out | apply qbn | apply qb1) | exact HB.out))) : w.heap.size ≤ gb221)); have NB208_221 := Ad.mk ((by rw [hg]; exact Nat.ne_of_lt (qkl (by exact BK208.out)) : gb208 ≠ gb221)); have NB221_208 := Ad.mk ((by rw [hg]; exact Nat.ne_of_gt (qkl (by exact BK208.out)) : gb221 ≠ gb208)); have NB209_221 := Ad.mk ((by rw [hg]; exact Nat.ne_of_lt (qkl (by exact BK209.out)) : gb209 ≠ gb221)); have NB221_209 := Ad.mk ((by rw [hg]; exact Nat.ne_of_gt (qkl (by exact BK209.out)) : gb221 ≠ gb209)); have NB212_221 := Ad.mk ((by rw [hg]; exact Nat.ne_of_lt (qkl (by exact BK212.out)) : gb212 ≠ gb221)); have NB221_212 := Ad.mk ((by rw [hg]; exact Nat.ne_of_gt (qkl (by exact BK212.out)) : gb221 ≠ gb212)); replace BK208 := Ad.mk (qkb (by exact BK208.out) hb); replace BK209 := Ad.mk (qkb (by exact BK209.out) hb); replace BK212 := Ad.mk (qkb (by exact BK212.out) hb); replace HB := Ad.mk (qbt (by repeat (first | (with_reducible first | exact HB.out | apply qbn | apply qb1) | exact HB.out)) hb); clear hb hbox hg; have hnb74 := NB221_208.out; have hnc74 := NB208_221.out; have hnb75 := NB221_209.out; have hnc75 := NB209_221.out; have hnb76 := NB221_212.out; have hnc76 := NB212_221.out; have hcz77_0 : w73.cell? ⟨gb221, 0, none⟩ = some (.int .i64 0) := (qkc BK221.out 0).trans rfl; have hcz77_1 : w73.cell? ⟨gb221, 1, none⟩ = some (.int .i64 0) := (qkc BK221.out 1).trans rfl; have hcz77_2 : w73.cell? ⟨gb221, 2, none⟩ = some (.int .i64 0) := (qkc BK221.out 2).trans rfl; have hcz77_3 : w73.cell? ⟨gb221, 3, none⟩ = some (.int .i64 0) := (qkc BK221.out 3).trans rfl; have hfz77_0 := qkz BK221.out 0; have hfz77_1 := qkz BK221.out 1; have hfz77_2 := qkz BK221.out 2; have hfz77_3 := qkz BK221.out 3) | ((with_reducible refine qgc (f := 16) rfl ?_); refine goesL_ (some 74) rfl rfl Tryd.func16 (by kernel_rfl) rfl #[.agg #[.int .i64 x213000_2, .int .i64 x213001_2, .int .i64 x213002_2, .int .i64 x213003_2]] rfl (by (try simp only [List.map_toArray, List.map_cons, List.map_nil]); first | done | rfl) ?_; (with_reducible refine (tune_CheckInterval.calls x213000_2 x213001_2 x213002_2 x213003_2 t222 _ A56.out).mono ?_); rintro e w78 ⟨rfl, hb⟩; refine ⟨_, rfl, ?_⟩; replace BK208 := Ad.mk (qkb (g := gb208) (o := .cells #[.int .i64 a0_0, .int .i64 a0_1] 30 (0, 0)) (by (iterate 4 ((with_reducible repeat (first | apply qkn | apply qkd)); refine qkf ?_ NB208_221.out _)); (with_reducible repeat (first | apply qkn | apply qkd)); exact BK208.out) hb); replace BK209 := Ad.mk (qkb (g := gb209) (o := .cells #[.int .i64 0, .int .i64 0, .int .i64 0, .int .i64 0] 27 (0, 0)) (by (iterate 4 ((with_reducible repeat (first | apply qkn | apply qkd)); refine qkf ?_ NB209_221.out _)); (with_reducible repeat (first | apply qkn | apply qkd)); exact BK209.out) hb); replace BK212 := Ad.mk (qkb (g := gb212) (o := .cells #[.int .i64 x213000_2, .int .i64 x213001_2, .int .i64 x213002_2, .int .i64 x213003_2] 119 (0, 0)) (by (iterate 4 ((with_reducible repeat (first | apply qkn | apply qkd)); refine qkf ?_ NB212_221.out _)); (with_reducible repeat (first | apply qkn | apply qkd)); exact BK212.out) hb); replace BK221 := Ad.mk (qkb (g := gb221) (o := .cells #[.int .i64 x213000_2, .int .i64 x213001_2, .int .i64 x213002_2, .int .i64 x213003_2] 27 (0, 0)) (by (with_reducible repeat (first | apply qkn | apply qkd)); refine qkp (cs := #[.int .i64 x213000_2, .int .i64 x213001_2, .int .i64 x213002_2, .int .i64 0]) ?_ 3 _ rfl; (with_reducible repeat (first | apply qkn | apply qkd)); refine qkp (cs := #[.int .i64 x213000_2, .int .i64 x213001_2, .int .i64 0, .int .i64 0]) ?_ 2 _ rfl; (with_reducible repeat (first | apply qkn | apply qkd)); refine qkp (cs := #[.int .i64 x213000_2, .int .i64 0, .int .i64 0, .int .i64 0]) ?_ 1 _ rfl; (with_reducible repeat (first | apply qkn | apply qkd)); refine qkp (cs := #[.int .i64 0, .int .i64 0, .int .i64 0, .int .i64 0]) ?_ 0 _ rfl; (with_reducible repeat (first | apply qkn | apply qkd)); exact BK221.out) hb); replace HB := Ad.mk (qbt (by repeat (first | (with_reducible first | exact HB.out | apply qbn | apply qb1 | refine qbs ?_ GE221.out) | exact HB.out)) hb); (try clear hb); have hnb79 := NB209_208.out; have hnc79 := NB208_209.out; have hcz80_0 : w78.cell? ⟨gb209, 0, none⟩ = some (.int .i64 0) := (qkc BK209.out 0).trans rfl; have hcz80_1 : w78.cell? ⟨gb209, 1, none⟩ = some (.int .i64 0) := (qkc BK209.out 1).trans rfl; have hcz80_2 : w78.cell? ⟨gb209, 2, none⟩ = some (.int .i64 0) := (qkc BK209.out 2).trans rfl; have hcz80_3 : w78.cell? ⟨gb209, 3, none⟩ = some (.int .i64 0) := (qkc BK209.out 3).trans rfl; have hfz80_0 := qkz BK209.out 0; have hfz80_1 := qkz BK209.out 1; have hfz80_2 := qkz BK209.out 2; have hfz80_3 := qkz BK209.out 3))
            refine bodyPost_ret (results_ct rfl _ _ gb209 27 #[.int .i64 0, .int .i64 0, .int .i64 0, .int .i64 0] (0, 0) _ rfl (by (with_reducible repeat (first | apply qkn | apply qkd)); refine qkp (cs := #[.int .i64 0, .int .i64 0, .int .i64 0, .int .i64 0]) ?_ 3 _ rfl; (with_reducible repeat (first | apply qkn | apply qkd)); refine qkp (cs := #[.int .i64 0, .int .i64 0, .int .i64 0, .int .i64 0]) ?_ 2 _ rfl; (with_reducible repeat (first | apply qkn | apply qkd)); refine qkp (cs := #[.int .i64 0, .int .i64 0, .int .i64 0, .int .i64 0]) ?_ 1 _ rfl; (with_reducible repeat (first | apply qkn | apply qkd)); refine qkp (cs := #[.int .i64 0, .int .i64 0, .int .i64 0, .int .i64 0]) ?_ 0 _ rfl; (with_reducible repeat (first | apply qkn | apply qkd)); exact BK209.out) Tryd.underlying27 rfl (by kernel_rfl)) rfl ?_
            exact ⟨by first | rfl | (simp [errW_none, errW_some] <;> rfl) | (simp [*, errW_none, errW_some] <;> rfl), by repeat (first | (with_reducible first | exact HB.out | apply qbn | apply qb1 | refine qbs ?_ GE209.out) | exact HB.out)⟩

end Go.Proofs.YtdagocpgefjmdaaDoor.PIntervalsCounted
