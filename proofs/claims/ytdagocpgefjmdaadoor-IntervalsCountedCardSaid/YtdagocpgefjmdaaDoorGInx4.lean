import Derived.Test.YtdagocpgefjmdaaDoorGInx0
import Derived.Test.YtdagocpgefjmdaaDoorGInx3
namespace Go.Proofs.YtdagocpgefjmdaaDoor.PIntervalsCounted
open Go.RowKit Go.Proofs.YtdagocpgefjmdaaDoorW.PrintWords Go.Proofs.YtdagocpgefjmdaaDoorW.PrintLast Go.Proofs.YtdagocpgefjmdaaDoorW.PrintMore
attribute [local go_sem] max2_int min2_int max_two min_two max_three min_three max_four min_four   -- for this text's walks alone
set_option linter.unusedVariables false
set_option linter.unusedSimpArgs false

/-! ### gleeref1_IntervalFault: function 14 -/
def gleeref1_IntervalFault.f (k : Nat) (a0_0 : Int) (a0_1 : Int) (a0_2 : Int) (a0_3 : Int) : Option (Int) := (gleeref1_SpanFault.f a0_0 (-24) 24).bind fun t152 => ((gleeref1_SpanFault.f a0_1 (-10) 10).bind fun t153 => ((gleeref1_SpanFault.f a0_2 (-5) 5).bind fun t154 => ((gleeref1_SpanFault.f a0_3 (-3) 3).bind fun t155 => ((api_Errno.f k (([t152, t153, t154, t155] : List Int))).bind fun t159 => (some t159)))))
theorem gleeref1_IntervalFault.mono : ∀ a0 a1 a2 a3 k, LeO (gleeref1_IntervalFault.f k a0 a1 a2 a3) (gleeref1_IntervalFault.f (k + 1) a0 a1 a2 a3) := by
 intro a0 a1 a2 a3 k
 unfold gleeref1_IntervalFault.f
 repeat' first
   | (with_reducible exact api_Errno.mono _ _)
   | (with_reducible exact LeO.refl _)
   | (with_reducible exact LeO.none _)
   | (with_reducible refine LeO.ite ?_ ?_)
   | (with_reducible refine LeO.bind ?_ (fun _ => ?_))
   | exact api_Errno.mono _ _
   | exact LeO.none _
   | refine LeO.ite ?_ ?_
   | refine LeO.bind ?_ (fun _ => ?_)
def gleeref1_IntervalFault.T1 : Bool × List (List Nat × List Nat) := (true, [([], []), ([0], [0]), ([1], [1]), ([], []), ([3], [3]), ([4, 2], [4]), ([], []), ([6], [6]), ([7, 5], [7]), ([], []), ([9], [9]), ([10, 8], [10]), ([2, 5, 8, 11], [2, 5, 8, 11]), ([12, 11], [12]), ([13, 13, 0, 1, 2, 3, 4, 5, 6, 7, 8, 9, 10, 11, 12, 13], [13])])
def gleeref1_IntervalFault.B1 : List Nat := [0, 1, 3, 0, 8, 31, 0, 64, 255, 0, 512, 2047, 4095, 8191, 16383]
theorem gleeref1_IntervalFault.tab1 : rtab .any (opsOf Tryd.f14 1) = gleeref1_IntervalFault.T1 := by kernel_rfl
theorem gleeref1_IntervalFault.bits1 : waitsOk gleeref1_IntervalFault.T1.2 gleeref1_IntervalFault.B1 = true := by kernel_rfl
set_option maxHeartbeats 8000000 in
set_option maxRecDepth 100000 in
theorem gleeref1_IntervalFault.calls (k : Nat) (a0_0 : Int) (a0_1 : Int) (a0_2 : Int) (a0_3 : Int) (r : Int) (w : World) (h : gleeref1_IntervalFault.f k a0_0 a0_1 a0_2 a0_3 = some r) :
  Calls Tryd.prog 14 #[.agg #[.int .i64 a0_0, .int .i64 a0_1, .int .i64 a0_2, .int .i64 a0_3]] w fun e w' => e = .returned (.int .i64 r) ∧ Below w.heap.size w w' := by
 have hu27 := Tryd.underlying27
 have HB := Ad.mk (Below.refl w.heap.size w)
 have H : ((gleeref1_SpanFault.f a0_0 (-24) 24).bind fun t152 => ((gleeref1_SpanFault.f a0_1 (-10) 10).bind fun t153 => ((gleeref1_SpanFault.f a0_2 (-5) 5).bind fun t154 => ((gleeref1_SpanFault.f a0_3 (-3) 3).bind fun t155 => ((api_Errno.f k (([t152, t153, t154, t155] : List Int))).bind fun t159 => (some t159)))))) = some r := h
 clear h
 replace H := Option.bind_eq_some_iff.mp H
 obtain ⟨t152, A20, H⟩ := H
 replace H : ((gleeref1_SpanFault.f a0_1 (-10) 10).bind fun t153 => ((gleeref1_SpanFault.f a0_2 (-5) 5).bind fun t154 => ((gleeref1_SpanFault.f a0_3 (-3) 3).bind fun t155 => ((api_Errno.f k (([t152, t153, t154, t155] : List Int))).bind fun t159 => (some t159))))) = some r := H
 have A2 := Ad.mk A20
 clear A20
 replace H := Option.bind_eq_some_iff.mp H
 obtain ⟨t153, A30, H⟩ := H
 replace H : ((gleeref1_SpanFault.f a0_2 (-5) 5).bind fun t154 => ((gleeref1_SpanFault.f a0_3 (-3) 3).bind fun t155 => ((api_Errno.f k (([t152, t153, t154, t155] : List Int))).bind fun t159 => (some t159)))) = some r := H
 have A3 := Ad.mk A30
 clear A30
 replace H := Option.bind_eq_some_iff.mp H
 obtain ⟨t154, A40, H⟩ := H
 replace H : ((gleeref1_SpanFault.f a0_3 (-3) 3).bind fun t155 => ((api_Errno.f k (([t152, t153, t154, t155] : List Int))).bind fun t159 => (some t159))) = some r := H
 have A4 := Ad.mk A40
 clear A40
 replace H := Option.bind_eq_some_iff.mp H
 obtain ⟨t155, A50, H⟩ := H
 replace H : ((api_Errno.f k (([t152, t153, t154, t155] : List Int))).bind fun t159 => (some t159)) = some r := H
 have A5 := Ad.mk A50
 clear A50
 obtain ⟨y156, hy156⟩ : ∃ y_ : List Int, y_ = (([t152, t153, t154, t155] : List Int)) := ⟨_, rfl⟩
 replace H : ((api_Errno.f k y156).bind fun t159 => (some t159)) = some r := by first | (rw [hy156]; with_reducible exact H) | (have H2_ := (Option.bind_some _ _).symm.trans H; rw [hy156]; with_reducible exact H2_) | (have H2_ := (Option.bind_some _ _).symm.trans H; with_reducible exact H2_) | with_reducible exact H | (rw [hy156]; exact H) | exact H
 have Ny156 := Ad.mk hy156
 clear hy156
 replace H := Option.bind_eq_some_iff.mp H
 obtain ⟨t159, A60, H⟩ := H
 replace H : (some t159) = some r := H
 have A6 := Ad.mk A60
 clear A60
 obtain rfl := Option.some.inj H
 go_enter Tryd.func14, Tryd.ntmps14
 try go_wp2_with (first | ((with_reducible refine qgd (N := 1) rfl ?_); refine qbe ?hg (N := 1) ?hd (cs := #[.int .i64 a0_0, .int .i64 a0_1, .int .i64 a0_2, .int .i64 a0_3]) (t := 27) ?hr ?_; (case hd => rfl); (case hg => rfl); (case hr => first | (go_simp; done) | (go_simp; rfl)); intro gb151 hg w7 hbox hb; have BK151 := Ad.mk (hbox); have GW151 := Ad.mk ((by rw [hg]; exact (qbz (by repeat (first | (with_reducible first | exact HB.out | apply qbn | apply qb1) | exact HB.out))) : w.heap.size ≤ gb151)); have GE151 := Ad.mk ((by rw [hg]; exact (qbz (by repeat (first | (with_reducible first | exact HB.out | apply qbn | apply qb1) | exact HB.out))) : w.heap.size ≤ gb151)); replace HB := Ad.mk (qbt (by repeat (first | (with_reducible first | exact HB.out | apply qbn | apply qb1) | exact HB.out)) hb); clear hb hbox hg))
 replace BK151 := Ad.mk (qkd BK151.out)
 replace HB := Ad.mk (qb1 HB.out)
 refine start_ (n := 15) (S := fun w' => w'.cell? ⟨gb151, 0, none⟩ = some (.int .i64 a0_0) ∧ w'.cell? ⟨gb151, 1, none⟩ = some (.int .i64 a0_1) ∧ w'.cell? ⟨gb151, 2, none⟩ = some (.int .i64 a0_2) ∧ w'.cell? ⟨gb151, 3, none⟩ = some (.int .i64 a0_3)) (ds := []) #[false, false, false, false, false, false, false, false, false, false, false, false, false, false, false] (by kernel_rfl) rfl rfl ⟨(qkc BK151.out 0).trans rfl, (qkc BK151.out 1).trans rfl, (qkc BK151.out 2).trans rfl, (qkc BK151.out 3).trans rfl⟩ (fun hHeld => ?_); refine with_tabW gleeref1_IntervalFault.tab1 gleeref1_IntervalFault.bits1 (fun HT_ HW_ => ?_)
 generalize w7.drew = w8 at BK151 HB hHeld ⊢
 refine pure_ (i := 0) (N := some 3) (v := ?_) (a' := ?_) #[true, false, false, false, false, false, false, false, false, false, false, false, false, false, false] rfl rfl (any_of HT_.out (by kernel_rfl)) (fun _ _ _ h => h) (Or.inl ⟨by rfl, ?_⟩) ?_ ?_
 rotate_left
 ·
  intro w'
  go_simp
  with_reducible rfl
 rotate_left
 ·
  simp only [Act.put, List.setIfInBounds_toArray, List.set_cons_zero, List.set_cons_succ, i64_w, i32_w]
  rfl
 refine pure_ (i := 3) (N := some 6) (v := ?_) (a' := ?_) #[true, false, false, true, false, false, false, false, false, false, false, false, false, false, false] rfl rfl (any_of HT_.out (by kernel_rfl)) (fun _ _ _ h => h) (Or.inl ⟨by rfl, ?_⟩) ?_ ?_
 rotate_left
 ·
  intro w'
  go_simp
  with_reducible rfl
 rotate_left
 ·
  simp only [Act.put, List.setIfInBounds_toArray, List.set_cons_zero, List.set_cons_succ, i64_w, i32_w]
  rfl
 refine pure_ (i := 6) (N := some 9) (v := ?_) (a' := ?_) #[true, false, false, true, false, false, true, false, false, false, false, false, false, false, false] rfl rfl (any_of HT_.out (by kernel_rfl)) (fun _ _ _ h => h) (Or.inl ⟨by rfl, ?_⟩) ?_ ?_
 rotate_left
 ·
  intro w'
  go_simp
  with_reducible rfl
 rotate_left
 ·
  simp only [Act.put, List.setIfInBounds_toArray, List.set_cons_zero, List.set_cons_succ, i64_w, i32_w]
  rfl
 refine pure_ (i := 9) (N := some 12) (v := ?_) (a' := ?_) #[true, false, false, true, false, false, true, false, false, true, false, false, false, false, false] rfl rfl (any_of HT_.out (by kernel_rfl)) (fun _ _ _ h => h) (Or.inl ⟨by rfl, ?_⟩) ?_ ?_
 rotate_left
 ·
  intro w'
  go_simp
  with_reducible rfl
 rotate_left
 ·
  simp only [Act.put, List.setIfInBounds_toArray, List.set_cons_zero, List.set_cons_succ, i64_w, i32_w]
  rfl
 refine take_ (i := 1) (N := some 4) (v := ?_) (a' := ?_) #[true, true, false, true, false, false, true, false, false, true, false, false, false, false, false] rfl rfl (take_ofW HT_.out HW_.out (by kernel_rfl)) (fun _ _ _ h => h) (Or.inl ⟨by rfl, ?_⟩) hHeld ?_ ?_
 rotate_left
 ·
  rintro w' ⟨s0, s1, s2, s3⟩
  go_simp
  with_reducible rfl
 rotate_left
 ·
  simp only [Act.put, List.setIfInBounds_toArray, List.set_cons_zero, List.set_cons_succ, i64_w, i32_w]
  rfl
 refine take_ (i := 4) (N := some 7) (v := ?_) (a' := ?_) #[true, true, false, true, true, false, true, false, false, true, false, false, false, false, false] rfl rfl (take_ofW HT_.out HW_.out (by kernel_rfl)) (fun _ _ _ h => h) (Or.inl ⟨by rfl, ?_⟩) hHeld ?_ ?_
 rotate_left
 ·
  rintro w' ⟨s0, s1, s2, s3⟩
  go_simp
  with_reducible rfl
 rotate_left
 ·
  simp only [Act.put, List.setIfInBounds_toArray, List.set_cons_zero, List.set_cons_succ, i64_w, i32_w]
  rfl
 refine take_ (i := 7) (N := some 10) (v := ?_) (a' := ?_) #[true, true, false, true, true, false, true, true, false, true, false, false, false, false, false] rfl rfl (take_ofW HT_.out HW_.out (by kernel_rfl)) (fun _ _ _ h => h) (Or.inl ⟨by rfl, ?_⟩) hHeld ?_ ?_
 rotate_left
 ·
  rintro w' ⟨s0, s1, s2, s3⟩
  go_simp
  with_reducible rfl
 rotate_left
 ·
  simp only [Act.put, List.setIfInBounds_toArray, List.set_cons_zero, List.set_cons_succ, i64_w, i32_w]
  rfl
 refine take_ (i := 10) (N := some 13) (v := ?_) (a' := ?_) #[true, true, false, true, true, false, true, true, false, true, true, false, false, false, false] rfl rfl (take_ofW HT_.out HW_.out (by kernel_rfl)) (fun _ _ _ h => h) (Or.inl ⟨by rfl, ?_⟩) hHeld ?_ ?_
 rotate_left
 ·
  rintro w' ⟨s0, s1, s2, s3⟩
  go_simp
  with_reducible rfl
 rotate_left
 ·
  simp only [Act.put, List.setIfInBounds_toArray, List.set_cons_zero, List.set_cons_succ, i64_w, i32_w]
  rfl
 refine one_ (i := 2) (N := some 5) #[true, true, true, true, true, false, true, true, false, true, true, false, false, false, false] rfl rfl (one_of HT_.out (by kernel_rfl)) (by decide) (fun K hK => ?_)
 refine goes_ Tryd.func44 (by kernel_rfl) rfl #[.int .i64 a0_0, .int .i64 (-24), .int .i64 24] (by rfl) rfl rfl (by (try simp only [List.map_toArray, List.map_cons, List.map_nil]); first | done | rfl) ?_
 with_reducible refine (gleeref1_SpanFault.calls a0_0 (-24) 24 t152 _ A2.out).mono ?_
 rintro e w' ⟨rfl, ⟨nd, rfl⟩⟩
 refine ⟨_, rfl, ?_⟩
 refine hK.out _ _ ⟨(qkc BK151.out 0).trans rfl, (qkc BK151.out 1).trans rfl, (qkc BK151.out 2).trans rfl, (qkc BK151.out 3).trans rfl⟩ (fun hHeld => ?_)
 clear hK K
 refine norm_ (a' := ?_) ?_ ?_
 rotate_left
 ·
  show Act.put _ (some 5) _ = _
  simp only [Act.put, List.setIfInBounds_toArray, List.set_cons_zero, List.set_cons_succ, i64_w, i32_w]
  rfl
 refine one_ (i := 5) (N := some 8) #[true, true, true, true, true, true, true, true, false, true, true, false, false, false, false] rfl rfl (one_of HT_.out (by kernel_rfl)) (by decide) (fun K hK => ?_)
 refine goes_ Tryd.func44 (by kernel_rfl) rfl #[.int .i64 a0_1, .int .i64 (-10), .int .i64 10] (by rfl) rfl rfl (by (try simp only [List.map_toArray, List.map_cons, List.map_nil]); first | done | rfl) ?_
 with_reducible refine (gleeref1_SpanFault.calls a0_1 (-10) 10 t153 _ A3.out).mono ?_
 rintro e w' ⟨rfl, ⟨nd, rfl⟩⟩
 refine ⟨_, rfl, ?_⟩
 refine hK.out _ _ ⟨(qkc BK151.out 0).trans rfl, (qkc BK151.out 1).trans rfl, (qkc BK151.out 2).trans rfl, (qkc BK151.out 3).trans rfl⟩ (fun hHeld => ?_)
 clear hK K
 refine norm_ (a' := ?_) ?_ ?_
 rotate_left
 ·
  show Act.put _ (some 8) _ = _
  simp only [Act.put, List.setIfInBounds_toArray, List.set_cons_zero, List.set_cons_succ, i64_w, i32_w]
  rfl
 refine one_ (i := 8) (N := some 11) #[true, true, true, true, true, true, true, true, true, true, true, false, false, false, false] rfl rfl (one_of HT_.out (by kernel_rfl)) (by decide) (fun K hK => ?_)
 refine goes_ Tryd.func44 (by kernel_rfl) rfl #[.int .i64 a0_2, .int .i64 (-5), .int .i64 5] (by rfl) rfl rfl (by (try simp only [List.map_toArray, List.map_cons, List.map_nil]); first | done | rfl) ?_
 with_reducible refine (gleeref1_SpanFault.calls a0_2 (-5) 5 t154 _ A4.out).mono ?_
 rintro e w' ⟨rfl, ⟨nd, rfl⟩⟩
 refine ⟨_, rfl, ?_⟩
 refine hK.out _ _ ⟨(qkc BK151.out 0).trans rfl, (qkc BK151.out 1).trans rfl, (qkc BK151.out 2).trans rfl, (qkc BK151.out 3).trans rfl⟩ (fun hHeld => ?_)
 clear hK K
 refine norm_ (a' := ?_) ?_ ?_
 rotate_left
 ·
  show Act.put _ (some 11) _ = _
  simp only [Act.put, List.setIfInBounds_toArray, List.set_cons_zero, List.set_cons_succ, i64_w, i32_w]
  rfl
 refine one_ (i := 11) (N := some 14) #[true, true, true, true, true, true, true, true, true, true, true, true, false, false, false] rfl rfl (one_of HT_.out (by kernel_rfl)) (by decide) (fun K hK => ?_)
 refine goes_ Tryd.func44 (by kernel_rfl) rfl #[.int .i64 a0_3, .int .i64 (-3), .int .i64 3] (by rfl) rfl rfl (by (try simp only [List.map_toArray, List.map_cons, List.map_nil]); first | done | rfl) ?_
 with_reducible refine (gleeref1_SpanFault.calls a0_3 (-3) 3 t155 _ A5.out).mono ?_
 rintro e w' ⟨rfl, ⟨nd, rfl⟩⟩
 refine ⟨_, rfl, ?_⟩
 refine hK.out _ _ ⟨(qkc BK151.out 0).trans rfl, (qkc BK151.out 1).trans rfl, (qkc BK151.out 2).trans rfl, (qkc BK151.out 3).trans rfl⟩ (fun hHeld => ?_)
 clear hK K
 refine norm_ (a' := ?_) ?_ ?_
 rotate_left
 ·
  show Act.put _ (some 14) _ = _
  simp only [Act.put, List.setIfInBounds_toArray, List.set_cons_zero, List.set_cons_succ, i64_w, i32_w]
  rfl
 refine one_ (i := 12) (N := some 15) #[true, true, true, true, true, true, true, true, true, true, true, true, true, false, false] rfl rfl (one_of HT_.out (by kernel_rfl)) (by decide) (fun K hK => ?_)
 refine Kd.R_lit_step (Kd.int .i64) _ 32 ?hg (N := 15) ?hd (xs := ([t152, t153, t154, t155] : List Int)) (inner := [.int .i64 t152, .int .i64 t153, .int .i64 t154, .int .i64 t155]) (ok := fun _ => True) (okp := fun _ => True) ?hr ?hp (fun _ hk => hk) trivial (Below.refl _ _) (Nat.le_refl _) (by simp) ?_; (case hd => rfl); (case hg => rfl); (case hr => first | (go_simp; done) | (go_simp; rfl)); (case hp => exact (Reps.one (show Kd.M (Kd.int .i64) _ _ _ t152 [.int .i64 t152] from rfl) (Reps.one (show Kd.M (Kd.int .i64) _ _ _ t153 [.int .i64 t153] from rfl) (Reps.one (show Kd.M (Kd.int .i64) _ _ _ t154 [.int .i64 t154] from rfl) (Reps.one (show Kd.M (Kd.int .i64) _ _ _ t155 [.int .i64 t155] from rfl) (Reps.none _ _))))))
 intro v157 w9 ho10 hb hg_ hnew_
 clear hg_ hnew_
 (first | rw [← Ny156.out] at ho10 | (simp only [Int.reduceToNat] at ho10; rw [← Ny156.out] at ho10))
 have HO158 := Ad.mk (Kd.R_lower ho10 (qbz (by repeat (first | (with_reducible first | exact HB.out | apply qbn | apply qb1) | exact HB.out))))
 replace BK151 := Ad.mk (qkb (by exact BK151.out) hb)
 replace HB := Ad.mk (qbt (by repeat (first | (with_reducible first | exact HB.out | apply qbn | apply qb1) | exact HB.out)) hb)
 clear hb ho10
 obtain ⟨Ao11, co11, eo11⟩ := Kd.R_slice HO158.out
 (first | subst eo11 | (injection eo11 with f1_ f2_ f3_; have f4_ := f1_.symm; have f5_ := f3_.symm; clear f1_ f2_ f3_; subst f4_; subst f5_))
 refine hK.out _ _ ⟨(qkc BK151.out 0).trans rfl, (qkc BK151.out 1).trans rfl, (qkc BK151.out 2).trans rfl, (qkc BK151.out 3).trans rfl⟩ (fun hHeld => ?_)
 clear hK K
 refine norm_ (a' := ?_) ?_ ?_
 rotate_left
 ·
  show Act.put _ (some 15) _ = _
  simp only [Act.put, List.setIfInBounds_toArray, List.set_cons_zero, List.set_cons_succ, i64_w, i32_w]
  rfl
 refine one_ (i := 13) (N := some 16) #[true, true, true, true, true, true, true, true, true, true, true, true, true, true, false] rfl rfl (one_of HT_.out (by kernel_rfl)) (by decide) (fun K hK => ?_)
 refine goes_ Tryd.func15 (by kernel_rfl) rfl #[.slice Ao11 y156.length co11] (by rfl) rfl rfl (by (try simp only [List.map_toArray, List.map_cons, List.map_nil]); first | done | rfl) ?_
 with_reducible refine (api_Errno.calls k _ _ y156 t159 _ ?side1 ?side2 A6.out).mono ?_
 (case side1 => repeat (first | exact (Kd.R_reads' HO158.out).2.2 | (with_reducible refine Kd.C_alloc ?_ _) | (with_reducible refine Kd.C_drewN ?_ _) | (with_reducible refine Kd.C_drew ?_)))
 (case side2 => exact (Kd.R_reads' HO158.out).2.1)
 rintro e w' ⟨rfl, ⟨nd, rfl⟩⟩
 refine ⟨_, rfl, ?_⟩
 refine hK.out _ _ ⟨(qkc BK151.out 0).trans rfl, (qkc BK151.out 1).trans rfl, (qkc BK151.out 2).trans rfl, (qkc BK151.out 3).trans rfl⟩ (fun hHeld => ?_)
 clear hK K
 refine norm_ (a' := ?_) ?_ ?_
 rotate_left
 ·
  show Act.put _ (some 16) _ = _
  simp only [Act.put, List.setIfInBounds_toArray, List.set_cons_zero, List.set_cons_succ, i64_w, i32_w]
  rfl
 refine pure_ (i := 14) (N := some 2) (v := ?_) (a' := ?_) #[true, true, true, true, true, true, true, true, true, true, true, true, true, true, true] rfl rfl (any_of HT_.out (by kernel_rfl)) (fun _ _ _ h => h) (Or.inl ⟨by rfl, ?_⟩) ?_ ?_
 rotate_left
 ·
  intro w'
  go_simp
  with_reducible rfl
 rotate_left
 ·
  simp only [Act.put, List.setIfInBounds_toArray, List.set_cons_zero, List.set_cons_succ, i64_w, i32_w]
  rfl
 refine done_ (done_of HT_.out (by kernel_rfl)) ?_
 try go_wp2
 go_ret
 exact ⟨by first | rfl | (simp [errW_none, errW_some] <;> rfl) | (simp [*, errW_none, errW_some] <;> rfl), by repeat (first | (with_reducible first | exact HB.out | apply qbn | apply qb1) | exact HB.out)⟩

/-! ### gleeref1_primes: function 81 -/
def gleeref1_primes.f (a0_0 : Int) (a0_1 : Int) (a0_2 : Int) (a0_3 : Int) : Option (Int × Int × Int × Int × Int × Int × Int × Int) := some (2, a0_0, 3, a0_1, 5, a0_2, 7, a0_3)
set_option maxHeartbeats 8000000 in
set_option maxRecDepth 100000 in
theorem gleeref1_primes.calls (a0_0 : Int) (a0_1 : Int) (a0_2 : Int) (a0_3 : Int) (r1 : Int) (r2 : Int) (r3 : Int) (r4 : Int) (r5 : Int) (r6 : Int) (r7 : Int) (r8 : Int) (w : World) (h : gleeref1_primes.f a0_0 a0_1 a0_2 a0_3 = some (r1, r2, r3, r4, r5, r6, r7, r8)) :
  Calls Tryd.prog 81 #[.agg #[.int .i64 a0_0, .int .i64 a0_1, .int .i64 a0_2, .int .i64 a0_3]] w fun e w' => e = .returned (.agg #[.int .i64 r1, .int .i64 r2, .int .i64 r3, .int .i64 r4, .int .i64 r5, .int .i64 r6, .int .i64 r7, .int .i64 r8]) ∧ Below w.heap.size w w' := by
 have hu27 := Tryd.underlying27
 have hu125 := Tryd.underlying125
 have hu124 := Tryd.underlying124
 have HB := Ad.mk (Below.refl w.heap.size w)
 have H : (some (2, a0_0, 3, a0_1, 5, a0_2, 7, a0_3)) = some (r1, r2, r3, r4, r5, r6, r7, r8) := h
 clear h
 simp only [Option.some.injEq, Prod.mk.injEq] at H
 obtain ⟨rfl, rfl, rfl, rfl, rfl, rfl, rfl, rfl⟩ := H
 go_enter Tryd.func81, Tryd.ntmps81
 go_wp2_with (first | ((with_reducible refine qgd (N := 1) rfl ?_); refine qbe ?hg (N := 1) ?hd (cs := #[.int .i64 a0_0, .int .i64 a0_1, .int .i64 a0_2, .int .i64 a0_3]) (t := 27) ?hr ?_; (case hd => rfl); (case hg => rfl); (case hr => first | (go_simp; done) | (go_simp; rfl)); intro gb160 hg w2 hbox hb; have BK160 := Ad.mk (hbox); have GW160 := Ad.mk ((by rw [hg]; exact (qbz (by repeat (first | (with_reducible first | exact HB.out | apply qba | apply qbn | apply qb1) | exact HB.out))) : w.heap.size ≤ gb160)); have GE160 := Ad.mk ((by rw [hg]; exact (qbz (by repeat (first | (with_reducible first | exact HB.out | apply qba | apply qbn | apply qb1) | exact HB.out))) : w.heap.size ≤ gb160)); replace HB := Ad.mk (qbt (by repeat (first | (with_reducible first | exact HB.out | apply qba | apply qbn | apply qb1) | exact HB.out)) hb); clear hb hbox hg) | ((with_reducible refine qgd (N := 2) rfl ?_); refine qbe ?hg (N := 2) ?hd (cs := #[.int .i64 0, .int .i64 0, .int .i64 0, .int .i64 0, .int .i64 0, .int .i64 0, .int .i64 0, .int .i64 0]) (t := 125) ?hr ?_; (case hd => rfl); (case hg => rfl); (case hr => first | (go_simp; done) | (go_simp; rfl)); intro gb161 hg w3 hbox hb; have BK161 := Ad.mk (hbox); have GW161 := Ad.mk ((by rw [hg]; exact (qbz (by repeat (first | (with_reducible first | exact HB.out | apply qba | apply qbn | apply qb1 | refine qbs ?_ GE160.out) | exact HB.out))) : w.heap.size ≤ gb161)); have GE161 := Ad.mk ((by rw [hg]; exact (qbz (by repeat (first | (with_reducible first | exact HB.out | apply qba | apply qbn | apply qb1 | refine qbs ?_ GE160.out) | exact HB.out))) : w.heap.size ≤ gb161)); have NB160_161 := Ad.mk ((by rw [hg]; exact Nat.ne_of_lt (qkl (g := gb160) (o := .cells #[.int .i64 a0_0, .int .i64 a0_1, .int .i64 a0_2, .int .i64 a0_3] 27 (0, 0)) (by (with_reducible repeat (first | apply qkn | apply qkd | apply qka)); exact BK160.out)) : gb160 ≠ gb161)); have NB161_160 := Ad.mk ((by rw [hg]; exact Nat.ne_of_gt (qkl (g := gb160) (o := .cells #[.int .i64 a0_0, .int .i64 a0_1, .int .i64 a0_2, .int .i64 a0_3] 27 (0, 0)) (by (with_reducible repeat (first | apply qkn | apply qkd | apply qka)); exact BK160.out)) : gb161 ≠ gb160)); replace BK160 := Ad.mk (qkb (g := gb160) (o := .cells #[.int .i64 a0_0, .int .i64 a0_1, .int .i64 a0_2, .int .i64 a0_3] 27 (0, 0)) (by (with_reducible repeat (first | apply qkn | apply qkd | apply qka)); exact BK160.out) hb); replace HB := Ad.mk (qbt (by repeat (first | (with_reducible first | exact HB.out | apply qba | apply qbn | apply qb1 | refine qbs ?_ GE160.out) | exact HB.out)) hb); clear hb hbox hg; have hnb4 := NB160_161.out; have hnc4 := NB161_160.out; have hcz5_0 : w3.cell? ⟨gb160, 0, none⟩ = some (.int .i64 a0_0) := (qkc BK160.out 0).trans rfl; have hcz5_1 : w3.cell? ⟨gb160, 1, none⟩ = some (.int .i64 a0_1) := (qkc BK160.out 1).trans rfl; have hcz5_2 : w3.cell? ⟨gb160, 2, none⟩ = some (.int .i64 a0_2) := (qkc BK160.out 2).trans rfl; have hcz5_3 : w3.cell? ⟨gb160, 3, none⟩ = some (.int .i64 a0_3) := (qkc BK160.out 3).trans rfl; have hfz5_0 := qkz BK160.out 0; have hfz5_1 := qkz BK160.out 1; have hfz5_2 := qkz BK160.out 2; have hfz5_3 := qkz BK160.out 3; have hcz6_0 : w3.cell? ⟨gb161, 0, none⟩ = some (.int .i64 0) := (qkc BK161.out 0).trans rfl; have hcz6_1 : w3.cell? ⟨gb161, 1, none⟩ = some (.int .i64 0) := (qkc BK161.out 1).trans rfl; have hcz6_2 : w3.cell? ⟨gb161, 2, none⟩ = some (.int .i64 0) := (qkc BK161.out 2).trans rfl; have hcz6_3 : w3.cell? ⟨gb161, 3, none⟩ = some (.int .i64 0) := (qkc BK161.out 3).trans rfl; have hcz6_4 : w3.cell? ⟨gb161, 4, none⟩ = some (.int .i64 0) := (qkc BK161.out 4).trans rfl; have hcz6_5 : w3.cell? ⟨gb161, 5, none⟩ = some (.int .i64 0) := (qkc BK161.out 5).trans rfl; have hcz6_6 : w3.cell? ⟨gb161, 6, none⟩ = some (.int .i64 0) := (qkc BK161.out 6).trans rfl; have hcz6_7 : w3.cell? ⟨gb161, 7, none⟩ = some (.int .i64 0) := (qkc BK161.out 7).trans rfl; have hfz6_0 := qkz BK161.out 0; have hfz6_1 := qkz BK161.out 1; have hfz6_2 := qkz BK161.out 2; have hfz6_3 := qkz BK161.out 3; have hfz6_4 := qkz BK161.out 4; have hfz6_5 := qkz BK161.out 5; have hfz6_6 := qkz BK161.out 6; have hfz6_7 := qkz BK161.out 7))
 refine bodyPost_ret (results_cell_row rfl _ _ gb161 125 #[.int .i64 2, .int .i64 a0_0, .int .i64 3, .int .i64 a0_1, .int .i64 5, .int .i64 a0_2, .int .i64 7, .int .i64 a0_3] (0, 0) _ rfl (by (with_reducible repeat (first | apply qkn | apply qkd | apply qka)); refine qkp (cs := #[.int .i64 2, .int .i64 a0_0, .int .i64 3, .int .i64 a0_1, .int .i64 5, .int .i64 a0_2, .int .i64 7, .int .i64 0]) ?_ 7 _ rfl; (with_reducible repeat (first | apply qkn | apply qkd | apply qka)); refine qkp (cs := #[.int .i64 2, .int .i64 a0_0, .int .i64 3, .int .i64 a0_1, .int .i64 5, .int .i64 a0_2, .int .i64 0, .int .i64 0]) ?_ 6 _ rfl; (with_reducible repeat (first | apply qkn | apply qkd | apply qka)); refine qkp (cs := #[.int .i64 2, .int .i64 a0_0, .int .i64 3, .int .i64 a0_1, .int .i64 5, .int .i64 0, .int .i64 0, .int .i64 0]) ?_ 5 _ rfl; (with_reducible repeat (first | apply qkn | apply qkd | apply qka)); refine qkp (cs := #[.int .i64 2, .int .i64 a0_0, .int .i64 3, .int .i64 a0_1, .int .i64 0, .int .i64 0, .int .i64 0, .int .i64 0]) ?_ 4 _ rfl; (with_reducible repeat (first | apply qkn | apply qkd | apply qka)); refine qkp (cs := #[.int .i64 2, .int .i64 a0_0, .int .i64 3, .int .i64 0, .int .i64 0, .int .i64 0, .int .i64 0, .int .i64 0]) ?_ 3 _ rfl; (with_reducible repeat (first | apply qkn | apply qkd | apply qka)); refine qkp (cs := #[.int .i64 2, .int .i64 a0_0, .int .i64 0, .int .i64 0, .int .i64 0, .int .i64 0, .int .i64 0, .int .i64 0]) ?_ 2 _ rfl; (with_reducible repeat (first | apply qkn | apply qkd | apply qka)); refine qkp (cs := #[.int .i64 2, .int .i64 0, .int .i64 0, .int .i64 0, .int .i64 0, .int .i64 0, .int .i64 0, .int .i64 0]) ?_ 1 _ rfl; (with_reducible repeat (first | apply qkn | apply qkd | apply qka)); refine qkp (cs := #[.int .i64 0, .int .i64 0, .int .i64 0, .int .i64 0, .int .i64 0, .int .i64 0, .int .i64 0, .int .i64 0]) ?_ 0 _ rfl; (with_reducible repeat (first | apply qkn | apply qkd | apply qka)); exact BK161.out) Tryd.underlying125 rfl (by kernel_rfl)) rfl ?_
 exact ⟨by first | rfl | (simp [errW_none, errW_some] <;> rfl) | (simp [*, errW_none, errW_some] <;> rfl), by repeat (first | (with_reducible first | exact HB.out | apply qba | apply qbn | apply qb1 | refine qbs ?_ GE160.out | refine qbs ?_ GE161.out) | exact HB.out)⟩

/-! ### gleeref1_QuotientOf: function 22 -/
mutual
def gleeref1_QuotientOf.l0 : Nat → Int → Int → Int → Int → Int → Int → Int → Int → Int → Int → Int → Option (Int × Int)
 | 0, _, _, _, _, _, _, _, _, _, _, _ => none
 | k + 1, x9, x982, x983, x984, x985, x986, x987, x988, x989, x165000, x165001 => if x9 < 4 then (if 0 ≤ x9 then (gleeref1_QuotientOf.l1 k x9 (mx (rd ([x988, x986, x984, x982] : List Int) x9) 0) 0 x982 x983 x984 x985 x986 x987 x988 x989 x165000 x165001 (rd ([x989, x987, x985, x983] : List Int) x9) (rd ([x988, x986, x984, x982] : List Int) x9)) else (none)) else (some (x165000, x165001))
def gleeref1_QuotientOf.l1 : Nat → Int → Int → Int → Int → Int → Int → Int → Int → Int → Int → Int → Int → Int → Int → Int → Option (Int × Int)
 | 0, _, _, _, _, _, _, _, _, _, _, _, _, _, _, _ => none
 | k + 1, x9, x14, x15, x982, x983, x984, x985, x986, x987, x988, x989, x165000, x165001, x174000, x174001 => if x15 < x14 then (gleeref1_QuotientOf.l1 k x9 x14 (wrap64 (x15 + 1)) x982 x983 x984 x985 x986 x987 x988 x989 (wrap64 (x165000 * x174000)) x165001 x174000 x174001) else (gleeref1_QuotientOf.l2 k x9 (mx (wrap64 (-x174001)) 0) 0 x982 x983 x984 x985 x986 x987 x988 x989 x165000 x165001 x174000 x174001)
def gleeref1_QuotientOf.l2 : Nat → Int → Int → Int → Int → Int → Int → Int → Int → Int → Int → Int → Int → Int → Int → Int → Option (Int × Int)
 | 0, _, _, _, _, _, _, _, _, _, _, _, _, _, _, _ => none
 | k + 1, x9, x27, x28, x982, x983, x984, x985, x986, x987, x988, x989, x165000, x165001, x174000, x174001 => if x28 < x27 then (gleeref1_QuotientOf.l2 k x9 x27 (wrap64 (x28 + 1)) x982 x983 x984 x985 x986 x987 x988 x989 x165000 (wrap64 (x165001 * x174000)) x174000 x174001) else (gleeref1_QuotientOf.l0 k (wrap64 (x9 + 1)) x982 x983 x984 x985 x986 x987 x988 x989 x165000 x165001)
end
def gleeref1_QuotientOf.f (k : Nat) (a0_0 : Int) (a0_1 : Int) (a0_2 : Int) (a0_3 : Int) : Option (Int × Int) := (gleeref1_primes.f a0_0 a0_1 a0_2 a0_3).bind fun bt165 => (gleeref1_QuotientOf.l0 k 0 bt165.2.2.2.2.2.2.2 bt165.2.2.2.2.2.2.1 bt165.2.2.2.2.2.1 bt165.2.2.2.2.1 bt165.2.2.2.1 bt165.2.2.1 bt165.2.1 bt165.1 1 1)
theorem gleeref1_QuotientOf.mono_l : ∀ k, (∀ y0 y1 y2 y3 y4 y5 y6 y7 y8 y9 y10, LeO (gleeref1_QuotientOf.l0 k y0 y1 y2 y3 y4 y5 y6 y7 y8 y9 y10) (gleeref1_QuotientOf.l0 (k + 1) y0 y1 y2 y3 y4 y5 y6 y7 y8 y9 y10)) ∧ (∀ y0 y1 y2 y3 y4 y5 y6 y7 y8 y9 y10 y11 y12 y13 y14, LeO (gleeref1_QuotientOf.l1 k y0 y1 y2 y3 y4 y5 y6 y7 y8 y9 y10 y11 y12 y13 y14) (gleeref1_QuotientOf.l1 (k + 1) y0 y1 y2 y3 y4 y5 y6 y7 y8 y9 y10 y11 y12 y13 y14)) ∧ (∀ y0 y1 y2 y3 y4 y5 y6 y7 y8 y9 y10 y11 y12 y13 y14, LeO (gleeref1_QuotientOf.l2 k y0 y1 y2 y3 y4 y5 y6 y7 y8 y9 y10 y11 y12 y13 y14) (gleeref1_QuotientOf.l2 (k + 1) y0 y1 y2 y3 y4 y5 y6 y7 y8 y9 y10 y11 y12 y13 y14))
 | 0 => ⟨fun _ _ _ _ _ _ _ _ _ _ _ r h => by simp [gleeref1_QuotientOf.l0] at h, fun _ _ _ _ _ _ _ _ _ _ _ _ _ _ _ r h => by simp [gleeref1_QuotientOf.l1] at h, fun _ _ _ _ _ _ _ _ _ _ _ _ _ _ _ r h => by simp [gleeref1_QuotientOf.l2] at h⟩
 | k + 1 => by
  obtain ⟨ih0, ih1, ih2⟩ := gleeref1_QuotientOf.mono_l k
  refine ⟨?_, ?_, ?_⟩
  ·
   intro y0 y1 y2 y3 y4 y5 y6 y7 y8 y9 y10
   unfold gleeref1_QuotientOf.l0
   repeat' first
   | (with_reducible exact ih0 _ _ _ _ _ _ _ _ _ _ _)
   | (with_reducible exact ih1 _ _ _ _ _ _ _ _ _ _ _ _ _ _ _)
   | (with_reducible exact ih2 _ _ _ _ _ _ _ _ _ _ _ _ _ _ _)
   | (with_reducible exact LeO.refl _)
   | (with_reducible exact LeO.none _)
   | (with_reducible refine LeO.ite ?_ ?_)
   | (with_reducible refine LeO.bind ?_ (fun _ => ?_))
   | exact ih0 _ _ _ _ _ _ _ _ _ _ _
   | exact ih1 _ _ _ _ _ _ _ _ _ _ _ _ _ _ _
   | exact ih2 _ _ _ _ _ _ _ _ _ _ _ _ _ _ _
   | exact LeO.none _
   | refine LeO.ite ?_ ?_
   | refine LeO.bind ?_ (fun _ => ?_)
  ·
   intro y0 y1 y2 y3 y4 y5 y6 y7 y8 y9 y10 y11 y12 y13 y14
   unfold gleeref1_QuotientOf.l1
   repeat' first
   | (with_reducible exact ih0 _ _ _ _ _ _ _ _ _ _ _)
   | (with_reducible exact ih1 _ _ _ _ _ _ _ _ _ _ _ _ _ _ _)
   | (with_reducible exact ih2 _ _ _ _ _ _ _ _ _ _ _ _ _ _ _)
   | (with_reducible exact LeO.refl _)
   | (with_reducible exact LeO.none _)
   | (with_reducible refine LeO.ite ?_ ?_)
   | (with_reducible refine LeO.bind ?_ (fun _ => ?_))
   | exact ih0 _ _ _ _ _ _ _ _ _ _ _
   | exact ih1 _ _ _ _ _ _ _ _ _ _ _ _ _ _ _
   | exact ih2 _ _ _ _ _ _ _ _ _ _ _ _ _ _ _
   | exact LeO.none _
   | refine LeO.ite ?_ ?_
   | refine LeO.bind ?_ (fun _ => ?_)
  ·
   intro y0 y1 y2 y3 y4 y5 y6 y7 y8 y9 y10 y11 y12 y13 y14
   unfold gleeref1_QuotientOf.l2
   repeat' first
   | (with_reducible exact ih0 _ _ _ _ _ _ _ _ _ _ _)
   | (with_reducible exact ih1 _ _ _ _ _ _ _ _ _ _ _ _ _ _ _)
   | (with_reducible exact ih2 _ _ _ _ _ _ _ _ _ _ _ _ _ _ _)
   | (with_reducible exact LeO.refl _)
   | (with_reducible exact LeO.none _)
   | (with_reducible refine LeO.ite ?_ ?_)
   | (with_reducible refine LeO.bind ?_ (fun _ => ?_))
   | exact ih0 _ _ _ _ _ _ _ _ _ _ _
   | exact ih1 _ _ _ _ _ _ _ _ _ _ _ _ _ _ _
   | exact ih2 _ _ _ _ _ _ _ _ _ _ _ _ _ _ _
   | exact LeO.none _
   | refine LeO.ite ?_ ?_
   | refine LeO.bind ?_ (fun _ => ?_)
theorem gleeref1_QuotientOf.mono : ∀ a0 a1 a2 a3 k, LeO (gleeref1_QuotientOf.f k a0 a1 a2 a3) (gleeref1_QuotientOf.f (k + 1) a0 a1 a2 a3) := by
 intro a0 a1 a2 a3 k
 obtain ⟨ih0, ih1, ih2⟩ := gleeref1_QuotientOf.mono_l k
 unfold gleeref1_QuotientOf.f
 repeat' first
   | (with_reducible exact ih0 _ _ _ _ _ _ _ _ _ _ _)
   | (with_reducible exact ih1 _ _ _ _ _ _ _ _ _ _ _ _ _ _ _)
   | (with_reducible exact ih2 _ _ _ _ _ _ _ _ _ _ _ _ _ _ _)
   | (with_reducible exact LeO.refl _)
   | (with_reducible exact LeO.none _)
   | (with_reducible refine LeO.ite ?_ ?_)
   | (with_reducible refine LeO.bind ?_ (fun _ => ?_))
   | exact ih0 _ _ _ _ _ _ _ _ _ _ _
   | exact ih1 _ _ _ _ _ _ _ _ _ _ _ _ _ _ _
   | exact ih2 _ _ _ _ _ _ _ _ _ _ _ _ _ _ _
   | exact LeO.none _
   | refine LeO.ite ?_ ?_
   | refine LeO.bind ?_ (fun _ => ?_)
set_option maxHeartbeats 8000000 in
set_option maxRecDepth 100000 in
theorem gleeref1_QuotientOf.calls (k : Nat) (a0_0 : Int) (a0_1 : Int) (a0_2 : Int) (a0_3 : Int) (r1 : Int) (r2 : Int) (w : World) (h : gleeref1_QuotientOf.f k a0_0 a0_1 a0_2 a0_3 = some (r1, r2)) :
  Calls Tryd.prog 22 #[.agg #[.int .i64 a0_0, .int .i64 a0_1, .int .i64 a0_2, .int .i64 a0_3]] w fun e w' => e = .returned (.agg #[.int .i64 r1, .int .i64 r2]) ∧ Below w.heap.size w w' := by
 have hu27 := Tryd.underlying27
 have hu30 := Tryd.underlying30
 have hu124 := Tryd.underlying124
 have HB := Ad.mk (Below.refl w.heap.size w)
 have H : ((gleeref1_primes.f a0_0 a0_1 a0_2 a0_3).bind fun bt165 => (gleeref1_QuotientOf.l0 k 0 bt165.2.2.2.2.2.2.2 bt165.2.2.2.2.2.2.1 bt165.2.2.2.2.2.1 bt165.2.2.2.2.1 bt165.2.2.2.1 bt165.2.2.1 bt165.2.1 bt165.1 1 1)) = some (r1, r2) := h
 clear h
 replace H := Option.bind_eq_some_iff.mp H
 obtain ⟨⟨t165, t166, t167, t168, t169, t170, t171, t172⟩, A20, H⟩ := H
 replace H : (gleeref1_QuotientOf.l0 k 0 t172 t171 t170 t169 t168 t167 t166 t165 1 1) = some (r1, r2) := H
 have A2 := Ad.mk A20
 clear A20
 have H' := Ad.mk H
 clear H
 go_enter Tryd.func22, Tryd.ntmps22
 go_wp2_with (first | ((with_reducible refine qgd (N := 1) rfl ?_); refine qbe ?hg (N := 1) ?hd (cs := #[.int .i64 a0_0, .int .i64 a0_1, .int .i64 a0_2, .int .i64 a0_3]) (t := 27) ?hr ?_; (case hd => rfl); (case hg => rfl); (case hr => first | (go_simp; done) | (go_simp; rfl)); intro gb162 hg w3 hbox hb; have BK162 := Ad.mk (hbox); have GW162 := Ad.mk ((by rw [hg]; exact (qbz (by repeat (first | (with_reducible first | exact HB.out | apply qba | apply qbn | apply qb1) | exact HB.out))) : w.heap.size ≤ gb162)); have GE162 := Ad.mk ((by rw [hg]; exact (qbz (by repeat (first | (with_reducible first | exact HB.out | apply qba | apply qbn | apply qb1) | exact HB.out))) : w.heap.size ≤ gb162)); replace HB := Ad.mk (qbt (by repeat (first | (with_reducible first | exact HB.out | apply qba | apply qbn | apply qb1) | exact HB.out)) hb); clear hb hbox hg) | ((with_reducible refine qgd (N := 2) rfl ?_); refine qbe ?hg (N := 2) ?hd (cs := #[.int .i64 0, .int .i64 0]) (t := 30) ?hr ?_; (case hd => rfl); (case hg => rfl); (case hr => first | (go_simp; done) | (go_simp; rfl)); intro gb163 hg w4 hbox hb; have BK163 := Ad.mk (hbox); have GW163 := Ad.mk ((by rw [hg]; exact (qbz (by repeat (first | (with_reducible first | exact HB.out | apply qba | apply qbn | apply qb1 | refine qbs ?_ GE162.out) | exact HB.out))) : w.heap.size ≤ gb163)); have GE163 := Ad.mk ((by rw [hg]; exact (qbz (by repeat (first | (with_reducible first | exact HB.out | apply qba | apply qbn | apply qb1 | refine qbs ?_ GE162.out) | exact HB.out))) : w.heap.size ≤ gb163)); have NB162_163 := Ad.mk ((by rw [hg]; exact Nat.ne_of_lt (qkl (g := gb162) (o := .cells #[.int .i64 a0_0, .int .i64 a0_1, .int .i64 a0_2, .int .i64 a0_3] 27 (0, 0)) (by (with_reducible repeat (first | apply qkn | apply qkd | apply qka)); exact BK162.out)) : gb162 ≠ gb163)); have NB163_162 := Ad.mk ((by rw [hg]; exact Nat.ne_of_gt (qkl (g := gb162) (o := .cells #[.int .i64 a0_0, .int .i64 a0_1, .int .i64 a0_2, .int .i64 a0_3] 27 (0, 0)) (by (with_reducible repeat (first | apply qkn | apply qkd | apply qka)); exact BK162.out)) : gb163 ≠ gb162)); replace BK162 := Ad.mk (qkb (g := gb162) (o := .cells #[.int .i64 a0_0, .int .i64 a0_1, .int .i64 a0_2, .int .i64 a0_3] 27 (0, 0)) (by (with_reducible repeat (first | apply qkn | apply qkd | apply qka)); exact BK162.out) hb); replace HB := Ad.mk (qbt (by repeat (first | (with_reducible first | exact HB.out | apply qba | apply qbn | apply qb1 | refine qbs ?_ GE162.out) | exact HB.out)) hb); clear hb hbox hg) | ((with_reducible refine qgd (N := 3) rfl ?_); refine qbe ?hg (N := 3) ?hd (cs := #[.int .i64 0, .int .i64 0]) (t := 30) ?hr ?_; (case hd => rfl); (case hg => rfl); (case hr => first | (go_simp; done) | (go_simp; rfl)); intro gb164 hg w5 hbox hb; have BK164 := Ad.mk (hbox); have GW164 := Ad.mk ((by rw [hg]; exact (qbz (by repeat (first | (with_reducible first | exact HB.out | apply qba | apply qbn | apply qb1 | refine qbs ?_ GE162.out | refine qbs ?_ GE163.out) | exact HB.out))) : w.heap.size ≤ gb164)); have GE164 := Ad.mk ((by rw [hg]; exact (qbz (by repeat (first | (with_reducible first | exact HB.out | apply qba | apply qbn | apply qb1 | refine qbs ?_ GE162.out | refine qbs ?_ GE163.out) | exact HB.out))) : w.heap.size ≤ gb164)); have NB162_164 := Ad.mk ((by rw [hg]; exact Nat.ne_of_lt (qkl (g := gb162) (o := .cells #[.int .i64 a0_0, .int .i64 a0_1, .int .i64 a0_2, .int .i64 a0_3] 27 (0, 0)) (by (with_reducible repeat (first | apply qkn | apply qkd | apply qka)); exact BK162.out)) : gb162 ≠ gb164)); have NB164_162 := Ad.mk ((by rw [hg]; exact Nat.ne_of_gt (qkl (g := gb162) (o := .cells #[.int .i64 a0_0, .int .i64 a0_1, .int .i64 a0_2, .int .i64 a0_3] 27 (0, 0)) (by (with_reducible repeat (first | apply qkn | apply qkd | apply qka)); exact BK162.out)) : gb164 ≠ gb162)); have NB163_164 := Ad.mk ((by rw [hg]; exact Nat.ne_of_lt (qkl (g := gb163) (o := .cells #[.int .i64 0, .int .i64 0] 30 (0, 0)) (by (with_reducible repeat (first | apply qkn | apply qkd | apply qka)); exact BK163.out)) : gb163 ≠ gb164)); have NB164_163 := Ad.mk ((by rw [hg]; exact Nat.ne_of_gt (qkl (g := gb163) (o := .cells #[.int .i64 0, .int .i64 0] 30 (0, 0)) (by (with_reducible repeat (first | apply qkn | apply qkd | apply qka)); exact BK163.out)) : gb164 ≠ gb163)); replace BK162 := Ad.mk (qkb (g := gb162) (o := .cells #[.int .i64 a0_0, .int .i64 a0_1, .int .i64 a0_2, .int .i64 a0_3] 27 (0, 0)) (by (with_reducible repeat (first | apply qkn | apply qkd | apply qka)); exact BK162.out) hb); replace BK163 := Ad.mk (qkb (g := gb163) (o := .cells #[.int .i64 0, .int .i64 0] 30 (0, 0)) (by (with_reducible repeat (first | apply qkn | apply qkd | apply qka)); exact BK163.out) hb); replace HB := Ad.mk (qbt (by repeat (first | (with_reducible first | exact HB.out | apply qba | apply qbn | apply qb1 | refine qbs ?_ GE162.out | refine qbs ?_ GE163.out) | exact HB.out)) hb); clear hb hbox hg; have hnb6 := NB164_162.out; have hnc6 := NB162_164.out; have hnb7 := NB164_163.out; have hnc7 := NB163_164.out; have hcz8_0 : w5.cell? ⟨gb164, 0, none⟩ = some (.int .i64 0) := (qkc BK164.out 0).trans rfl; have hcz8_1 : w5.cell? ⟨gb164, 1, none⟩ = some (.int .i64 0) := (qkc BK164.out 1).trans rfl; have hfz8_0 := qkz BK164.out 0; have hfz8_1 := qkz BK164.out 1; have hnb9 := NB162_163.out; have hnc9 := NB163_162.out; have hcz10_0 : w5.cell? ⟨gb162, 0, none⟩ = some (.int .i64 a0_0) := (qkc BK162.out 0).trans rfl; have hcz10_1 : w5.cell? ⟨gb162, 1, none⟩ = some (.int .i64 a0_1) := (qkc BK162.out 1).trans rfl; have hcz10_2 : w5.cell? ⟨gb162, 2, none⟩ = some (.int .i64 a0_2) := (qkc BK162.out 2).trans rfl; have hcz10_3 : w5.cell? ⟨gb162, 3, none⟩ = some (.int .i64 a0_3) := (qkc BK162.out 3).trans rfl; have hfz10_0 := qkz BK162.out 0; have hfz10_1 := qkz BK162.out 1; have hfz10_2 := qkz BK162.out 2; have hfz10_3 := qkz BK162.out 3) | ((with_reducible refine qgc (f := 81) rfl ?_); refine goesL_ (some 8) rfl rfl Tryd.func81 (by kernel_rfl) rfl #[.agg #[.int .i64 a0_0, .int .i64 a0_1, .int .i64 a0_2, .int .i64 a0_3]] rfl (by (try simp only [List.map_toArray, List.map_cons, List.map_nil]); first | done | rfl) ?_; (with_reducible refine (gleeref1_primes.calls a0_0 a0_1 a0_2 a0_3 t165 t166 t167 t168 t169 t170 t171 t172 _ A2.out).mono ?_); rintro e w11 ⟨rfl, hb⟩; refine ⟨_, rfl, ?_⟩; replace BK162 := Ad.mk (qkb (g := gb162) (o := .cells #[.int .i64 a0_0, .int .i64 a0_1, .int .i64 a0_2, .int .i64 a0_3] 27 (0, 0)) (by (with_reducible repeat (first | apply qkn | apply qkd | apply qka)); refine qkf ?_ NB162_164.out _; (with_reducible repeat (first | apply qkn | apply qkd | apply qka)); refine qkf ?_ NB162_164.out _; (with_reducible repeat (first | apply qkn | apply qkd | apply qka)); exact BK162.out) hb); replace BK163 := Ad.mk (qkb (g := gb163) (o := .cells #[.int .i64 0, .int .i64 0] 30 (0, 0)) (by (with_reducible repeat (first | apply qkn | apply qkd | apply qka)); refine qkf ?_ NB163_164.out _; (with_reducible repeat (first | apply qkn | apply qkd | apply qka)); refine qkf ?_ NB163_164.out _; (with_reducible repeat (first | apply qkn | apply qkd | apply qka)); exact BK163.out) hb); replace BK164 := Ad.mk (qkb (g := gb164) (o := .cells #[.int .i64 1, .int .i64 1] 30 (0, 0)) (by (with_reducible repeat (first | apply qkn | apply qkd | apply qka)); refine qkp (cs := #[.int .i64 1, .int .i64 0]) ?_ 1 _ rfl; (with_reducible repeat (first | apply qkn | apply qkd | apply qka)); refine qkp (cs := #[.int .i64 0, .int .i64 0]) ?_ 0 _ rfl; (with_reducible repeat (first | apply qkn | apply qkd | apply qka)); exact BK164.out) hb); replace HB := Ad.mk (qbt (by repeat (first | (with_reducible first | exact HB.out | apply qba | apply qbn | apply qb1 | refine qbs ?_ GE162.out | refine qbs ?_ GE163.out | refine qbs ?_ GE164.out) | exact HB.out)) hb); (try clear hb)))
 go_loopg [9] k (fun kq v9 w' => ∃ (x9_1 : Int) (x165000_1 : Int) (x165001_1 : Int), v9 = .int .i64 x9_1 ∧ Ad (gleeref1_QuotientOf.l0 kq x9_1 t172 t171 t170 t169 t168 t167 t166 t165 x165000_1 x165001_1 = some (r1, r2)) ∧ Ad (kq ≤ k) ∧ Ad (w'.heap[gb162]? = some (.cells #[.int .i64 a0_0, .int .i64 a0_1, .int .i64 a0_2, .int .i64 a0_3] 27 (0, 0))) ∧ Ad (w'.heap[gb163]? = some (.cells #[.int .i64 0, .int .i64 0] 30 (0, 0))) ∧ Ad (w'.heap[gb164]? = some (.cells #[.int .i64 x165000_1, .int .i64 x165001_1] 30 (0, 0))) ∧ Ad (Below w.heap.size w w'))
 case atStart => exact ⟨(0), (1), (1), (by first | rfl | (simp; done) | (simp [*]; done)), H', ⟨Nat.le_refl _⟩, ⟨by (with_reducible repeat (first | apply qkn | apply qkd | apply qka)); exact BK162.out⟩, ⟨by (with_reducible repeat (first | apply qkn | apply qkd | apply qka)); exact BK163.out⟩, ⟨by (with_reducible repeat (first | apply qkn | apply qkd | apply qka)); exact BK164.out⟩, ⟨by repeat (first | (with_reducible first | exact HB.out | apply qba | apply qbn | apply qb1 | refine qbs ?_ GE162.out | refine qbs ?_ GE163.out | refine qbs ?_ GE164.out) | exact HB.out)⟩⟩
 case round =>
  clear H'
  try clear c2
  try clear p2
  try clear c6
  try clear c7
  try clear c8
  try clear c9
  try clear hcz10_0
  try clear hcz10_1
  try clear hcz10_2
  try clear hcz10_3
  try clear hcz8_0
  try clear hcz8_1
  try clear hfz10_0
  try clear hfz10_1
  try clear hfz10_2
  try clear hfz10_3
  try clear hfz8_0
  try clear hfz8_1
  obtain ⟨x9_1, x165000_1, x165001_1, rfl, HA, HK1, BK162, BK163, BK164, HB⟩ := hrel
  cases gk with
  | zero => exact absurd HA.out (by simp [gleeref1_QuotientOf.l0])
  | succ k1 =>
   have H := HA.out
   clear HA
   simp only [gleeref1_QuotientOf.l0] at H
   by_cases c12 : x9_1 < 4
   ·
    rw [if_pos c12] at H
    have c12b0 : decide (x9_1 < 4) = true := decide_eq_true c12
    clear c12
    by_cases c13 : 0 ≤ x9_1
    ·
     rw [if_pos c13] at H
     have c13b0 : decide (0 ≤ x9_1) = true := decide_eq_true c13
     clear c13
     obtain ⟨ji15, hji15⟩ : ∃ j_ : Int, (mx (rd ([t166, t168, t170, t172] : List Int) x9_1) 0) = j_ := ⟨_, rfl⟩
     replace H : (gleeref1_QuotientOf.l1 k1 x9_1 ji15 0 t172 t171 t170 t169 t168 t167 t166 t165 x165000_1 x165001_1 (rd ([t165, t167, t169, t171] : List Int) x9_1) (rd ([t166, t168, t170, t172] : List Int) x9_1)) = some (r1, r2) := by first | (rw [hji15] at H; exact H) | (simp only [hji15] at H ⊢; exact H)
     have hji15_ : (if (rd ([t166, t168, t170, t172] : List Int) x9_1) < 0 then 0 else (rd ([t166, t168, t170, t172] : List Int) x9_1)) = ji15 := hji15
     have H' := Ad.mk H
     clear H
     have hx14 : ∀ w_ : World, (Instr.index 125 (.agg #[.int .i64 t165, .int .i64 t166, .int .i64 t167, .int .i64 t168, .int .i64 t169, .int .i64 t170, .int .i64 t171, .int .i64 t172]) (.int .i64 x9_1)).run Tryd.prog w_ = .ok (.agg #[.int .i64 (rd ([t165, t167, t169, t171] : List Int) x9_1), .int .i64 (rd ([t166, t168, t170, t172] : List Int) x9_1)]) w_ := fun w_ => arr_index_125 w_ t165 t166 t167 t168 t169 t170 t171 t172 x9_1 (of_decide_eq_true (by first | (with_reducible assumption) | assumption)) (of_decide_eq_true (by first | (with_reducible assumption) | assumption))
     go_wp2_with (first | ((with_reducible refine qgd (N := 5) rfl ?_); refine qbe ?hg (N := 5) ?hd (cs := #[.int .i64 0, .int .i64 0]) (t := 124) ?hr ?_; (case hd => rfl); (case hg => rfl); (case hr => first | (go_simp; done) | (go_simp; rfl)); intro gb173 hg w16 hbox hb; have BK173 := Ad.mk (hbox); have GW173 := Ad.mk ((by rw [hg]; exact (qbz (by repeat (first | (with_reducible first | exact HB.out | apply qba | apply qbn | apply qb1 | refine qbs ?_ GE162.out | refine qbs ?_ GE163.out | refine qbs ?_ GE164.out) | exact HB.out))) : w.heap.size ≤ gb173)); have GE173 := Ad.mk ((by rw [hg]; exact (qbz (by repeat (first | (with_reducible first | exact HB.out | apply qba | apply qbn | apply qb1 | refine qbs ?_ GE162.out | refine qbs ?_ GE163.out | refine qbs ?_ GE164.out) | exact HB.out))) : w.heap.size ≤ gb173)); have NB162_173 := Ad.mk ((by rw [hg]; exact Nat.ne_of_lt (qkl (g := gb162) (o := .cells #[.int .i64 a0_0, .int .i64 a0_1, .int .i64 a0_2, .int .i64 a0_3] 27 (0, 0)) (by (with_reducible repeat (first | apply qkn | apply qkd | apply qka)); exact BK162.out)) : gb162 ≠ gb173)); have NB173_162 := Ad.mk ((by rw [hg]; exact Nat.ne_of_gt (qkl (g := gb162) (o := .cells #[.int .i64 a0_0, .int .i64 a0_1, .int .i64 a0_2, .int .i64 a0_3] 27 (0, 0)) (by (with_reducible repeat (first | apply qkn | apply qkd | apply qka)); exact BK162.out)) : gb173 ≠ gb162)); have NB163_173 := Ad.mk ((by rw [hg]; exact Nat.ne_of_lt (qkl (g := gb163) (o := .cells #[.int .i64 0, .int .i64 0] 30 (0, 0)) (by (with_reducible repeat (first | apply qkn | apply qkd | apply qka)); exact BK163.out)) : gb163 ≠ gb173)); have NB173_163 := Ad.mk ((by rw [hg]; exact Nat.ne_of_gt (qkl (g := gb163) (o := .cells #[.int .i64 0, .int .i64 0] 30 (0, 0)) (by (with_reducible repeat (first | apply qkn | apply qkd | apply qka)); exact BK163.out)) : gb173 ≠ gb163)); have NB164_173 := Ad.mk ((by rw [hg]; exact Nat.ne_of_lt (qkl (g := gb164) (o := .cells #[.int .i64 x165000_1, .int .i64 x165001_1] 30 (0, 0)) (by (with_reducible repeat (first | apply qkn | apply qkd | apply qka)); exact BK164.out)) : gb164 ≠ gb173)); have NB173_164 := Ad.mk ((by rw [hg]; exact Nat.ne_of_gt (qkl (g := gb164) (o := .cells #[.int .i64 x165000_1, .int .i64 x165001_1] 30 (0, 0)) (by (with_reducible repeat (first | apply qkn | apply qkd | apply qka)); exact BK164.out)) : gb173 ≠ gb164)); replace BK162 := Ad.mk (qkb (g := gb162) (o := .cells #[.int .i64 a0_0, .int .i64 a0_1, .int .i64 a0_2, .int .i64 a0_3] 27 (0, 0)) (by (with_reducible repeat (first | apply qkn | apply qkd | apply qka)); exact BK162.out) hb); replace BK163 := Ad.mk (qkb (g := gb163) (o := .cells #[.int .i64 0, .int .i64 0] 30 (0, 0)) (by (with_reducible repeat (first | apply qkn | apply qkd | apply qka)); exact BK163.out) hb); replace BK164 := Ad.mk (qkb (g := gb164) (o := .cells #[.int .i64 x165000_1, .int .i64 x165001_1] 30 (0, 0)) (by (with_reducible repeat (first | apply qkn | apply qkd | apply qka)); exact BK164.out) hb); replace HB := Ad.mk (qbt (by repeat (first | (with_reducible first | exact HB.out | apply qba | apply qbn | apply qb1 | refine qbs ?_ GE162.out | refine qbs ?_ GE163.out | refine qbs ?_ GE164.out) | exact HB.out)) hb); clear hb hbox hg; have hnb17 := NB173_162.out; have hnc17 := NB162_173.out; have hnb18 := NB173_163.out; have hnc18 := NB163_173.out; have hnb19 := NB173_164.out; have hnc19 := NB164_173.out; have hcz20_0 : w16.cell? ⟨gb173, 0, none⟩ = some (.int .i64 0) := (qkc BK173.out 0).trans rfl; have hcz20_1 : w16.cell? ⟨gb173, 1, none⟩ = some (.int .i64 0) := (qkc BK173.out 1).trans rfl; have hfz20_0 := qkz BK173.out 0; have hfz20_1 := qkz BK173.out 1))
     go_loopg [15] k1 (fun kq v15 w' => ∃ (x15_2 : Int) (x165000_2 : Int), v15 = .int .i64 x15_2 ∧ Ad (gleeref1_QuotientOf.l1 kq x9_1 ji15 x15_2 t172 t171 t170 t169 t168 t167 t166 t165 x165000_2 x165001_1 (rd ([t165, t167, t169, t171] : List Int) x9_1) (rd ([t166, t168, t170, t172] : List Int) x9_1) = some (r1, r2)) ∧ Ad (kq ≤ k1) ∧ Ad (w'.heap[gb162]? = some (.cells #[.int .i64 a0_0, .int .i64 a0_1, .int .i64 a0_2, .int .i64 a0_3] 27 (0, 0))) ∧ Ad (w'.heap[gb163]? = some (.cells #[.int .i64 0, .int .i64 0] 30 (0, 0))) ∧ Ad (w'.heap[gb164]? = some (.cells #[.int .i64 x165000_2, .int .i64 x165001_1] 30 (0, 0))) ∧ Ad (w'.heap[gb173]? = some (.cells #[.int .i64 (rd ([t165, t167, t169, t171] : List Int) x9_1), .int .i64 (rd ([t166, t168, t170, t172] : List Int) x9_1)] 124 (0, 0))) ∧ Ad (Below w.heap.size w w'))
     case atStart => exact ⟨(0), (x165000_1), (by first | rfl | (simp; done) | (simp [*]; done)), H', ⟨Nat.le_refl _⟩, ⟨by (with_reducible repeat (first | apply qkn | apply qkd | apply qka)); refine qkf ?_ NB162_173.out _; (with_reducible repeat (first | apply qkn | apply qkd | apply qka)); refine qkf ?_ NB162_173.out _; (with_reducible repeat (first | apply qkn | apply qkd | apply qka)); exact BK162.out⟩, ⟨by (with_reducible repeat (first | apply qkn | apply qkd | apply qka)); refine qkf ?_ NB163_173.out _; (with_reducible repeat (first | apply qkn | apply qkd | apply qka)); refine qkf ?_ NB163_173.out _; (with_reducible repeat (first | apply qkn | apply qkd | apply qka)); exact BK163.out⟩, ⟨by (with_reducible repeat (first | apply qkn | apply qkd | apply qka)); refine qkf ?_ NB164_173.out _; (with_reducible repeat (first | apply qkn | apply qkd | apply qka)); refine qkf ?_ NB164_173.out _; (with_reducible repeat (first | apply qkn | apply qkd | apply qka)); exact BK164.out⟩, ⟨by (with_reducible repeat (first | apply qkn | apply qkd | apply qka)); refine qkp (cs := #[.int .i64 (rd ([t165, t167, t169, t171] : List Int) x9_1), .int .i64 0]) ?_ 1 _ rfl; (with_reducible repeat (first | apply qkn | apply qkd | apply qka)); refine qkp (cs := #[.int .i64 0, .int .i64 0]) ?_ 0 _ rfl; (with_reducible repeat (first | apply qkn | apply qkd | apply qka)); exact BK173.out⟩, ⟨by repeat (first | (with_reducible first | exact HB.out | apply qba | apply qbn | apply qb1 | refine qbs ?_ GE162.out | refine qbs ?_ GE163.out | refine qbs ?_ GE164.out | refine qbs ?_ GE173.out) | exact HB.out)⟩⟩
     case round =>
      clear H'
      try clear c1
      try clear hx1
      try clear c2
      try clear p2
      try clear c6
      try clear c7
      try clear c8
      try clear c9
      try clear c12
      try clear c12b0
      try clear c13
      try clear c13b0
      try clear hx14
      try clear c17
      try clear c18
      try clear c19
      try clear hcz10_0
      try clear hcz10_1
      try clear hcz10_2
      try clear hcz10_3
      try clear hcz20_0
      try clear hcz20_1
      try clear hcz8_0
      try clear hcz8_1
      try clear hfz10_0
      try clear hfz10_1
      try clear hfz10_2
      try clear hfz10_3
      try clear hfz20_0
      try clear hfz20_1
      try clear hfz8_0
      try clear hfz8_1
      try clear p2
      obtain ⟨x15_2, x165000_2, rfl, HA, HK2, BK162, BK163, BK164, BK173, HB⟩ := hrel
      cases gk with
      | zero => exact absurd HA.out (by simp [gleeref1_QuotientOf.l1])
      | succ k2 =>
       have H := HA.out
       clear HA
       simp only [gleeref1_QuotientOf.l1] at H
       by_cases c21 : x15_2 < ji15
       ·
        rw [if_pos c21] at H
        have c21b0 : decide (x15_2 < ji15) = true := decide_eq_true c21
        clear c21
        have H' := Ad.mk H
        clear H
        have hnb22 := NB164_162.out
        have hnc22 := NB162_164.out
        have hnb23 := NB164_163.out
        have hnc23 := NB163_164.out
        have hnb24 := NB164_173.out
        have hnc24 := NB173_164.out
        have hcz25_0 : wr.cell? ⟨gb164, 0, none⟩ = some (.int .i64 x165000_2) := (qkc BK164.out 0).trans rfl
        have hcz25_1 : wr.cell? ⟨gb164, 1, none⟩ = some (.int .i64 x165001_1) := (qkc BK164.out 1).trans rfl
        have hfz25_0 := qkz BK164.out 0
        have hfz25_1 := qkz BK164.out 1
        have hnb26 := NB173_162.out
        have hnc26 := NB162_173.out
        have hnb27 := NB173_163.out
        have hnc27 := NB163_173.out
        have hcz28_0 : wr.cell? ⟨gb173, 0, none⟩ = some (.int .i64 (rd ([t165, t167, t169, t171] : List Int) x9_1)) := (qkc BK173.out 0).trans rfl
        have hcz28_1 : wr.cell? ⟨gb173, 1, none⟩ = some (.int .i64 (rd ([t166, t168, t170, t172] : List Int) x9_1)) := (qkc BK173.out 1).trans rfl
        have hfz28_0 := qkz BK173.out 0
        have hfz28_1 := qkz BK173.out 1
        go_wp2
        go_roundg k2
        case measure => have := HK1.out; have := HK2.out; omega
        case rel => exact ⟨(wrap64 (x15_2 + 1)), (wrap64 (x165000_2 * (rd ([t165, t167, t169, t171] : List Int) x9_1))), (by first | rfl | (simp; done) | (simp [*]; done)), H', ⟨by have := HK1.out; have := HK2.out; omega⟩, ⟨by (with_reducible repeat (first | apply qkn | apply qkd | apply qka)); refine qkf ?_ NB162_164.out _; (with_reducible repeat (first | apply qkn | apply qkd | apply qka)); exact BK162.out⟩, ⟨by (with_reducible repeat (first | apply qkn | apply qkd | apply qka)); refine qkf ?_ NB163_164.out _; (with_reducible repeat (first | apply qkn | apply qkd | apply qka)); exact BK163.out⟩, ⟨by (with_reducible repeat (first | apply qkn | apply qkd | apply qka)); refine qkp (cs := #[.int .i64 x165000_2, .int .i64 x165001_1]) ?_ 0 _ rfl; (with_reducible repeat (first | apply qkn | apply qkd | apply qka)); exact BK164.out⟩, ⟨by (with_reducible repeat (first | apply qkn | apply qkd | apply qka)); refine qkf ?_ NB173_164.out _; (with_reducible repeat (first | apply qkn | apply qkd | apply qka)); exact BK173.out⟩, ⟨by repeat (first | (with_reducible first | exact HB.out | apply qba | apply qbn | apply qb1 | refine qbs ?_ GE162.out | refine qbs ?_ GE163.out | refine qbs ?_ GE164.out | refine qbs ?_ GE173.out) | exact HB.out)⟩⟩
       ·
        rw [if_neg c21] at H
        have c21b0 : decide (x15_2 < ji15) = false := decide_eq_false c21
        clear c21
        obtain ⟨ji29, hji29⟩ : ∃ j_ : Int, (mx (wrap64 (-(rd ([t166, t168, t170, t172] : List Int) x9_1))) 0) = j_ := ⟨_, rfl⟩
        replace H : (gleeref1_QuotientOf.l2 k2 x9_1 ji29 0 t172 t171 t170 t169 t168 t167 t166 t165 x165000_2 x165001_1 (rd ([t165, t167, t169, t171] : List Int) x9_1) (rd ([t166, t168, t170, t172] : List Int) x9_1)) = some (r1, r2) := by first | (rw [hji29] at H; exact H) | (simp only [hji29] at H ⊢; exact H)
        have hji29_ : (if (wrap64 (-(rd ([t166, t168, t170, t172] : List Int) x9_1))) < 0 then 0 else (wrap64 (-(rd ([t166, t168, t170, t172] : List Int) x9_1)))) = ji29 := hji29
        have H' := Ad.mk H
        clear H
        have hnb30 := NB173_162.out
        have hnc30 := NB162_173.out
        have hnb31 := NB173_163.out
        have hnc31 := NB163_173.out
        have hnb32 := NB173_164.out
        have hnc32 := NB164_173.out
        have hcz33_0 : wr.cell? ⟨gb173, 0, none⟩ = some (.int .i64 (rd ([t165, t167, t169, t171] : List Int) x9_1)) := (qkc BK173.out 0).trans rfl
        have hcz33_1 : wr.cell? ⟨gb173, 1, none⟩ = some (.int .i64 (rd ([t166, t168, t170, t172] : List Int) x9_1)) := (qkc BK173.out 1).trans rfl
        have hfz33_0 := qkz BK173.out 0
        have hfz33_1 := qkz BK173.out 1
        go_wp2
        go_loopg [28] k2 (fun kq v28 w' => ∃ (x28_3 : Int) (x165001_3 : Int), v28 = .int .i64 x28_3 ∧ Ad (gleeref1_QuotientOf.l2 kq x9_1 ji29 x28_3 t172 t171 t170 t169 t168 t167 t166 t165 x165000_2 x165001_3 (rd ([t165, t167, t169, t171] : List Int) x9_1) (rd ([t166, t168, t170, t172] : List Int) x9_1) = some (r1, r2)) ∧ Ad (kq ≤ k2) ∧ Ad (w'.heap[gb162]? = some (.cells #[.int .i64 a0_0, .int .i64 a0_1, .int .i64 a0_2, .int .i64 a0_3] 27 (0, 0))) ∧ Ad (w'.heap[gb163]? = some (.cells #[.int .i64 0, .int .i64 0] 30 (0, 0))) ∧ Ad (w'.heap[gb164]? = some (.cells #[.int .i64 x165000_2, .int .i64 x165001_3] 30 (0, 0))) ∧ Ad (w'.heap[gb173]? = some (.cells #[.int .i64 (rd ([t165, t167, t169, t171] : List Int) x9_1), .int .i64 (rd ([t166, t168, t170, t172] : List Int) x9_1)] 124 (0, 0))) ∧ Ad (Below w.heap.size w w'))
        case atStart => exact ⟨(0), (x165001_1), (by first | rfl | (simp; done) | (simp [*]; done)), H', ⟨Nat.le_refl _⟩, ⟨by (with_reducible repeat (first | apply qkn | apply qkd | apply qka)); exact BK162.out⟩, ⟨by (with_reducible repeat (first | apply qkn | apply qkd | apply qka)); exact BK163.out⟩, ⟨by (with_reducible repeat (first | apply qkn | apply qkd | apply qka)); exact BK164.out⟩, ⟨by (with_reducible repeat (first | apply qkn | apply qkd | apply qka)); exact BK173.out⟩, ⟨by repeat (first | (with_reducible first | exact HB.out | apply qba | apply qbn | apply qb1 | refine qbs ?_ GE162.out | refine qbs ?_ GE163.out | refine qbs ?_ GE164.out | refine qbs ?_ GE173.out) | exact HB.out)⟩⟩
        case round =>
         clear H'
         try clear c1
         try clear hx1
         try clear c2
         try clear p2
         try clear c3
         try clear c6
         try clear p6
         try clear c7
         try clear c8
         try clear c9
         try clear c12
         try clear c12b0
         try clear c13
         try clear c13b0
         try clear hx14
         try clear c17
         try clear c18
         try clear c19
         try clear c21
         try clear c21b0
         try clear c22
         try clear c23
         try clear c24
         try clear c26
         try clear c27
         try clear c30
         try clear c31
         try clear c32
         try clear hcz10_0
         try clear hcz10_1
         try clear hcz10_2
         try clear hcz10_3
         try clear hcz20_0
         try clear hcz20_1
         try clear hcz25_0
         try clear hcz25_1
         try clear hcz28_0
         try clear hcz28_1
         try clear hcz33_0
         try clear hcz33_1
         try clear hcz8_0
         try clear hcz8_1
         try clear hfz10_0
         try clear hfz10_1
         try clear hfz10_2
         try clear hfz10_3
         try clear hfz20_0
         try clear hfz20_1
         try clear hfz25_0
         try clear hfz25_1
         try clear hfz28_0
         try clear hfz28_1
         try clear hfz33_0
         try clear hfz33_1
         try clear hfz8_0
         try clear hfz8_1
         try clear p2
         obtain ⟨x28_3, x165001_3, rfl, HA, HK3, BK162, BK163, BK164, BK173, HB⟩ := hrel
         cases gk with
         | zero => exact absurd HA.out (by simp [gleeref1_QuotientOf.l2])
         | succ k3 =>
          have H := HA.out
          clear HA
          simp only [gleeref1_QuotientOf.l2] at H
          by_cases c34 : x28_3 < ji29
          ·
           rw [if_pos c34] at H
           have c34b0 : decide (x28_3 < ji29) = true := decide_eq_true c34
           clear c34
           have H' := Ad.mk H
           clear H
           have hnb35 := NB164_162.out
           have hnc35 := NB162_164.out
           have hnb36 := NB164_163.out
           have hnc36 := NB163_164.out
           have hnb37 := NB164_173.out
           have hnc37 := NB173_164.out
           have hcz38_0 : wr.cell? ⟨gb164, 0, none⟩ = some (.int .i64 x165000_2) := (qkc BK164.out 0).trans rfl
           have hcz38_1 : wr.cell? ⟨gb164, 1, none⟩ = some (.int .i64 x165001_3) := (qkc BK164.out 1).trans rfl
           have hfz38_0 := qkz BK164.out 0
           have hfz38_1 := qkz BK164.out 1
           have hnb39 := NB173_162.out
           have hnc39 := NB162_173.out
           have hnb40 := NB173_163.out
           have hnc40 := NB163_173.out
           have hcz41_0 : wr.cell? ⟨gb173, 0, none⟩ = some (.int .i64 (rd ([t165, t167, t169, t171] : List Int) x9_1)) := (qkc BK173.out 0).trans rfl
           have hcz41_1 : wr.cell? ⟨gb173, 1, none⟩ = some (.int .i64 (rd ([t166, t168, t170, t172] : List Int) x9_1)) := (qkc BK173.out 1).trans rfl
           have hfz41_0 := qkz BK173.out 0
           have hfz41_1 := qkz BK173.out 1
           go_wp2
           go_roundg k3
           case measure => have := HK1.out; have := HK2.out; have := HK3.out; omega
           case rel => exact ⟨(wrap64 (x28_3 + 1)), (wrap64 (x165001_3 * (rd ([t165, t167, t169, t171] : List Int) x9_1))), (by first | rfl | (simp; done) | (simp [*]; done)), H', ⟨by have := HK1.out; have := HK2.out; have := HK3.out; omega⟩, ⟨by (with_reducible repeat (first | apply qkn | apply qkd | apply qka)); refine qkf ?_ NB162_164.out _; (with_reducible repeat (first | apply qkn | apply qkd | apply qka)); exact BK162.out⟩, ⟨by (with_reducible repeat (first | apply qkn | apply qkd | apply qka)); refine qkf ?_ NB163_164.out _; (with_reducible repeat (first | apply qkn | apply qkd | apply qka)); exact BK163.out⟩, ⟨by (with_reducible repeat (first | apply qkn | apply qkd | apply qka)); refine qkp (cs := #[.int .i64 x165000_2, .int .i64 x165001_3]) ?_ 1 _ rfl; (with_reducible repeat (first | apply qkn | apply qkd | apply qka)); exact BK164.out⟩, ⟨by (with_reducible repeat (first | apply qkn | apply qkd | apply qka)); refine qkf ?_ NB173_164.out _; (with_reducible repeat (first | apply qkn | apply qkd | apply qka)); exact BK173.out⟩, ⟨by repeat (first | (with_reducible first | exact HB.out | apply qba | apply qbn | apply qb1 | refine qbs ?_ GE162.out | refine qbs ?_ GE163.out | refine qbs ?_ GE164.out | refine qbs ?_ GE173.out) | exact HB.out)⟩⟩
          ·
           rw [if_neg c34] at H
           have c34b0 : decide (x28_3 < ji29) = false := decide_eq_false c34
           clear c34
           have H' := Ad.mk H
           clear H
           go_wp2
           go_roundg k3
           case measure => have := HK1.out; have := HK2.out; have := HK3.out; omega
           case rel => exact ⟨(wrap64 (x9_1 + 1)), (x165000_2), (x165001_3), (by first | rfl | (simp; done) | (simp [*]; done)), H', ⟨by have := HK1.out; have := HK2.out; have := HK3.out; omega⟩, ⟨by (with_reducible repeat (first | apply qkn | apply qkd | apply qka)); exact BK162.out⟩, ⟨by (with_reducible repeat (first | apply qkn | apply qkd | apply qka)); exact BK163.out⟩, ⟨by (with_reducible repeat (first | apply qkn | apply qkd | apply qka)); exact BK164.out⟩, ⟨by repeat (first | (with_reducible first | exact HB.out | apply qba | apply qbn | apply qb1 | refine qbs ?_ GE162.out | refine qbs ?_ GE163.out | refine qbs ?_ GE164.out | refine qbs ?_ GE173.out) | exact HB.out)⟩⟩
    ·
     rw [if_neg c13] at H
     exact absurd H (by simp)
   ·
    rw [if_neg c12] at H
    have c12b0 : decide (x9_1 < 4) = false := decide_eq_false c12
    clear c12
    simp only [Option.some.injEq, Prod.mk.injEq] at H
    obtain ⟨rfl, rfl⟩ := H
    have hnb42 := NB164_162.out
    have hnc42 := NB162_164.out
    have hnb43 := NB164_163.out
    have hnc43 := NB163_164.out
    have hcz44_0 : wr.cell? ⟨gb164, 0, none⟩ = some (.int .i64 x165000_1) := (qkc BK164.out 0).trans rfl
    have hcz44_1 : wr.cell? ⟨gb164, 1, none⟩ = some (.int .i64 x165001_1) := (qkc BK164.out 1).trans rfl
    have hfz44_0 := qkz BK164.out 0
    have hfz44_1 := qkz BK164.out 1
    have hnb45 := NB163_162.out
    have hnc45 := NB162_163.out
    have hcz46_0 : wr.cell? ⟨gb163, 0, none⟩ = some (.int .i64 0) := (qkc BK163.out 0).trans rfl
    have hcz46_1 : wr.cell? ⟨gb163, 1, none⟩ = some (.int .i64 0) := (qkc BK163.out 1).trans rfl
    have hfz46_0 := qkz BK163.out 0
    have hfz46_1 := qkz BK163.out 1
    go_wp2
    refine bodyPost_ret (results_cell_row rfl _ _ gb163 30 #[.int .i64 x165000_1, .int .i64 x165001_1] (0, 0) _ rfl (by (with_reducible repeat (first | apply qkn | apply qkd | apply qka)); refine qkp (cs := #[.int .i64 x165000_1, .int .i64 0]) ?_ 1 _ rfl; (with_reducible repeat (first | apply qkn | apply qkd | apply qka)); refine qkp (cs := #[.int .i64 0, .int .i64 0]) ?_ 0 _ rfl; (with_reducible repeat (first | apply qkn | apply qkd | apply qka)); exact BK163.out) Tryd.underlying30 rfl (by kernel_rfl)) rfl ?_
    exact ⟨by first | rfl | (simp [errW_none, errW_some] <;> rfl) | (simp [*, errW_none, errW_some] <;> rfl), by repeat (first | (with_reducible first | exact HB.out | apply qba | apply qbn | apply qb1 | refine qbs ?_ GE162.out | refine qbs ?_ GE163.out | refine qbs ?_ GE164.out) | exact HB.out)⟩

end Go.Proofs.YtdagocpgefjmdaaDoor.PIntervalsCounted
