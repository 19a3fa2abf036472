import Derived.Test.YtdagocpgefjmdaaDoorGInx0
import Derived.Test.YtdagocpgefjmdaaDoorGInx3
import Derived.Test.YtdagocpgefjmdaaDoorGInx4
namespace Go.Proofs.YtdagocpgefjmdaaDoor.PIntervalsCounted
open Go.RowKit Go.Proofs.YtdagocpgefjmdaaDoorW.PrintWords Go.Proofs.YtdagocpgefjmdaaDoorW.PrintLast Go.Proofs.YtdagocpgefjmdaaDoorW.PrintMore
attribute [local go_sem] max2_int min2_int max_two min_two max_three min_three max_four min_four   -- for this text's walks alone
set_option linter.unusedVariables false
set_option linter.unusedSimpArgs false

/-! ### gleemake_Stream_Quotient: function 13 -/
def gleemake_Stream_Quotient.j0 : Nat → List Int → Int → Int → Int → Option (Int × Int × Int)
 | 0, _, _, _, _ => none
 | k + 1, x1000, x1001, x182000, x182001 => (gleemake_Stream_Flip.f x1000 x1001 6).bind fun bt193 => (if bt193.1 = true then ((some (([(⟨11, 10⟩ : S30), (⟨0, 1⟩ : S30), (⟨4, 2⟩ : S30), (⟨1, 0⟩ : S30), (⟨33554432, 1⟩ : S30), (⟨13, 13⟩ : S30), (⟨(-3), 2⟩ : S30)] : List (S30)) : List (S30))).bind fun y195 => ((gleemake_Stream_Next.f x1000 bt193.2 7).bind fun bt198 => (if 0 ≤ bt198.1 then (if bt198.1 < (y195.length : Int) then (some ((rd_T30 y195 bt198.1).f0, (rd_T30 y195 bt198.1).f1, bt198.2)) else (none)) else (none)))) else (some (x182000, x182001, bt193.2)))
def gleemake_Stream_Quotient.f (k : Nat) (s0_0 : List Int) (s0_1 : Int) : Option (Int × Int × Int) := (some (([(⟨3, 2⟩ : S30), (⟨5, 4⟩ : S30), (⟨81, 80⟩ : S30), (⟨1, 1⟩ : S30), (⟨7, 4⟩ : S30), (⟨2, 3⟩ : S30)] : List (S30)) : List (S30))).bind fun y175 => ((gleemake_Stream_Next.f s0_0 s0_1 6).bind fun bt178 => (if 0 ≤ bt178.1 then (if bt178.1 < (y175.length : Int) then ((gleemake_Stream_Flip.f s0_0 bt178.2 3).bind fun bt182 => (if bt182.1 = true then ((gleemake_Stream_Interval.f k s0_0 bt182.2).bind fun bt184 => ((gleeref1_IntervalFault.f k bt184.1 bt184.2.1 bt184.2.2.1 bt184.2.2.2.1).bind fun t190 => (if t190 = 0 then ((gleeref1_QuotientOf.f k bt184.1 bt184.2.1 bt184.2.2.1 bt184.2.2.2.1).bind fun bt191 => (gleemake_Stream_Quotient.j0 k s0_0 bt184.2.2.2.2 bt191.1 bt191.2)) else (gleemake_Stream_Quotient.j0 k s0_0 bt184.2.2.2.2 ((rd_T30 y175 bt178.1).f0) ((rd_T30 y175 bt178.1).f1))))) else (gleemake_Stream_Quotient.j0 k s0_0 bt182.2 ((rd_T30 y175 bt178.1).f0) ((rd_T30 y175 bt178.1).f1)))) else (none)) else (none)))
theorem gleemake_Stream_Quotient.mono_l : ∀ k, (∀ y0 y1 y2 y3, LeO (gleemake_Stream_Quotient.j0 k y0 y1 y2 y3) (gleemake_Stream_Quotient.j0 (k + 1) y0 y1 y2 y3))
 | 0 => fun _ _ _ _ r h => by simp [gleemake_Stream_Quotient.j0] at h
 | k + 1 => by
  have ih0 := gleemake_Stream_Quotient.mono_l k
  ·
   intro y0 y1 y2 y3
   unfold gleemake_Stream_Quotient.j0
   repeat' first
   | (with_reducible exact ih0 _ _ _ _)
   | (with_reducible exact gleemake_Stream_Interval.mono _ _ _)
   | (with_reducible exact gleeref1_IntervalFault.mono _ _ _ _ _)
   | (with_reducible exact gleeref1_QuotientOf.mono _ _ _ _ _)
   | (with_reducible exact LeO.refl _)
   | (with_reducible exact LeO.none _)
   | (with_reducible refine LeO.ite ?_ ?_)
   | (with_reducible refine LeO.bind ?_ (fun _ => ?_))
   | exact ih0 _ _ _ _
   | exact gleemake_Stream_Interval.mono _ _ _
   | exact gleeref1_IntervalFault.mono _ _ _ _ _
   | exact gleeref1_QuotientOf.mono _ _ _ _ _
   | exact LeO.none _
   | refine LeO.ite ?_ ?_
   | refine LeO.bind ?_ (fun _ => ?_)
theorem gleemake_Stream_Quotient.mono : ∀ a0 a1 k, LeO (gleemake_Stream_Quotient.f k a0 a1) (gleemake_Stream_Quotient.f (k + 1) a0 a1) := by
 intro a0 a1 k
 have ih0 := gleemake_Stream_Quotient.mono_l k
 unfold gleemake_Stream_Quotient.f
 repeat' first
   | (with_reducible exact ih0 _ _ _ _)
   | (with_reducible exact gleemake_Stream_Interval.mono _ _ _)
   | (with_reducible exact gleeref1_IntervalFault.mono _ _ _ _ _)
   | (with_reducible exact gleeref1_QuotientOf.mono _ _ _ _ _)
   | (with_reducible exact LeO.refl _)
   | (with_reducible exact LeO.none _)
   | (with_reducible refine LeO.ite ?_ ?_)
   | (with_reducible refine LeO.bind ?_ (fun _ => ?_))
   | exact ih0 _ _ _ _
   | exact gleemake_Stream_Interval.mono _ _ _
   | exact gleeref1_IntervalFault.mono _ _ _ _ _
   | exact gleeref1_QuotientOf.mono _ _ _ _ _
   | exact LeO.none _
   | refine LeO.ite ?_ ?_
   | refine LeO.bind ?_ (fun _ => ?_)
set_option maxHeartbeats 8000000 in
set_option maxRecDepth 100000 in
theorem gleemake_Stream_Quotient.calls (k : Nat) (g : Nat) (s0_0 : List Int) (s0_1 : Int) (r1 : Int) (r2 : Int) (r3 : Int) (w0 w : World) (hI : IsS25 w0 w g s0_0 s0_1) (hB : Below w0.heap.size w0 w) (h : gleemake_Stream_Quotient.f k s0_0 s0_1 = some (r1, r2, r3)) :
  Calls Tryd.prog 13 #[.pointer (some ⟨g, 0, none⟩)] w fun e w' => e = .returned (.agg #[.int .i64 r1, .int .i64 r2]) ∧ IsS25 w0 w' g s0_0 r3 ∧ Below w0.heap.size w0 w' ∧ KeepBut w w' g none := by
 have hu30 := Tryd.underlying30
 have hu27 := Tryd.underlying27
 have HI0 := Ad.mk hI
 have HK := Ad.mk (KeepBut.refl w g none)
 have HL := Ad.mk hB.size
 clear hI
 have HW0 := Ad.mk hB.size
 have HB := Ad.mk hB
 clear hB
 have H : ((some (([(⟨3, 2⟩ : S30), (⟨5, 4⟩ : S30), (⟨81, 80⟩ : S30), (⟨1, 1⟩ : S30), (⟨7, 4⟩ : S30), (⟨2, 3⟩ : S30)] : List (S30)) : List (S30))).bind fun y175 => ((gleemake_Stream_Next.f s0_0 s0_1 6).bind fun bt178 => (if 0 ≤ bt178.1 then (if bt178.1 < (y175.length : Int) then ((gleemake_Stream_Flip.f s0_0 bt178.2 3).bind fun bt182 => (if bt182.1 = true then ((gleemake_Stream_Interval.f k s0_0 bt182.2).bind fun bt184 => ((gleeref1_IntervalFault.f k bt184.1 bt184.2.1 bt184.2.2.1 bt184.2.2.2.1).bind fun t190 => (if t190 = 0 then ((gleeref1_QuotientOf.f k bt184.1 bt184.2.1 bt184.2.2.1 bt184.2.2.2.1).bind fun bt191 => (gleemake_Stream_Quotient.j0 k s0_0 bt184.2.2.2.2 bt191.1 bt191.2)) else (gleemake_Stream_Quotient.j0 k s0_0 bt184.2.2.2.2 ((rd_T30 y175 bt178.1).f0) ((rd_T30 y175 bt178.1).f1))))) else (gleemake_Stream_Quotient.j0 k s0_0 bt182.2 ((rd_T30 y175 bt178.1).f0) ((rd_T30 y175 bt178.1).f1)))) else (none)) else (none)))) = some (r1, r2, r3) := h
 clear h
 obtain ⟨y175, hy175⟩ : ∃ y_ : List (S30), y_ = (([(⟨3, 2⟩ : S30), (⟨5, 4⟩ : S30), (⟨81, 80⟩ : S30), (⟨1, 1⟩ : S30), (⟨7, 4⟩ : S30), (⟨2, 3⟩ : S30)] : List (S30))) := ⟨_, rfl⟩
 replace H : ((gleemake_Stream_Next.f s0_0 s0_1 6).bind fun bt178 => (if 0 ≤ bt178.1 then (if bt178.1 < (y175.length : Int) then ((gleemake_Stream_Flip.f s0_0 bt178.2 3).bind fun bt182 => (if bt182.1 = true then ((gleemake_Stream_Interval.f k s0_0 bt182.2).bind fun bt184 => ((gleeref1_IntervalFault.f k bt184.1 bt184.2.1 bt184.2.2.1 bt184.2.2.2.1).bind fun t190 => (if t190 = 0 then ((gleeref1_QuotientOf.f k bt184.1 bt184.2.1 bt184.2.2.1 bt184.2.2.2.1).bind fun bt191 => (gleemake_Stream_Quotient.j0 k s0_0 bt184.2.2.2.2 bt191.1 bt191.2)) else (gleemake_Stream_Quotient.j0 k s0_0 bt184.2.2.2.2 ((rd_T30 y175 bt178.1).f0) ((rd_T30 y175 bt178.1).f1))))) else (gleemake_Stream_Quotient.j0 k s0_0 bt182.2 ((rd_T30 y175 bt178.1).f0) ((rd_T30 y175 bt178.1).f1)))) else (none)) else (none))) = some (r1, r2, r3) := by first | (rw [hy175]; with_reducible exact H) | (have H2_ := (Option.bind_some _ _).symm.trans H; rw [hy175]; with_reducible exact H2_) | (have H2_ := (Option.bind_some _ _).symm.trans H; with_reducible exact H2_) | with_reducible exact H | (rw [hy175]; exact H) | exact H
 have Ny175 := Ad.mk hy175
 clear hy175
 replace H := Option.bind_eq_some_iff.mp H
 obtain ⟨⟨t178, t179⟩, A20, H⟩ := H
 replace H : (if 0 ≤ t178 then (if t178 < (y175.length : Int) then ((gleemake_Stream_Flip.f s0_0 t179 3).bind fun bt182 => (if bt182.1 = true then ((gleemake_Stream_Interval.f k s0_0 bt182.2).bind fun bt184 => ((gleeref1_IntervalFault.f k bt184.1 bt184.2.1 bt184.2.2.1 bt184.2.2.2.1).bind fun t190 => (if t190 = 0 then ((gleeref1_QuotientOf.f k bt184.1 bt184.2.1 bt184.2.2.1 bt184.2.2.2.1).bind fun bt191 => (gleemake_Stream_Quotient.j0 k s0_0 bt184.2.2.2.2 bt191.1 bt191.2)) else (gleemake_Stream_Quotient.j0 k s0_0 bt184.2.2.2.2 ((rd_T30 y175 t178).f0) ((rd_T30 y175 t178).f1))))) else (gleemake_Stream_Quotient.j0 k s0_0 bt182.2 ((rd_T30 y175 t178).f0) ((rd_T30 y175 t178).f1)))) else (none)) else (none)) = some (r1, r2, r3) := H
 have A2 := Ad.mk A20
 clear A20
 by_cases c3 : 0 ≤ t178
 ·
  rw [if_pos c3] at H
  have c3b0 : decide (0 ≤ t178) = true := decide_eq_true c3
  clear c3
  by_cases c4 : t178 < (y175.length : Int)
  ·
   rw [if_pos c4] at H
   have c4b0 : decide (t178 < (y175.length : Int)) = true := decide_eq_true c4
   clear c4
   replace H := Option.bind_eq_some_iff.mp H
   obtain ⟨⟨t182, t183⟩, A50, H⟩ := H
   replace H : (if t182 = true then ((gleemake_Stream_Interval.f k s0_0 t183).bind fun bt184 => ((gleeref1_IntervalFault.f k bt184.1 bt184.2.1 bt184.2.2.1 bt184.2.2.2.1).bind fun t190 => (if t190 = 0 then ((gleeref1_QuotientOf.f k bt184.1 bt184.2.1 bt184.2.2.1 bt184.2.2.2.1).bind fun bt191 => (gleemake_Stream_Quotient.j0 k s0_0 bt184.2.2.2.2 bt191.1 bt191.2)) else (gleemake_Stream_Quotient.j0 k s0_0 bt184.2.2.2.2 ((rd_T30 y175 t178).f0) ((rd_T30 y175 t178).f1))))) else (gleemake_Stream_Quotient.j0 k s0_0 t183 ((rd_T30 y175 t178).f0) ((rd_T30 y175 t178).f1))) = some (r1, r2, r3) := H
   have A5 := Ad.mk A50
   clear A50
   have HC6 := Ad.mk H
   clear H
   go_enter Tryd.func13, Tryd.ntmps13
   go_upto_if 17 with (first | ((with_reducible refine qgd (N := 2) rfl ?_); refine qbe ?hg (N := 2) ?hd (cs := #[.int .i64 0, .int .i64 0]) (t := 30) ?hr ?_; (case hd => rfl); (case hg => rfl); (case hr => first | (go_simp; done) | (go_simp; rfl)); intro gb174 hg w7 hbox hb; have BK174 := Ad.mk (hbox); have GW174 := Ad.mk ((by rw [hg]; exact (keep_size (w := w) (g := g) (row := none) (by repeat (first | (with_reducible first | exact HK.out | apply KeepBut.set_ | apply keep_drewN | apply keep_drew | apply keep_alloc) | exact HK.out))) : w.heap.size ≤ gb174)); have GE174 := Ad.mk ((Nat.le_trans HW0.out (by rw [hg]; exact (keep_size (w := w) (g := g) (row := none) (by repeat (first | (with_reducible first | exact HK.out | apply KeepBut.set_ | apply keep_drewN | apply keep_drew | apply keep_alloc) | exact HK.out))) : w.heap.size ≤ gb174) : w0.heap.size ≤ gb174)); have NB0_174 := Ad.mk ((by rw [hg]; exact Nat.ne_of_lt (IsS25.lt (show IsS25 w0 _ g s0_0 s0_1 from by repeat (first | (with_reducible first | exact HI0.out | apply IsS25.alloc | apply IsS25.drewN | apply IsS25.drew | apply IsS25.set_1) | exact HI0.out))) : g ≠ gb174)); have NB174_0 := Ad.mk ((by rw [hg]; exact Nat.ne_of_gt (IsS25.lt (show IsS25 w0 _ g s0_0 s0_1 from by repeat (first | (with_reducible first | exact HI0.out | apply IsS25.alloc | apply IsS25.drewN | apply IsS25.drew | apply IsS25.set_1) | exact HI0.out))) : gb174 ≠ g)); replace HK := Ad.mk (KeepBut.trans (by repeat (first | (with_reducible first | exact HK.out | apply KeepBut.set_ | apply keep_drewN | apply keep_drew | apply keep_alloc) | exact HK.out)) (KeepBut.of_below hb g none) (.inl rfl)); replace HB := Ad.mk (qbt (by repeat (first | (with_reducible first | exact HB.out | apply qba | apply qbn | apply qb1 | refine qbs ?_ (IsS25.ge HI0.out)) | exact HB.out)) hb); replace HI0 := Ad.mk (IsS25.below (by repeat (first | (with_reducible first | exact HI0.out | apply IsS25.alloc | apply IsS25.drewN | apply IsS25.drew | apply IsS25.set_1) | exact HI0.out)) hb); clear hb hbox hg) | ((with_reducible refine qgd (N := 11) rfl ?_); refine Kd.R_lit k30 _ 30 ?hg (N := 11) ?hd (xs := ([(⟨3, 2⟩ : S30), (⟨5, 4⟩ : S30), (⟨81, 80⟩ : S30), (⟨1, 1⟩ : S30), (⟨7, 4⟩ : S30), (⟨2, 3⟩ : S30)] : List (S30))) (inner := [.int .i64 3, .int .i64 2, .int .i64 5, .int .i64 4, .int .i64 81, .int .i64 80, .int .i64 1, .int .i64 1, .int .i64 7, .int .i64 4, .int .i64 2, .int .i64 3]) (ok := fun _ => True) (okp := fun _ => True) ?hr ?hp (fun _ hk => hk) trivial (Below.refl _ _) (Nat.le_refl _) (by simp) ?_; (case hd => rfl); (case hg => rfl); (case hr => first | (go_simp; done) | (go_simp; rfl)); (case hp => exact (Reps.c2 (show Kd.M k30 _ _ _ (⟨3, 2⟩ : S30) [.int .i64 3, .int .i64 2] from (k30_mkM _ _ _ (⟨3, 2⟩ : S30) )) (Reps.c2 (show Kd.M k30 _ _ _ (⟨5, 4⟩ : S30) [.int .i64 5, .int .i64 4] from (k30_mkM _ _ _ (⟨5, 4⟩ : S30) )) (Reps.c2 (show Kd.M k30 _ _ _ (⟨81, 80⟩ : S30) [.int .i64 81, .int .i64 80] from (k30_mkM _ _ _ (⟨81, 80⟩ : S30) )) (Reps.c2 (show Kd.M k30 _ _ _ (⟨1, 1⟩ : S30) [.int .i64 1, .int .i64 1] from (k30_mkM _ _ _ (⟨1, 1⟩ : S30) )) (Reps.c2 (show Kd.M k30 _ _ _ (⟨7, 4⟩ : S30) [.int .i64 7, .int .i64 4] from (k30_mkM _ _ _ (⟨7, 4⟩ : S30) )) (Reps.c2 (show Kd.M k30 _ _ _ (⟨2, 3⟩ : S30) [.int .i64 2, .int .i64 3] from (k30_mkM _ _ _ (⟨2, 3⟩ : S30) )) (Reps.none _ _)))))))); intro v176 w8 ho9 hb hg_ hnew_; clear hg_ hnew_; (first | rw [← Ny175.out] at ho9 | (simp only [Int.reduceToNat] at ho9; rw [← Ny175.out] at ho9)); have HO177 := Ad.mk (Kd.R_lower (Kd.R_newB ho9 (g := gb174) (o := .cells #[.int .i64 0, .int .i64 0] 30 (0, 0)) (by (with_reducible repeat (first | apply qkn | apply qkd | apply qka)); exact BK174.out)) (keep_size (w := w) (g := g) (row := none) (by repeat (first | (with_reducible first | exact HK.out | apply KeepBut.set_ | apply keep_drewN | apply keep_drew | apply keep_alloc | refine keep_far ?_ GW174.out _) | exact HK.out)))); replace BK174 := Ad.mk (qkb (g := gb174) (o := .cells #[.int .i64 0, .int .i64 0] 30 (0, 0)) (by (with_reducible repeat (first | apply qkn | apply qkd | apply qka)); exact BK174.out) hb); replace HK := Ad.mk (KeepBut.trans (by repeat (first | (with_reducible first | exact HK.out | apply KeepBut.set_ | apply keep_drewN | apply keep_drew | apply keep_alloc | refine keep_far ?_ GW174.out _) | exact HK.out)) (KeepBut.of_below hb g none) (.inl rfl)); replace HB := Ad.mk (qbt (by repeat (first | (with_reducible first | exact HB.out | apply qba | apply qbn | apply qb1 | refine qbs ?_ (IsS25.ge HI0.out) | refine qbs ?_ GE174.out) | exact HB.out)) hb); replace HI0 := Ad.mk (IsS25.below (by repeat (first | (with_reducible first | exact HI0.out | apply IsS25.alloc | apply IsS25.drewN | apply IsS25.drew | apply IsS25.set_1 | refine IsS25.far ?_ NB0_174.out _) | exact HI0.out)) hb); clear hb ho9) | ((with_reducible refine qgc (f := 58) rfl ?_); refine goesL_ (some 13) rfl rfl Tryd.func58 (by kernel_rfl) rfl #[.pointer (some ⟨g, 0, none⟩), .int .i64 6] rfl (by (try simp only [List.map_toArray, List.map_cons, List.map_nil]); first | done | rfl) ?_; (with_reducible refine (gleemake_Stream_Next.calls g s0_0 s0_1 6 t178 t179 w0 _ ?side1 ?side2 A2.out).mono ?_); (case side1 => repeat (first | (with_reducible first | exact HI0.out | apply IsS25.alloc | apply IsS25.drewN | apply IsS25.drew | apply IsS25.set_1 | refine IsS25.far ?_ NB0_174.out _) | exact HI0.out)); (case side2 => repeat (first | (with_reducible first | exact HB.out | apply qba | apply qbn | apply qb1 | refine qbs ?_ (IsS25.ge HI0.out) | refine qbs ?_ GE174.out) | exact HB.out)); rintro e w10 ⟨rfl, hi, hb, hk⟩; refine ⟨_, rfl, ?_⟩; replace BK174 := Ad.mk (KeepBut.blk hk (g' := gb174) (o := .cells #[.int .i64 0, .int .i64 0] 30 (0, 0)) (by (with_reducible repeat (first | apply qkn | apply qkd | apply qka)); exact BK174.out) NB174_0.out (by simp)); replace HO177 := Ad.mk (Kd.R_mono (Kd.R_keep (IsS25.apart (show IsS25 w0 _ g s0_0 s0_1 from by repeat (first | (with_reducible first | exact HI0.out | apply IsS25.alloc | apply IsS25.drewN | apply IsS25.drew | apply IsS25.set_1 | refine IsS25.far ?_ NB0_174.out _) | exact HI0.out)) (by (with_reducible repeat (first | apply Kd.R_alloc | apply Kd.R_drewN | apply Kd.R_drew)); exact HO177.out) (by decide)) hk (fun _ h => h.2)) (fun _ h => h.1)); replace HK := Ad.mk (KeepBut.trans (by repeat (first | (with_reducible first | exact HK.out | apply KeepBut.set_ | apply keep_drewN | apply keep_drew | apply keep_alloc | refine keep_far ?_ GW174.out _) | exact HK.out)) hk (.inl rfl)); replace HB := Ad.mk (hb); replace HI0 := Ad.mk (hi); (try clear hb); (try clear hk); (try clear hi); obtain ⟨Ao11, co11, eo11⟩ := Kd.R_slice HO177.out; subst eo11; have p180 : 0 ≤ (t178 : Int) := of_decide_eq_true (by first | (with_reducible assumption) | assumption); have q180 : t178 < (y175.length : Int) := of_decide_eq_true (by first | (with_reducible assumption) | assumption); obtain ⟨ad180, e180, hx180_0, hx180_1⟩ := at_T30 (Kd.R_reads' HO177.out).2.2 t178 p180 q180; cases e180; replace p180 := eq_true p180; replace q180 := eq_true q180) | ((with_reducible refine qgd (N := 3) rfl ?_); refine qbe ?hg (N := 3) ?hd (cs := #[.int .i64 0, .int .i64 0]) (t := 30) ?hr ?_; (case hd => rfl); (case hg => rfl); (case hr => first | (go_simp; done) | (go_simp; rfl)); intro gb181 hg w12 hbox hb; have BK181 := Ad.mk (hbox); have GW181 := Ad.mk ((by rw [hg]; exact (keep_size (w := w) (g := g) (row := none) (by repeat (first | (with_reducible first | exact HK.out | apply KeepBut.set_ | apply keep_drewN | apply keep_drew | apply keep_alloc | refine keep_far ?_ GW174.out _) | exact HK.out))) : w.heap.size ≤ gb181)); have GE181 := Ad.mk ((Nat.le_trans HW0.out (by rw [hg]; exact (keep_size (w := w) (g := g) (row := none) (by repeat (first | (with_reducible first | exact HK.out | apply KeepBut.set_ | apply keep_drewN | apply keep_drew | apply keep_alloc | refine keep_far ?_ GW174.out _) | exact HK.out))) : w.heap.size ≤ gb181) : w0.heap.size ≤ gb181)); have NB174_181 := Ad.mk ((by rw [hg]; exact Nat.ne_of_lt (qkl (g := gb174) (o := .cells #[.int .i64 0, .int .i64 0] 30 (0, 0)) (by (with_reducible repeat (first | apply qkn | apply qkd | apply qka)); exact BK174.out)) : gb174 ≠ gb181)); have NB181_174 := Ad.mk ((by rw [hg]; exact Nat.ne_of_gt (qkl (g := gb174) (o := .cells #[.int .i64 0, .int .i64 0] 30 (0, 0)) (by (with_reducible repeat (first | apply qkn | apply qkd | apply qka)); exact BK174.out)) : gb181 ≠ gb174)); have NB0_181 := Ad.mk ((by rw [hg]; exact Nat.ne_of_lt (IsS25.lt (show IsS25 w0 _ g s0_0 t179 from by repeat (first | (with_reducible first | exact HI0.out | apply IsS25.alloc | apply IsS25.drewN | apply IsS25.drew | apply IsS25.set_1 | refine IsS25.far ?_ NB0_174.out _) | exact HI0.out))) : g ≠ gb181)); have NB181_0 := Ad.mk ((by rw [hg]; exact Nat.ne_of_gt (IsS25.lt (show IsS25 w0 _ g s0_0 t179 from by repeat (first | (with_reducible first | exact HI0.out | apply IsS25.alloc | apply IsS25.drewN | apply IsS25.drew | apply IsS25.set_1 | refine IsS25.far ?_ NB0_174.out _) | exact HI0.out))) : gb181 ≠ g)); replace HO177 := Ad.mk (Kd.R_below (Kd.R_elderB (by (with_reducible repeat (first | apply Kd.R_alloc | apply Kd.R_drewN | apply Kd.R_drew)); exact HO177.out) gb181 (Nat.le_of_eq hg.symm)) hb); replace BK174 := Ad.mk (qkb (g := gb174) (o := .cells #[.int .i64 0, .int .i64 0] 30 (0, 0)) (by (with_reducible repeat (first | apply qkn | apply qkd | apply qka)); exact BK174.out) hb); replace HK := Ad.mk (KeepBut.trans (by repeat (first | (with_reducible first | exact HK.out | apply KeepBut.set_ | apply keep_drewN | apply keep_drew | apply keep_alloc | refine keep_far ?_ GW174.out _) | exact HK.out)) (KeepBut.of_below hb g none) (.inl rfl)); replace HB := Ad.mk (qbt (by repeat (first | (with_reducible first | exact HB.out | apply qba | apply qbn | apply qb1 | refine qbs ?_ (IsS25.ge HI0.out) | refine qbs ?_ GE174.out) | exact HB.out)) hb); replace HI0 := Ad.mk (IsS25.below (by repeat (first | (with_reducible first | exact HI0.out | apply IsS25.alloc | apply IsS25.drewN | apply IsS25.drew | apply IsS25.set_1 | refine IsS25.far ?_ NB0_174.out _) | exact HI0.out)) hb); clear hb hbox hg; have hnb13 := NB181_174.out; have hnc13 := NB174_181.out; have hnb14 := NB181_0.out; have hnc14 := NB0_181.out; have hcz15_0 : w12.cell? ⟨gb181, 0, none⟩ = some (.int .i64 0) := (qkc BK181.out 0).trans rfl; have hcz15_1 : w12.cell? ⟨gb181, 1, none⟩ = some (.int .i64 0) := (qkc BK181.out 1).trans rfl; have hfz15_0 := qkz BK181.out 0; have hfz15_1 := qkz BK181.out 1) | ((with_reducible refine qgc (f := 56) rfl ?_); refine goesL_ (some 17) rfl rfl Tryd.func56 (by kernel_rfl) rfl #[.pointer (some ⟨g, 0, none⟩), .int .i64 3] rfl (by (try simp only [List.map_toArray, List.map_cons, List.map_nil]); first | done | rfl) ?_; (with_reducible refine (gleemake_Stream_Flip.calls g s0_0 t179 3 t182 t183 w0 _ ?side1 ?side2 A5.out).mono ?_); (case side1 => repeat (first | (with_reducible first | exact HI0.out | apply IsS25.alloc | apply IsS25.drewN | apply IsS25.drew | apply IsS25.set_1 | refine IsS25.far ?_ NB0_174.out _ | refine IsS25.far ?_ NB0_181.out _) | exact HI0.out)); (case side2 => repeat (first | (with_reducible first | exact HB.out | apply qba | apply qbn | apply qb1 | refine qbs ?_ (IsS25.ge HI0.out) | refine qbs ?_ GE174.out | refine qbs ?_ GE181.out) | exact HB.out)); rintro e w16 ⟨rfl, hi, hb, hk⟩; refine ⟨_, rfl, ?_⟩; replace BK174 := Ad.mk (KeepBut.blk hk (g' := gb174) (o := .cells #[.int .i64 0, .int .i64 0] 30 (0, 0)) (by (with_reducible repeat (first | apply qkn | apply qkd | apply qka)); refine qkf ?_ NB174_181.out _; (with_reducible repeat (first | apply qkn | apply qkd | apply qka)); refine qkf ?_ NB174_181.out _; (with_reducible repeat (first | apply qkn | apply qkd | apply qka)); exact BK174.out) NB174_0.out (by simp)); replace HO177 := Ad.mk (Kd.R_mono (Kd.R_keep (IsS25.apart (show IsS25 w0 _ g s0_0 t179 from by repeat (first | (with_reducible first | exact HI0.out | apply IsS25.alloc | apply IsS25.drewN | apply IsS25.drew | apply IsS25.set_1 | refine IsS25.far ?_ NB0_174.out _ | refine IsS25.far ?_ NB0_181.out _) | exact HI0.out)) (by (with_reducible repeat (first | apply Kd.R_alloc | apply Kd.R_drewN | apply Kd.R_drew)); exact (Kd.R_mono (Kd.R_far (p := ⟨gb181, 1, none⟩) (Kd.R_far (p := ⟨gb181, 0, none⟩) (Kd.R_mono HO177.out (fun k_ hk => (⟨hk, hk.2⟩ : _ ∧ k_ ≠ gb181))) (fun _ hk => hk.2) (.int .i64 ((rd_T30 y175 t178).f0))) (fun _ hk => hk.2) (.int .i64 ((rd_T30 y175 t178).f1))) (fun _ h_ => h_.1))) (by decide)) hk (fun _ h => h.2)) (fun _ h => h.1)); replace BK181 := Ad.mk (KeepBut.blk hk (g' := gb181) (o := .cells #[.int .i64 ((rd_T30 y175 t178).f0), .int .i64 ((rd_T30 y175 t178).f1)] 30 (0, 0)) (by (with_reducible repeat (first | apply qkn | apply qkd | apply qka)); refine qkp (cs := #[.int .i64 ((rd_T30 y175 t178).f0), .int .i64 0]) ?_ 1 _ rfl; (with_reducible repeat (first | apply qkn | apply qkd | apply qka)); refine qkp (cs := #[.int .i64 0, .int .i64 0]) ?_ 0 _ rfl; (with_reducible repeat (first | apply qkn | apply qkd | apply qka)); exact BK181.out) NB181_0.out (by simp)); replace HK := Ad.mk (KeepBut.trans (by repeat (first | (with_reducible first | exact HK.out | apply KeepBut.set_ | apply keep_drewN | apply keep_drew | apply keep_alloc | refine keep_far ?_ GW174.out _ | refine keep_far ?_ GW181.out _) | exact HK.out)) hk (.inl rfl)); replace HB := Ad.mk (hb); replace HI0 := Ad.mk (hi); (try clear hb); (try clear hk); (try clear hi)))
   (try simp only [Act.put, List.setIfInBounds_toArray, List.set_cons_zero, List.set_cons_succ])
   go_cut [] (fun wc => ∃ (kq : Nat) (x1001_5 : Int) (x182000_5 : Int) (x182001_5 : Int), Ad (gleemake_Stream_Quotient.j0 kq s0_0 x1001_5 x182000_5 x182001_5 = some (r1, r2, r3)) ∧ Ad (kq ≤ k) ∧ Ad (wc.heap[gb174]? = some (.cells #[.int .i64 0, .int .i64 0] 30 (0, 0))) ∧ Ad (wc.heap[gb181]? = some (.cells #[.int .i64 x182000_5, .int .i64 x182001_5] 30 (0, 0))) ∧ Ad (IsS25 w0 wc g s0_0 x1001_5) ∧ Ad (KeepBut w wc g none) ∧ Ad (Below w0.heap.size w0 wc))
   case first =>
    have H := HC6.out
    clear HC6
    by_cases c17 : t182 = true
    ·
     subst c17
     have H1 : ((gleemake_Stream_Interval.f k s0_0 t183).bind fun bt184 => ((gleeref1_IntervalFault.f k bt184.1 bt184.2.1 bt184.2.2.1 bt184.2.2.2.1).bind fun t190 => (if t190 = 0 then ((gleeref1_QuotientOf.f k bt184.1 bt184.2.1 bt184.2.2.1 bt184.2.2.2.1).bind fun bt191 => (gleemake_Stream_Quotient.j0 k s0_0 bt184.2.2.2.2 bt191.1 bt191.2)) else (gleemake_Stream_Quotient.j0 k s0_0 bt184.2.2.2.2 ((rd_T30 y175 t178).f0) ((rd_T30 y175 t178).f1))))) = some (r1, r2, r3) := by rw [if_pos rfl] at H; exact H
     clear H
     have H := H1
     clear H1
     replace H := Option.bind_eq_some_iff.mp H
     obtain ⟨⟨t184, t185, t186, t187, t188⟩, A180, H⟩ := H
     replace H : ((gleeref1_IntervalFault.f k t184 t185 t186 t187).bind fun t190 => (if t190 = 0 then ((gleeref1_QuotientOf.f k t184 t185 t186 t187).bind fun bt191 => (gleemake_Stream_Quotient.j0 k s0_0 t188 bt191.1 bt191.2)) else (gleemake_Stream_Quotient.j0 k s0_0 t188 ((rd_T30 y175 t178).f0) ((rd_T30 y175 t178).f1)))) = some (r1, r2, r3) := H
     have A18 := Ad.mk A180
     clear A180
     replace H := Option.bind_eq_some_iff.mp H
     obtain ⟨t190, A190, H⟩ := H
     replace H : (if t190 = 0 then ((gleeref1_QuotientOf.f k t184 t185 t186 t187).bind fun bt191 => (gleemake_Stream_Quotient.j0 k s0_0 t188 bt191.1 bt191.2)) else (gleemake_Stream_Quotient.j0 k s0_0 t188 ((rd_T30 y175 t178).f0) ((rd_T30 y175 t178).f1))) = some (r1, r2, r3) := H
     have A19 := Ad.mk A190
     clear A190
     by_cases c20 : t190 = 0
     ·
      rw [if_pos c20] at H
      have c20b0 : (t190 == 0) = true := beq_iff_eq.mpr c20
      have c20b1 : (t190 != 0) = false := bne_eq_false_iff_eq.mpr c20
      clear c20
      (first | rw [c20b0] | (simp only [i64_w, i32_w]; rw [c20b0]) | skip)
      replace H := Option.bind_eq_some_iff.mp H
      obtain ⟨⟨t191, t192⟩, A210, H⟩ := H
      replace H : (gleemake_Stream_Quotient.j0 k s0_0 t188 t191 t192) = some (r1, r2, r3) := H
      have A21 := Ad.mk A210
      clear A210
      have H' := Ad.mk H
      clear H
      go_wp2_with (first | ((with_reducible refine qgc (f := 12) rfl ?_); refine goesL_ (some 19) rfl rfl Tryd.func12 (by kernel_rfl) rfl #[.pointer (some ⟨g, 0, none⟩)] rfl (by (try simp only [List.map_toArray, List.map_cons, List.map_nil]); first | done | rfl) ?_; (with_reducible refine (gleemake_Stream_Interval.calls k g s0_0 t183 t184 t185 t186 t187 t188 w0 _ ?side1 ?side2 A18.out).mono ?_); (case side1 => repeat (first | (with_reducible first | exact HI0.out | apply IsS25.alloc | apply IsS25.drewN | apply IsS25.drew | apply IsS25.set_1 | refine IsS25.far ?_ NB0_174.out _ | refine IsS25.far ?_ NB0_181.out _) | exact HI0.out)); (case side2 => repeat (first | (with_reducible first | exact HB.out | apply qba | apply qbn | apply qb1 | refine qbs ?_ (IsS25.ge HI0.out) | refine qbs ?_ GE174.out | refine qbs ?_ GE181.out) | exact HB.out)); rintro e w22 ⟨rfl, hi, hb, hk⟩; refine ⟨_, rfl, ?_⟩; replace BK174 := Ad.mk (KeepBut.blk hk (g' := gb174) (o := .cells #[.int .i64 0, .int .i64 0] 30 (0, 0)) (by (with_reducible repeat (first | apply qkn | apply qkd | apply qka)); exact BK174.out) NB174_0.out (by simp)); replace HO177 := Ad.mk (Kd.R_mono (Kd.R_keep (IsS25.apart (show IsS25 w0 _ g s0_0 t183 from by repeat (first | (with_reducible first | exact HI0.out | apply IsS25.alloc | apply IsS25.drewN | apply IsS25.drew | apply IsS25.set_1 | refine IsS25.far ?_ NB0_174.out _ | refine IsS25.far ?_ NB0_181.out _) | exact HI0.out)) (by (with_reducible repeat (first | apply Kd.R_alloc | apply Kd.R_drewN | apply Kd.R_drew)); exact HO177.out) (by decide)) hk (fun _ h => h.2)) (fun _ h => h.1)); replace BK181 := Ad.mk (KeepBut.blk hk (g' := gb181) (o := .cells #[.int .i64 ((rd_T30 y175 t178).f0), .int .i64 ((rd_T30 y175 t178).f1)] 30 (0, 0)) (by (with_reducible repeat (first | apply qkn | apply qkd | apply qka)); exact BK181.out) NB181_0.out (by simp)); replace HK := Ad.mk (KeepBut.trans (by repeat (first | (with_reducible first | exact HK.out | apply KeepBut.set_ | apply keep_drewN | apply keep_drew | apply keep_alloc | refine keep_far ?_ GW174.out _ | refine keep_far ?_ GW181.out _) | exact HK.out)) hk (.inl rfl)); replace HB := Ad.mk (hb); replace HI0 := Ad.mk (hi); (try clear hb); (try clear hk); (try clear hi)) | ((with_reducible refine qgd (N := 4) rfl ?_); refine qbe ?hg (N := 4) ?hd (cs := #[.int .i64 0, .int .i64 0, .int .i64 0, .int .i64 0]) (t := 27) ?hr ?_; (case hd => rfl); (case hg => rfl); (case hr => first | (go_simp; done) | (go_simp; rfl)); intro gb189 hg w23 hbox hb; have BK189 := Ad.mk (hbox); have GW189 := Ad.mk ((by rw [hg]; exact (keep_size (w := w) (g := g) (row := none) (by repeat (first | (with_reducible first | exact HK.out | apply KeepBut.set_ | apply keep_drewN | apply keep_drew | apply keep_alloc | refine keep_far ?_ GW174.out _ | refine keep_far ?_ GW181.out _) | exact HK.out))) : w.heap.size ≤ gb189)); have GE189 := Ad.mk ((Nat.le_trans HW0.out (by rw [hg]; exact (keep_size (w := w) (g := g) (row := none) (by repeat (first | (with_reducible first | exact HK.out | apply KeepBut.set_ | apply keep_drewN | apply keep_drew | apply keep_alloc | refine keep_far ?_ GW174.out _ | refine keep_far ?_ GW181.out _) | exact HK.out))) : w.heap.size ≤ gb189) : w0.heap.size ≤ gb189)); have NB174_189 := Ad.mk ((by rw [hg]; exact Nat.ne_of_lt (qkl (g := gb174) (o := .cells #[.int .i64 0, .int .i64 0] 30 (0, 0)) (by (with_reducible repeat (first | apply qkn | apply qkd | apply qka)); exact BK174.out)) : gb174 ≠ gb189)); have NB189_174 := Ad.mk ((by rw [hg]; exact Nat.ne_of_gt (qkl (g := gb174) (o := .cells #[.int .i64 0, .int .i64 0] 30 (0, 0)) (by (with_reducible repeat (first | apply qkn | apply qkd | apply qka)); exact BK174.out)) : gb189 ≠ gb174)); have NB181_189 := Ad.mk ((by rw [hg]; exact Nat.ne_of_lt (qkl (g := gb181) (o := .cells #[.int .i64 ((rd_T30 y175 t178).f0), .int .i64 ((rd_T30 y175 t178).f1)] 30 (0, 0)) (by (with_reducible repeat (first | apply qkn | apply qkd | apply qka)); exact BK181.out)) : gb181 ≠ gb189)); have NB189_181 := Ad.mk ((by rw [hg]; exact Nat.ne_of_gt (qkl (g := gb181) (o := .cells #[.int .i64 ((rd_T30 y175 t178).f0), .int .i64 ((rd_T30 y175 t178).f1)] 30 (0, 0)) (by (with_reducible repeat (first | apply qkn | apply qkd | apply qka)); exact BK181.out)) : gb189 ≠ gb181)); have NB0_189 := Ad.mk ((by rw [hg]; exact Nat.ne_of_lt (IsS25.lt (show IsS25 w0 _ g s0_0 t188 from by repeat (first | (with_reducible first | exact HI0.out | apply IsS25.alloc | apply IsS25.drewN | apply IsS25.drew | apply IsS25.set_1 | refine IsS25.far ?_ NB0_174.out _ | refine IsS25.far ?_ NB0_181.out _) | exact HI0.out))) : g ≠ gb189)); have NB189_0 := Ad.mk ((by rw [hg]; exact Nat.ne_of_gt (IsS25.lt (show IsS25 w0 _ g s0_0 t188 from by repeat (first | (with_reducible first | exact HI0.out | apply IsS25.alloc | apply IsS25.drewN | apply IsS25.drew | apply IsS25.set_1 | refine IsS25.far ?_ NB0_174.out _ | refine IsS25.far ?_ NB0_181.out _) | exact HI0.out))) : gb189 ≠ g)); replace HO177 := Ad.mk (Kd.R_below (by (with_reducible repeat (first | apply Kd.R_alloc | apply Kd.R_drewN | apply Kd.R_drew)); exact HO177.out) hb); replace BK174 := Ad.mk (qkb (g := gb174) (o := .cells #[.int .i64 0, .int .i64 0] 30 (0, 0)) (by (with_reducible repeat (first | apply qkn | apply qkd | apply qka)); exact BK174.out) hb); replace BK181 := Ad.mk (qkb (g := gb181) (o := .cells #[.int .i64 ((rd_T30 y175 t178).f0), .int .i64 ((rd_T30 y175 t178).f1)] 30 (0, 0)) (by (with_reducible repeat (first | apply qkn | apply qkd | apply qka)); exact BK181.out) hb); replace HK := Ad.mk (KeepBut.trans (by repeat (first | (with_reducible first | exact HK.out | apply KeepBut.set_ | apply keep_drewN | apply keep_drew | apply keep_alloc | refine keep_far ?_ GW174.out _ | refine keep_far ?_ GW181.out _) | exact HK.out)) (KeepBut.of_below hb g none) (.inl rfl)); replace HB := Ad.mk (qbt (by repeat (first | (with_reducible first | exact HB.out | apply qba | apply qbn | apply qb1 | refine qbs ?_ (IsS25.ge HI0.out) | refine qbs ?_ GE174.out | refine qbs ?_ GE181.out) | exact HB.out)) hb); replace HI0 := Ad.mk (IsS25.below (by repeat (first | (with_reducible first | exact HI0.out | apply IsS25.alloc | apply IsS25.drewN | apply IsS25.drew | apply IsS25.set_1 | refine IsS25.far ?_ NB0_174.out _ | refine IsS25.far ?_ NB0_181.out _) | exact HI0.out)) hb); clear hb hbox hg; have hnb24 := NB189_174.out; have hnc24 := NB174_189.out; have hnb25 := NB189_181.out; have hnc25 := NB181_189.out; have hnb26 := NB189_0.out; have hnc26 := NB0_189.out; have hcz27_0 : w23.cell? ⟨gb189, 0, none⟩ = some (.int .i64 0) := (qkc BK189.out 0).trans rfl; have hcz27_1 : w23.cell? ⟨gb189, 1, none⟩ = some (.int .i64 0) := (qkc BK189.out 1).trans rfl; have hcz27_2 : w23.cell? ⟨gb189, 2, none⟩ = some (.int .i64 0) := (qkc BK189.out 2).trans rfl; have hcz27_3 : w23.cell? ⟨gb189, 3, none⟩ = some (.int .i64 0) := (qkc BK189.out 3).trans rfl; have hfz27_0 := qkz BK189.out 0; have hfz27_1 := qkz BK189.out 1; have hfz27_2 := qkz BK189.out 2; have hfz27_3 := qkz BK189.out 3) | ((with_reducible refine qgc (f := 14) rfl ?_); refine goesL_ (some 21) rfl rfl Tryd.func14 (by kernel_rfl) rfl #[.agg #[.int .i64 t184, .int .i64 t185, .int .i64 t186, .int .i64 t187]] rfl (by (try simp only [List.map_toArray, List.map_cons, List.map_nil]); first | done | rfl) ?_; (with_reducible refine (gleeref1_IntervalFault.calls k t184 t185 t186 t187 t190 _ A19.out).mono ?_); rintro e w28 ⟨rfl, hb⟩; refine ⟨_, rfl, ?_⟩; replace HO177 := Ad.mk (Kd.R_below (by (with_reducible repeat (first | apply Kd.R_alloc | apply Kd.R_drewN | apply Kd.R_drew)); exact (Kd.R_mono (Kd.R_far (p := ⟨gb189, 3, none⟩) (Kd.R_far (p := ⟨gb189, 2, none⟩) (Kd.R_far (p := ⟨gb189, 1, none⟩) (Kd.R_far (p := ⟨gb189, 0, none⟩) (Kd.R_types HO177.out BK189.out (by decide)) (fun _ hk => hk.2) (.int .i64 t184)) (fun _ hk => hk.2) (.int .i64 t185)) (fun _ hk => hk.2) (.int .i64 t186)) (fun _ hk => hk.2) (.int .i64 t187)) (fun _ h_ => h_.1))) hb); replace BK174 := Ad.mk (qkb (g := gb174) (o := .cells #[.int .i64 0, .int .i64 0] 30 (0, 0)) (by (with_reducible repeat (first | apply qkn | apply qkd | apply qka)); refine qkf ?_ NB174_189.out _; (with_reducible repeat (first | apply qkn | apply qkd | apply qka)); refine qkf ?_ NB174_189.out _; (with_reducible repeat (first | apply qkn | apply qkd | apply qka)); refine qkf ?_ NB174_189.out _; (with_reducible repeat (first | apply qkn | apply qkd | apply qka)); refine qkf ?_ NB174_189.out _; (with_reducible repeat (first | apply qkn | apply qkd | apply qka)); exact BK174.out) hb); replace BK181 := Ad.mk (qkb (g := gb181) (o := .cells #[.int .i64 ((rd_T30 y175 t178).f0), .int .i64 ((rd_T30 y175 t178).f1)] 30 (0, 0)) (by (with_reducible repeat (first | apply qkn | apply qkd | apply qka)); refine qkf ?_ NB181_189.out _; (with_reducible repeat (first | apply qkn | apply qkd | apply qka)); refine qkf ?_ NB181_189.out _; (with_reducible repeat (first | apply qkn | apply qkd | apply qka)); refine qkf ?_ NB181_189.out _; (with_reducible repeat (first | apply qkn | apply qkd | apply qka)); refine qkf ?_ NB181_189.out _; (with_reducible repeat (first | apply qkn | apply qkd | apply qka)); exact BK181.out) hb); replace BK189 := Ad.mk (qkb (g := gb189) (o := .cells #[.int .i64 t184, .int .i64 t185, .int .i64 t186, .int .i64 t187] 27 (0, 0)) (by (with_reducible repeat (first | apply qkn | apply qkd | apply qka)); refine qkp (cs := #[.int .i64 t184, .int .i64 t185, .int .i64 t186, .int .i64 0]) ?_ 3 _ rfl; (with_reducible repeat (first | apply qkn | apply qkd | apply qka)); refine qkp (cs := #[.int .i64 t184, .int .i64 t185, .int .i64 0, .int .i64 0]) ?_ 2 _ rfl; (with_reducible repeat (first | apply qkn | apply qkd | apply qka)); refine qkp (cs := #[.int .i64 t184, .int .i64 0, .int .i64 0, .int .i64 0]) ?_ 1 _ rfl; (with_reducible repeat (first | apply qkn | apply qkd | apply qka)); refine qkp (cs := #[.int .i64 0, .int .i64 0, .int .i64 0, .int .i64 0]) ?_ 0 _ rfl; (with_reducible repeat (first | apply qkn | apply qkd | apply qka)); exact BK189.out) hb); replace HK := Ad.mk (KeepBut.trans (by repeat (first | (with_reducible first | exact HK.out | apply KeepBut.set_ | apply keep_drewN | apply keep_drew | apply keep_alloc | refine keep_far ?_ GW174.out _ | refine keep_far ?_ GW181.out _ | refine keep_far ?_ GW189.out _) | exact HK.out)) (KeepBut.of_below hb g none) (.inl rfl)); replace HB := Ad.mk (qbt (by repeat (first | (with_reducible first | exact HB.out | apply qba | apply qbn | apply qb1 | refine qbs ?_ (IsS25.ge HI0.out) | refine qbs ?_ GE174.out | refine qbs ?_ GE181.out | refine qbs ?_ GE189.out) | exact HB.out)) hb); replace HI0 := Ad.mk (IsS25.below (show IsS25 w0 ((((w23.setCell ⟨gb189, 0, none⟩ (.int .i64 t184)).setCell ⟨gb189, 1, none⟩ (.int .i64 t185)).setCell ⟨gb189, 2, none⟩ (.int .i64 t186)).setCell ⟨gb189, 3, none⟩ (.int .i64 t187)) g s0_0 t188 from by repeat (first | (with_reducible first | exact HI0.out | apply IsS25.alloc | apply IsS25.drewN | apply IsS25.drew | apply IsS25.set_1 | refine IsS25.far ?_ NB0_174.out _ | refine IsS25.far ?_ NB0_181.out _ | refine IsS25.far ?_ NB0_189.out _) | exact HI0.out)) hb); (try clear hb); (try clear hk); have hcz29_0 : w28.cell? ⟨gb189, 0, none⟩ = some (.int .i64 t184) := (qkc BK189.out 0).trans rfl; have hcz29_1 : w28.cell? ⟨gb189, 1, none⟩ = some (.int .i64 t185) := (qkc BK189.out 1).trans rfl; have hcz29_2 : w28.cell? ⟨gb189, 2, none⟩ = some (.int .i64 t186) := (qkc BK189.out 2).trans rfl; have hcz29_3 : w28.cell? ⟨gb189, 3, none⟩ = some (.int .i64 t187) := (qkc BK189.out 3).trans rfl; have hfz29_0 := qkz BK189.out 0; have hfz29_1 := qkz BK189.out 1; have hfz29_2 := qkz BK189.out 2; have hfz29_3 := qkz BK189.out 3) | ((with_reducible refine qgc (f := 22) rfl ?_); refine goesL_ (some 24) rfl rfl Tryd.func22 (by kernel_rfl) rfl #[.agg #[.int .i64 t184, .int .i64 t185, .int .i64 t186, .int .i64 t187]] rfl (by (try simp only [List.map_toArray, List.map_cons, List.map_nil]); first | done | rfl) ?_; (with_reducible refine (gleeref1_QuotientOf.calls k t184 t185 t186 t187 t191 t192 _ A21.out).mono ?_); rintro e w30 ⟨rfl, hb⟩; refine ⟨_, rfl, ?_⟩; replace HO177 := Ad.mk (Kd.R_below (by (with_reducible repeat (first | apply Kd.R_alloc | apply Kd.R_drewN | apply Kd.R_drew)); exact HO177.out) hb); replace BK174 := Ad.mk (qkb (g := gb174) (o := .cells #[.int .i64 0, .int .i64 0] 30 (0, 0)) (by (with_reducible repeat (first | apply qkn | apply qkd | apply qka)); exact BK174.out) hb); replace BK181 := Ad.mk (qkb (g := gb181) (o := .cells #[.int .i64 ((rd_T30 y175 t178).f0), .int .i64 ((rd_T30 y175 t178).f1)] 30 (0, 0)) (by (with_reducible repeat (first | apply qkn | apply qkd | apply qka)); exact BK181.out) hb); replace BK189 := Ad.mk (qkb (g := gb189) (o := .cells #[.int .i64 t184, .int .i64 t185, .int .i64 t186, .int .i64 t187] 27 (0, 0)) (by (with_reducible repeat (first | apply qkn | apply qkd | apply qka)); exact BK189.out) hb); replace HK := Ad.mk (KeepBut.trans (by repeat (first | (with_reducible first | exact HK.out | apply KeepBut.set_ | apply keep_drewN | apply keep_drew | apply keep_alloc | refine keep_far ?_ GW174.out _ | refine keep_far ?_ GW181.out _ | refine keep_far ?_ GW189.out _) | exact HK.out)) (KeepBut.of_below hb g none) (.inl rfl)); replace HB := Ad.mk (qbt (by repeat (first | (with_reducible first | exact HB.out | apply qba | apply qbn | apply qb1 | refine qbs ?_ (IsS25.ge HI0.out) | refine qbs ?_ GE174.out | refine qbs ?_ GE181.out | refine qbs ?_ GE189.out) | exact HB.out)) hb); replace HI0 := Ad.mk (IsS25.below (by repeat (first | (with_reducible first | exact HI0.out | apply IsS25.alloc | apply IsS25.drewN | apply IsS25.drew | apply IsS25.set_1 | refine IsS25.far ?_ NB0_174.out _ | refine IsS25.far ?_ NB0_181.out _ | refine IsS25.far ?_ NB0_189.out _) | exact HI0.out)) hb); (try clear hb); have hnb31 := NB181_174.out; have hnc31 := NB174_181.out; have hnb32 := NB181_0.out; have hnc32 := NB0_181.out; have hcz33_0 : w30.cell? ⟨gb181, 0, none⟩ = some (.int .i64 ((rd_T30 y175 t178).f0)) := (qkc BK181.out 0).trans rfl; have hcz33_1 : w30.cell? ⟨gb181, 1, none⟩ = some (.int .i64 ((rd_T30 y175 t178).f1)) := (qkc BK181.out 1).trans rfl; have hfz33_0 := qkz BK181.out 0; have hfz33_1 := qkz BK181.out 1))
      go_meet
      case rel => exact ⟨_, (t188), (t191), (t192), H', ⟨by first | omega | exact Nat.le_refl _⟩, ⟨by (with_reducible repeat (first | apply qkn | apply qkd | apply qka)); refine qkf ?_ NB174_181.out _; (with_reducible repeat (first | apply qkn | apply qkd | apply qka)); refine qkf ?_ NB174_181.out _; (with_reducible repeat (first | apply qkn | apply qkd | apply qka)); exact BK174.out⟩, ⟨by (with_reducible repeat (first | apply qkn | apply qkd | apply qka)); refine qkp (cs := #[.int .i64 t191, .int .i64 ((rd_T30 y175 t178).f1)]) ?_ 1 _ rfl; (with_reducible repeat (first | apply qkn | apply qkd | apply qka)); refine qkp (cs := #[.int .i64 ((rd_T30 y175 t178).f0), .int .i64 ((rd_T30 y175 t178).f1)]) ?_ 0 _ rfl; (with_reducible repeat (first | apply qkn | apply qkd | apply qka)); exact BK181.out⟩, ⟨by repeat (first | (with_reducible first | exact HI0.out | apply IsS25.alloc | apply IsS25.drewN | apply IsS25.drew | apply IsS25.set_1 | refine IsS25.far ?_ NB0_174.out _ | refine IsS25.far ?_ NB0_181.out _ | refine IsS25.far ?_ NB0_189.out _) | exact HI0.out)⟩, ⟨by repeat (first | (with_reducible first | exact HK.out | apply KeepBut.set_ | apply keep_drewN | apply keep_drew | apply keep_alloc | refine keep_far ?_ GW174.out _ | refine keep_far ?_ GW181.out _ | refine keep_far ?_ GW189.out _) | exact HK.out)⟩, ⟨by repeat (first | (with_reducible first | exact HB.out | apply qba | apply qbn | apply qb1 | refine qbs ?_ (IsS25.ge HI0.out) | refine qbs ?_ GE174.out | refine qbs ?_ GE181.out | refine qbs ?_ GE189.out) | exact HB.out)⟩⟩
     ·
      rw [if_neg c20] at H
      have c20b0 : (t190 == 0) = false := beq_eq_false_iff_ne.mpr c20
      have c20b1 : (t190 != 0) = true := bne_iff_ne.mpr c20
      (first | rw [c20b0] | (simp only [i64_w, i32_w]; rw [c20b0]) | skip)
      have H' := Ad.mk H
      clear H
      go_wp2_with (first | ((with_reducible refine qgc (f := 12) rfl ?_); refine goesL_ (some 19) rfl rfl Tryd.func12 (by kernel_rfl) rfl #[.pointer (some ⟨g, 0, none⟩)] rfl (by (try simp only [List.map_toArray, List.map_cons, List.map_nil]); first | done | rfl) ?_; (with_reducible refine (gleemake_Stream_Interval.calls k g s0_0 t183 t184 t185 t186 t187 t188 w0 _ ?side1 ?side2 A18.out).mono ?_); (case side1 => repeat (first | (with_reducible first | exact HI0.out | apply IsS25.alloc | apply IsS25.drewN | apply IsS25.drew | apply IsS25.set_1 | refine IsS25.far ?_ NB0_174.out _ | refine IsS25.far ?_ NB0_181.out _) | exact HI0.out)); (case side2 => repeat (first | (with_reducible first | exact HB.out | apply qba | apply qbn | apply qb1 | refine qbs ?_ (IsS25.ge HI0.out) | refine qbs ?_ GE174.out | refine qbs ?_ GE181.out) | exact HB.out)); rintro e w34 ⟨rfl, hi, hb, hk⟩; refine ⟨_, rfl, ?_⟩; replace BK174 := Ad.mk (KeepBut.blk hk (g' := gb174) (o := .cells #[.int .i64 0, .int .i64 0] 30 (0, 0)) (by (with_reducible repeat (first | apply qkn | apply qkd | apply qka)); exact BK174.out) NB174_0.out (by simp)); replace HO177 := Ad.mk (Kd.R_mono (Kd.R_keep (IsS25.apart (show IsS25 w0 _ g s0_0 t183 from by repeat (first | (with_reducible first | exact HI0.out | apply IsS25.alloc | apply IsS25.drewN | apply IsS25.drew | apply IsS25.set_1 | refine IsS25.far ?_ NB0_174.out _ | refine IsS25.far ?_ NB0_181.out _) | exact HI0.out)) (by (with_reducible repeat (first | apply Kd.R_alloc | apply Kd.R_drewN | apply Kd.R_drew)); exact HO177.out) (by decide)) hk (fun _ h => h.2)) (fun _ h => h.1)); replace BK181 := Ad.mk (KeepBut.blk hk (g' := gb181) (o := .cells #[.int .i64 ((rd_T30 y175 t178).f0), .int .i64 ((rd_T30 y175 t178).f1)] 30 (0, 0)) (by (with_reducible repeat (first | apply qkn | apply qkd | apply qka)); exact BK181.out) NB181_0.out (by simp)); replace HK := Ad.mk (KeepBut.trans (by repeat (first | (with_reducible first | exact HK.out | apply KeepBut.set_ | apply keep_drewN | apply keep_drew | apply keep_alloc | refine keep_far ?_ GW174.out _ | refine keep_far ?_ GW181.out _) | exact HK.out)) hk (.inl rfl)); replace HB := Ad.mk (hb); replace HI0 := Ad.mk (hi); (try clear hb); (try clear hk); (try clear hi)) | ((with_reducible refine qgd (N := 4) rfl ?_); refine qbe ?hg (N := 4) ?hd (cs := #[.int .i64 0, .int .i64 0, .int .i64 0, .int .i64 0]) (t := 27) ?hr ?_; (case hd => rfl); (case hg => rfl); (case hr => first | (go_simp; done) | (go_simp; rfl)); intro gb189 hg w35 hbox hb; have BK189 := Ad.mk (hbox); have GW189 := Ad.mk ((by rw [hg]; exact (keep_size (w := w) (g := g) (row := none) (by repeat (first | (with_reducible first | exact HK.out | apply KeepBut.set_ | apply keep_drewN | apply keep_drew | apply keep_alloc | refine keep_far ?_ GW174.out _ | refine keep_far ?_ GW181.out _) | exact HK.out))) : w.heap.size ≤ gb189)); have GE189 := Ad.mk ((Nat.le_trans HW0.out (by rw [hg]; exact (keep_size (w := w) (g := g) (row := none) (by repeat (first | (with_reducible first | exact HK.out | apply KeepBut.set_ | apply keep_drewN | apply keep_drew | apply keep_alloc | refine keep_far ?_ GW174.out _ | refine keep_far ?_ GW181.out _) | exact HK.out))) : w.heap.size ≤ gb189) : w0.heap.size ≤ gb189)); have NB174_189 := Ad.mk ((by rw [hg]; exact Nat.ne_of_lt (qkl (g := gb174) (o := .cells #[.int .i64 0, .int .i64 0] 30 (0, 0)) (by (with_reducible repeat (first | apply qkn | apply qkd | apply qka)); exact BK174.out)) : gb174 ≠ gb189)); have NB189_174 := Ad.mk ((by rw [hg]; exact Nat.ne_of_gt (qkl (g := gb174) (o := .cells #[.int .i64 0, .int .i64 0] 30 (0, 0)) (by (with_reducible repeat (first | apply qkn | apply qkd | apply qka)); exact BK174.out)) : gb189 ≠ gb174)); have NB181_189 := Ad.mk ((by rw [hg]; exact Nat.ne_of_lt (qkl (g := gb181) (o := .cells #[.int .i64 ((rd_T30 y175 t178).f0), .int .i64 ((rd_T30 y175 t178).f1)] 30 (0, 0)) (by (with_reducible repeat (first | apply qkn | apply qkd | apply qka)); exact BK181.out)) : gb181 ≠ gb189)); have NB189_181 := Ad.mk ((by rw [hg]; exact Nat.ne_of_gt (qkl (g := gb181) (o := .cells #[.int .i64 ((rd_T30 y175 t178).f0), .int .i64 ((rd_T30 y175 t178).f1)] 30 (0, 0)) (by (with_reducible repeat (first | apply qkn | apply qkd | apply qka)); exact BK181.out)) : gb189 ≠ gb181)); have NB0_189 := Ad.mk ((by rw [hg]; exact Nat.ne_of_lt (IsS25.lt (show IsS25 w0 _ g s0_0 t188 from by repeat (first | (with_reducible first | exact HI0.out | apply IsS25.alloc | apply IsS25.drewN | apply IsS25.drew | apply IsS25.set_1 | refine IsS25.far ?_ NB0_174.out _ | refine IsS25.far ?_ NB0_181.out _) | exact HI0.out))) : g ≠ gb189)); have NB189_0 := Ad.mk ((by rw [hg]; exact Nat.ne_of_gt (IsS25.lt (show IsS25 w0 _ g s0_0 t188 from by repeat (first | (with_reducible first | exact HI0.out | apply IsS25.alloc | apply IsS25.drewN | apply IsS25.drew | apply IsS25.set_1 | refine IsS25.far ?_ NB0_174.out _ | refine IsS25.far ?_ NB0_181.out _) | exact HI0.out))) : gb189 ≠ g)); replace HO177 := Ad.mk (Kd.R_below (by (with_reducible repeat (first | apply Kd.R_alloc | apply Kd.R_drewN | apply Kd.R_drew)); exact HO177.out) hb); replace BK174 := Ad.mk (qkb (g := gb174) (o := .cells #[.int .i64 0, .int .i64 0] 30 (0, 0)) (by (with_reducible repeat (first | apply qkn | apply qkd | apply qka)); exact BK174.out) hb); replace BK181 := Ad.mk (qkb (g := gb181) (o := .cells #[.int .i64 ((rd_T30 y175 t178).f0), .int .i64 ((rd_T30 y175 t178).f1)] 30 (0, 0)) (by (with_reducible repeat (first | apply qkn | apply qkd | apply qka)); exact BK181.out) hb); replace HK := Ad.mk (KeepBut.trans (by repeat (first | (with_reducible first | exact HK.out | apply KeepBut.set_ | apply keep_drewN | apply keep_drew | apply keep_alloc | refine keep_far ?_ GW174.out _ | refine keep_far ?_ GW181.out _) | exact HK.out)) (KeepBut.of_below hb g none) (.inl rfl)); replace HB := Ad.mk (qbt (by repeat (first | (with_reducible first | exact HB.out | apply qba | apply qbn | apply qb1 | refine qbs ?_ (IsS25.ge HI0.out) | refine qbs ?_ GE174.out | refine qbs ?_ GE181.out) | exact HB.out)) hb); replace HI0 := Ad.mk (IsS25.below (by repeat (first | (with_reducible first | exact HI0.out | apply IsS25.alloc | apply IsS25.drewN | apply IsS25.drew | apply IsS25.set_1 | refine IsS25.far ?_ NB0_174.out _ | refine IsS25.far ?_ NB0_181.out _) | exact HI0.out)) hb); clear hb hbox hg; have hnb36 := NB189_174.out; have hnc36 := NB174_189.out; have hnb37 := NB189_181.out; have hnc37 := NB181_189.out; have hnb38 := NB189_0.out; have hnc38 := NB0_189.out; have hcz39_0 : w35.cell? ⟨gb189, 0, none⟩ = some (.int .i64 0) := (qkc BK189.out 0).trans rfl; have hcz39_1 : w35.cell? ⟨gb189, 1, none⟩ = some (.int .i64 0) := (qkc BK189.out 1).trans rfl; have hcz39_2 : w35.cell? ⟨gb189, 2, none⟩ = some (.int .i64 0) := (qkc BK189.out 2).trans rfl; have hcz39_3 : w35.cell? ⟨gb189, 3, none⟩ = some (.int .i64 0) := (qkc BK189.out 3).trans rfl; have hfz39_0 := qkz BK189.out 0; have hfz39_1 := qkz BK189.out 1; have hfz39_2 := qkz BK189.out 2; have hfz39_3 := qkz BK189.out 3) | ((with_reducible refine qgc (f := 14) rfl ?_); refine goesL_ (some 21) rfl rfl Tryd.func14 (by kernel_rfl) rfl #[.agg #[.int .i64 t184, .int .i64 t185, .int .i64 t186, .int .i64 t187]] rfl (by (try simp only [List.map_toArray, List.map_cons, List.map_nil]); first | done | rfl) ?_; (with_reducible refine (gleeref1_IntervalFault.calls k t184 t185 t186 t187 t190 _ A19.out).mono ?_); rintro e w40 ⟨rfl, hb⟩; refine ⟨_, rfl, ?_⟩; replace HO177 := Ad.mk (Kd.R_below (by (with_reducible repeat (first | apply Kd.R_alloc | apply Kd.R_drewN | apply Kd.R_drew)); exact (Kd.R_mono (Kd.R_far (p := ⟨gb189, 3, none⟩) (Kd.R_far (p := ⟨gb189, 2, none⟩) (Kd.R_far (p := ⟨gb189, 1, none⟩) (Kd.R_far (p := ⟨gb189, 0, none⟩) (Kd.R_types HO177.out BK189.out (by decide)) (fun _ hk => hk.2) (.int .i64 t184)) (fun _ hk => hk.2) (.int .i64 t185)) (fun _ hk => hk.2) (.int .i64 t186)) (fun _ hk => hk.2) (.int .i64 t187)) (fun _ h_ => h_.1))) hb); replace BK174 := Ad.mk (qkb (g := gb174) (o := .cells #[.int .i64 0, .int .i64 0] 30 (0, 0)) (by (with_reducible repeat (first | apply qkn | apply qkd | apply qka)); refine qkf ?_ NB174_189.out _; (with_reducible repeat (first | apply qkn | apply qkd | apply qka)); refine qkf ?_ NB174_189.out _; (with_reducible repeat (first | apply qkn | apply qkd | apply qka)); refine qkf ?_ NB174_189.out _; (with_reducible repeat (first | apply qkn | apply qkd | apply qka)); refine qkf ?_ NB174_189.out _; (with_reducible repeat (first | apply qkn | apply qkd | apply qka)); exact BK174.out) hb); replace BK181 := Ad.mk (qkb (g := gb181) (o := .cells #[.int .i64 ((rd_T30 y175 t178).f0), .int .i64 ((rd_T30 y175 t178).f1)] 30 (0, 0)) (by (with_reducible repeat (first | apply qkn | apply qkd | apply qka)); refine qkf ?_ NB181_189.out _; (with_reducible repeat (first | apply qkn | apply qkd | apply qka)); refine qkf ?_ NB181_189.out _; (with_reducible repeat (first | apply qkn | apply qkd | apply qka)); refine qkf ?_ NB181_189.out _; (with_reducible repeat (first | apply qkn | apply qkd | apply qka)); refine qkf ?_ NB181_189.out _; (with_reducible repeat (first | apply qkn | apply qkd | apply qka)); exact BK181.out) hb); replace BK189 := Ad.mk (qkb (g := gb189) (o := .cells #[.int .i64 t184, .int .i64 t185, .int .i64 t186, .int .i64 t187] 27 (0, 0)) (by (with_reducible repeat (first | apply qkn | apply qkd | apply qka)); refine qkp (cs := #[.int .i64 t184, .int .i64 t185, .int .i64 t186, .int .i64 0]) ?_ 3 _ rfl; (with_reducible repeat (first | apply qkn | apply qkd | apply qka)); refine qkp (cs := #[.int .i64 t184, .int .i64 t185, .int .i64 0, .int .i64 0]) ?_ 2 _ rfl; (with_reducible repeat (first | apply qkn | apply qkd | apply qka)); refine qkp (cs := #[.int .i64 t184, .int .i64 0, .int .i64 0, .int .i64 0]) ?_ 1 _ rfl; (with_reducible repeat (first | apply qkn | apply qkd | apply qka)); refine qkp (cs := #[.int .i64 0, .int .i64 0, .int .i64 0, .int .i64 0]) ?_ 0 _ rfl; (with_reducible repeat (first | apply qkn | apply qkd | apply qka)); exact BK189.out) hb); replace HK := Ad.mk (KeepBut.trans (by repeat (first | (with_reducible first | exact HK.out | apply KeepBut.set_ | apply keep_drewN | apply keep_drew | apply keep_alloc | refine keep_far ?_ GW174.out _ | refine keep_far ?_ GW181.out _ | refine keep_far ?_ GW189.out _) | exact HK.out)) (KeepBut.of_below hb g none) (.inl rfl)); replace HB := Ad.mk (qbt (by repeat (first | (with_reducible first | exact HB.out | apply qba | apply qbn | apply qb1 | refine qbs ?_ (IsS25.ge HI0.out) | refine qbs ?_ GE174.out | refine qbs ?_ GE181.out | refine qbs ?_ GE189.out) | exact HB.out)) hb); replace HI0 := Ad.mk (IsS25.below (show IsS25 w0 ((((w35.setCell ⟨gb189, 0, none⟩ (.int .i64 t184)).setCell ⟨gb189, 1, none⟩ (.int .i64 t185)).setCell ⟨gb189, 2, none⟩ (.int .i64 t186)).setCell ⟨gb189, 3, none⟩ (.int .i64 t187)) g s0_0 t188 from by repeat (first | (with_reducible first | exact HI0.out | apply IsS25.alloc | apply IsS25.drewN | apply IsS25.drew | apply IsS25.set_1 | refine IsS25.far ?_ NB0_174.out _ | refine IsS25.far ?_ NB0_181.out _ | refine IsS25.far ?_ NB0_189.out _) | exact HI0.out)) hb); (try clear hb); (try clear hk)))
      go_meet
      case rel => exact ⟨_, (t188), ((rd_T30 y175 t178).f0), ((rd_T30 y175 t178).f1), H', ⟨by first | omega | exact Nat.le_refl _⟩, ⟨by (with_reducible repeat (first | apply qkn | apply qkd | apply qka)); exact BK174.out⟩, ⟨by (with_reducible repeat (first | apply qkn | apply qkd | apply qka)); exact BK181.out⟩, ⟨by repeat (first | (with_reducible first | exact HI0.out | apply IsS25.alloc | apply IsS25.drewN | apply IsS25.drew | apply IsS25.set_1 | refine IsS25.far ?_ NB0_174.out _ | refine IsS25.far ?_ NB0_181.out _ | refine IsS25.far ?_ NB0_189.out _) | exact HI0.out)⟩, ⟨by repeat (first | (with_reducible first | exact HK.out | apply KeepBut.set_ | apply keep_drewN | apply keep_drew | apply keep_alloc | refine keep_far ?_ GW174.out _ | refine keep_far ?_ GW181.out _ | refine keep_far ?_ GW189.out _) | exact HK.out)⟩, ⟨by repeat (first | (with_reducible first | exact HB.out | apply qba | apply qbn | apply qb1 | refine qbs ?_ (IsS25.ge HI0.out) | refine qbs ?_ GE174.out | refine qbs ?_ GE181.out | refine qbs ?_ GE189.out) | exact HB.out)⟩⟩
    ·
     replace c17 := Bool.eq_false_iff.mpr c17
     subst c17
     have H1 : (gleemake_Stream_Quotient.j0 k s0_0 t183 ((rd_T30 y175 t178).f0) ((rd_T30 y175 t178).f1)) = some (r1, r2, r3) := by rw [if_neg (show ¬ (false = true) by decide)] at H; exact H
     clear H
     have H := H1
     clear H1
     have H' := Ad.mk H
     clear H
     go_wp2
     go_meet
     case rel => exact ⟨_, (t183), ((rd_T30 y175 t178).f0), ((rd_T30 y175 t178).f1), H', ⟨by first | omega | exact Nat.le_refl _⟩, ⟨by (with_reducible repeat (first | apply qkn | apply qkd | apply qka)); exact BK174.out⟩, ⟨by (with_reducible repeat (first | apply qkn | apply qkd | apply qka)); exact BK181.out⟩, ⟨by repeat (first | (with_reducible first | exact HI0.out | apply IsS25.alloc | apply IsS25.drewN | apply IsS25.drew | apply IsS25.set_1 | refine IsS25.far ?_ NB0_174.out _ | refine IsS25.far ?_ NB0_181.out _) | exact HI0.out)⟩, ⟨by repeat (first | (with_reducible first | exact HK.out | apply KeepBut.set_ | apply keep_drewN | apply keep_drew | apply keep_alloc | refine keep_far ?_ GW174.out _ | refine keep_far ?_ GW181.out _) | exact HK.out)⟩, ⟨by repeat (first | (with_reducible first | exact HB.out | apply qba | apply qbn | apply qb1 | refine qbs ?_ (IsS25.ge HI0.out) | refine qbs ?_ GE174.out | refine qbs ?_ GE181.out) | exact HB.out)⟩⟩
   case rest =>
    clear HC6
    try clear c1
    try clear p1
    try clear q1
    try clear hx1
    try clear c2
    try clear p2
    try clear c3
    try clear c3b0
    try clear c4
    try clear c4b0
    try clear c5
    try clear c12
    try clear c13
    try clear c14
    try clear c17
    try clear p18
    try clear q18
    try clear hx18
    try clear c20
    try clear c20b0
    try clear c20b1
    try clear c22
    try clear c24
    try clear c25
    try clear c26
    try clear c31
    try clear c32
    try clear c36
    try clear c37
    try clear c38
    try clear hcz15_0
    try clear hcz15_1
    try clear hcz27_0
    try clear hcz27_1
    try clear hcz27_2
    try clear hcz27_3
    try clear hcz29_0
    try clear hcz29_1
    try clear hcz29_2
    try clear hcz29_3
    try clear hcz33_0
    try clear hcz33_1
    try clear hcz39_0
    try clear hcz39_1
    try clear hcz39_2
    try clear hcz39_3
    try clear hfz15_0
    try clear hfz15_1
    try clear hfz27_0
    try clear hfz27_1
    try clear hfz27_2
    try clear hfz27_3
    try clear hfz29_0
    try clear hfz29_1
    try clear hfz29_2
    try clear hfz29_3
    try clear hfz33_0
    try clear hfz33_1
    try clear hfz39_0
    try clear hfz39_1
    try clear hfz39_2
    try clear hfz39_3
    try clear hx180_0
    try clear hx180_1
    try clear p180
    try clear q180
    obtain ⟨kq, x1001_5, x182000_5, x182001_5, HA, HJ5, BK174, BK181, HI0, HK, HB⟩ := hcut
    cases kq with
    | zero => exact absurd HA.out (by simp [gleemake_Stream_Quotient.j0])
    | succ kj5 =>
     have H := HA.out
     clear HA
     simp only [gleemake_Stream_Quotient.j0] at H
     replace H := Option.bind_eq_some_iff.mp H
     obtain ⟨⟨t193, t194⟩, A410, H⟩ := H
     replace H : (if t193 = true then ((some (([(⟨11, 10⟩ : S30), (⟨0, 1⟩ : S30), (⟨4, 2⟩ : S30), (⟨1, 0⟩ : S30), (⟨33554432, 1⟩ : S30), (⟨13, 13⟩ : S30), (⟨(-3), 2⟩ : S30)] : List (S30)) : List (S30))).bind fun y195 => ((gleemake_Stream_Next.f s0_0 t194 7).bind fun bt198 => (if 0 ≤ bt198.1 then (if bt198.1 < (y195.length : Int) then (some ((rd_T30 y195 bt198.1).f0, (rd_T30 y195 bt198.1).f1, bt198.2)) else (none)) else (none)))) else (some (x182000_5, x182001_5, t194))) = some (r1, r2, r3) := H
     have A41 := Ad.mk A410
     clear A410
     by_cases c42 : t193 = true
     ·
      subst c42
      have H1 : ((some (([(⟨11, 10⟩ : S30), (⟨0, 1⟩ : S30), (⟨4, 2⟩ : S30), (⟨1, 0⟩ : S30), (⟨33554432, 1⟩ : S30), (⟨13, 13⟩ : S30), (⟨(-3), 2⟩ : S30)] : List (S30)) : List (S30))).bind fun y195 => ((gleemake_Stream_Next.f s0_0 t194 7).bind fun bt198 => (if 0 ≤ bt198.1 then (if bt198.1 < (y195.length : Int) then (some ((rd_T30 y195 bt198.1).f0, (rd_T30 y195 bt198.1).f1, bt198.2)) else (none)) else (none)))) = some (r1, r2, r3) := by rw [if_pos rfl] at H; exact H
      clear H
      have H := H1
      clear H1
      obtain ⟨y195, hy195⟩ : ∃ y_ : List (S30), y_ = (([(⟨11, 10⟩ : S30), (⟨0, 1⟩ : S30), (⟨4, 2⟩ : S30), (⟨1, 0⟩ : S30), (⟨33554432, 1⟩ : S30), (⟨13, 13⟩ : S30), (⟨(-3), 2⟩ : S30)] : List (S30))) := ⟨_, rfl⟩
      replace H : ((gleemake_Stream_Next.f s0_0 t194 7).bind fun bt198 => (if 0 ≤ bt198.1 then (if bt198.1 < (y195.length : Int) then (some ((rd_T30 y195 bt198.1).f0, (rd_T30 y195 bt198.1).f1, bt198.2)) else (none)) else (none))) = some (r1, r2, r3) := by first | (rw [hy195]; with_reducible exact H) | (have H2_ := (Option.bind_some _ _).symm.trans H; rw [hy195]; with_reducible exact H2_) | (have H2_ := (Option.bind_some _ _).symm.trans H; with_reducible exact H2_) | with_reducible exact H | (rw [hy195]; exact H) | exact H
      have Ny195 := Ad.mk hy195
      clear hy195
      replace H := Option.bind_eq_some_iff.mp H
      obtain ⟨⟨t198, t199⟩, A430, H⟩ := H
      replace H : (if 0 ≤ t198 then (if t198 < (y195.length : Int) then (some ((rd_T30 y195 t198).f0, (rd_T30 y195 t198).f1, t199)) else (none)) else (none)) = some (r1, r2, r3) := H
      have A43 := Ad.mk A430
      clear A430
      by_cases c44 : 0 ≤ t198
      ·
       rw [if_pos c44] at H
       have c44b0 : decide (0 ≤ t198) = true := decide_eq_true c44
       clear c44
       by_cases c45 : t198 < (y195.length : Int)
       ·
        rw [if_pos c45] at H
        have c45b0 : decide (t198 < (y195.length : Int)) = true := decide_eq_true c45
        clear c45
        simp only [Option.some.injEq, Prod.mk.injEq] at H
        obtain ⟨rfl, rfl, rfl⟩ := H
        go_wp2_with (first | ((with_reducible refine qgc (f := 56) rfl ?_); refine goesL_ (some 26) rfl rfl Tryd.func56 (by kernel_rfl) rfl #[.pointer (some ⟨g, 0, none⟩), .int .i64 6] rfl (by (try simp only [List.map_toArray, List.map_cons, List.map_nil]); first | done | rfl) ?_; (with_reducible refine (gleemake_Stream_Flip.calls g s0_0 x1001_5 6 true t194 w0 _ ?side1 ?side2 A41.out).mono ?_); (case side1 => repeat (first | (with_reducible first | exact HI0.out | apply IsS25.alloc | apply IsS25.drewN | apply IsS25.drew | apply IsS25.set_1 | refine IsS25.far ?_ NB0_174.out _ | refine IsS25.far ?_ NB0_181.out _) | exact HI0.out)); (case side2 => repeat (first | (with_reducible first | exact HB.out | apply qba | apply qbn | apply qb1 | refine qbs ?_ (IsS25.ge HI0.out) | refine qbs ?_ GE174.out | refine qbs ?_ GE181.out) | exact HB.out)); rintro e w46 ⟨rfl, hi, hb, hk⟩; refine ⟨_, rfl, ?_⟩; replace BK174 := Ad.mk (KeepBut.blk hk (g' := gb174) (o := .cells #[.int .i64 0, .int .i64 0] 30 (0, 0)) (by (with_reducible repeat (first | apply qkn | apply qkd | apply qka)); exact BK174.out) NB174_0.out (by simp)); replace BK181 := Ad.mk (KeepBut.blk hk (g' := gb181) (o := .cells #[.int .i64 x182000_5, .int .i64 x182001_5] 30 (0, 0)) (by (with_reducible repeat (first | apply qkn | apply qkd | apply qka)); exact BK181.out) NB181_0.out (by simp)); replace HK := Ad.mk (KeepBut.trans (by repeat (first | (with_reducible first | exact HK.out | apply KeepBut.set_ | apply keep_drewN | apply keep_drew | apply keep_alloc | refine keep_far ?_ GW174.out _ | refine keep_far ?_ GW181.out _) | exact HK.out)) hk (.inl rfl)); replace HB := Ad.mk (hb); replace HI0 := Ad.mk (hi); (try clear hb); (try clear hk); (try clear hi)) | ((with_reducible refine qgd (N := 34) rfl ?_); refine Kd.R_lit k30 _ 30 ?hg (N := 34) ?hd (xs := ([(⟨11, 10⟩ : S30), (⟨0, 1⟩ : S30), (⟨4, 2⟩ : S30), (⟨1, 0⟩ : S30), (⟨33554432, 1⟩ : S30), (⟨13, 13⟩ : S30), (⟨(-3), 2⟩ : S30)] : List (S30))) (inner := [.int .i64 11, .int .i64 10, .int .i64 0, .int .i64 1, .int .i64 4, .int .i64 2, .int .i64 1, .int .i64 0, .int .i64 33554432, .int .i64 1, .int .i64 13, .int .i64 13, .int .i64 (-3), .int .i64 2]) (ok := fun _ => True) (okp := fun _ => True) ?hr ?hp (fun _ hk => hk) trivial (Below.refl _ _) (Nat.le_refl _) (by simp) ?_; (case hd => rfl); (case hg => rfl); (case hr => first | (go_simp; done) | (go_simp; rfl)); (case hp => exact (Reps.c2 (show Kd.M k30 _ _ _ (⟨11, 10⟩ : S30) [.int .i64 11, .int .i64 10] from (k30_mkM _ _ _ (⟨11, 10⟩ : S30) )) (Reps.c2 (show Kd.M k30 _ _ _ (⟨0, 1⟩ : S30) [.int .i64 0, .int .i64 1] from (k30_mkM _ _ _ (⟨0, 1⟩ : S30) )) (Reps.c2 (show Kd.M k30 _ _ _ (⟨4, 2⟩ : S30) [.int .i64 4, .int .i64 2] from (k30_mkM _ _ _ (⟨4, 2⟩ : S30) )) (Reps.c2 (show Kd.M k30 _ _ _ (⟨1, 0⟩ : S30) [.int .i64 1, .int .i64 0] from (k30_mkM _ _ _ (⟨1, 0⟩ : S30) )) (Reps.c2 (show Kd.M k30 _ _ _ (⟨33554432, 1⟩ : S30) [.int .i64 33554432, .int .i64 1] from (k30_mkM _ _ _ (⟨33554432, 1⟩ : S30) )) (Reps.c2 (show Kd.M k30 _ _ _ (⟨13, 13⟩ : S30) [.int .i64 13, .int .i64 13] from (k30_mkM _ _ _ (⟨13, 13⟩ : S30) )) (Reps.c2 (show Kd.M k30 _ _ _ (⟨(-3), 2⟩ : S30) [.int .i64 (-3), .int .i64 2] from (k30_mkM _ _ _ (⟨(-3), 2⟩ : S30) )) (Reps.none _ _))))))))); intro v196 w47 ho48 hb hg_ hnew_; clear hg_ hnew_; (first | rw [← Ny195.out] at ho48 | (simp only [Int.reduceToNat] at ho48; rw [← Ny195.out] at ho48)); have HO197 := Ad.mk (Kd.R_lower (Kd.R_newB (Kd.R_newB ho48 (g := gb174) (o := .cells #[.int .i64 0, .int .i64 0] 30 (0, 0)) (by (with_reducible repeat (first | apply qkn | apply qkd | apply qka)); exact BK174.out)) (g := gb181) (o := .cells #[.int .i64 x182000_5, .int .i64 x182001_5] 30 (0, 0)) (by (with_reducible repeat (first | apply qkn | apply qkd | apply qka)); exact BK181.out)) (keep_size (w := w) (g := g) (row := none) (by repeat (first | (with_reducible first | exact HK.out | apply KeepBut.set_ | apply keep_drewN | apply keep_drew | apply keep_alloc | refine keep_far ?_ GW174.out _ | refine keep_far ?_ GW181.out _) | exact HK.out)))); replace BK174 := Ad.mk (qkb (g := gb174) (o := .cells #[.int .i64 0, .int .i64 0] 30 (0, 0)) (by (with_reducible repeat (first | apply qkn | apply qkd | apply qka)); exact BK174.out) hb); replace BK181 := Ad.mk (qkb (g := gb181) (o := .cells #[.int .i64 x182000_5, .int .i64 x182001_5] 30 (0, 0)) (by (with_reducible repeat (first | apply qkn | apply qkd | apply qka)); exact BK181.out) hb); replace HK := Ad.mk (KeepBut.trans (by repeat (first | (with_reducible first | exact HK.out | apply KeepBut.set_ | apply keep_drewN | apply keep_drew | apply keep_alloc | refine keep_far ?_ GW174.out _ | refine keep_far ?_ GW181.out _) | exact HK.out)) (KeepBut.of_below hb g none) (.inl rfl)); replace HB := Ad.mk (qbt (by repeat (first | (with_reducible first | exact HB.out | apply qba | apply qbn | apply qb1 | refine qbs ?_ (IsS25.ge HI0.out) | refine qbs ?_ GE174.out | refine qbs ?_ GE181.out) | exact HB.out)) hb); replace HI0 := Ad.mk (IsS25.below (by repeat (first | (with_reducible first | exact HI0.out | apply IsS25.alloc | apply IsS25.drewN | apply IsS25.drew | apply IsS25.set_1 | refine IsS25.far ?_ NB0_174.out _ | refine IsS25.far ?_ NB0_181.out _) | exact HI0.out)) hb); clear hb ho48) | ((with_reducible refine qgc (f := 58) rfl ?_); refine goesL_ (some 36) rfl rfl Tryd.func58 (by kernel_rfl) rfl #[.pointer (some ⟨g, 0, none⟩), .int .i64 7] rfl (by (try simp only [List.map_toArray, List.map_cons, List.map_nil]); first | done | rfl) ?_; (with_reducible refine (gleemake_Stream_Next.calls g s0_0 t194 7 t198 t199 w0 _ ?side1 ?side2 A43.out).mono ?_); (case side1 => repeat (first | (with_reducible first | exact HI0.out | apply IsS25.alloc | apply IsS25.drewN | apply IsS25.drew | apply IsS25.set_1 | refine IsS25.far ?_ NB0_174.out _ | refine IsS25.far ?_ NB0_181.out _) | exact HI0.out)); (case side2 => repeat (first | (with_reducible first | exact HB.out | apply qba | apply qbn | apply qb1 | refine qbs ?_ (IsS25.ge HI0.out) | refine qbs ?_ GE174.out | refine qbs ?_ GE181.out) | exact HB.out)); rintro e w49 ⟨rfl, hi, hb, hk⟩; refine ⟨_, rfl, ?_⟩; replace BK174 := Ad.mk (KeepBut.blk hk (g' := gb174) (o := .cells #[.int .i64 0, .int .i64 0] 30 (0, 0)) (by (with_reducible repeat (first | apply qkn | apply qkd | apply qka)); exact BK174.out) NB174_0.out (by simp)); replace BK181 := Ad.mk (KeepBut.blk hk (g' := gb181) (o := .cells #[.int .i64 x182000_5, .int .i64 x182001_5] 30 (0, 0)) (by (with_reducible repeat (first | apply qkn | apply qkd | apply qka)); exact BK181.out) NB181_0.out (by simp)); replace HO197 := Ad.mk (Kd.R_mono (Kd.R_keep (IsS25.apart (show IsS25 w0 _ g s0_0 t194 from by repeat (first | (with_reducible first | exact HI0.out | apply IsS25.alloc | apply IsS25.drewN | apply IsS25.drew | apply IsS25.set_1 | refine IsS25.far ?_ NB0_174.out _ | refine IsS25.far ?_ NB0_181.out _) | exact HI0.out)) (by (with_reducible repeat (first | apply Kd.R_alloc | apply Kd.R_drewN | apply Kd.R_drew)); exact HO197.out) (by decide)) hk (fun _ h => h.2)) (fun _ h => h.1)); replace HK := Ad.mk (KeepBut.trans (by repeat (first | (with_reducible first | exact HK.out | apply KeepBut.set_ | apply keep_drewN | apply keep_drew | apply keep_alloc | refine keep_far ?_ GW174.out _ | refine keep_far ?_ GW181.out _) | exact HK.out)) hk (.inl rfl)); replace HB := Ad.mk (hb); replace HI0 := Ad.mk (hi); (try clear hb); (try clear hk); (try clear hi); obtain ⟨Ao50, co50, eo50⟩ := Kd.R_slice HO197.out; subst eo50; have p200 : 0 ≤ (t198 : Int) := of_decide_eq_true (by first | (with_reducible assumption) | assumption); have q200 : t198 < (y195.length : Int) := of_decide_eq_true (by first | (with_reducible assumption) | assumption); obtain ⟨ad200, e200, hx200_0, hx200_1⟩ := at_T30 (Kd.R_reads' HO197.out).2.2 t198 p200 q200; cases e200; replace p200 := eq_true p200; replace q200 := eq_true q200; have hnb51 := NB181_174.out; have hnc51 := NB174_181.out; have hnb52 := NB181_0.out; have hnc52 := NB0_181.out; have hcz53_0 : w49.cell? ⟨gb181, 0, none⟩ = some (.int .i64 x182000_5) := (qkc BK181.out 0).trans rfl; have hcz53_1 : w49.cell? ⟨gb181, 1, none⟩ = some (.int .i64 x182001_5) := (qkc BK181.out 1).trans rfl; have hfz53_0 := qkz BK181.out 0; have hfz53_1 := qkz BK181.out 1; have hnb54 := NB174_0.out; have hnc54 := NB0_174.out; have hcz55_0 : w49.cell? ⟨gb174, 0, none⟩ = some (.int .i64 0) := (qkc BK174.out 0).trans rfl; have hcz55_1 : w49.cell? ⟨gb174, 1, none⟩ = some (.int .i64 0) := (qkc BK174.out 1).trans rfl; have hfz55_0 := qkz BK174.out 0; have hfz55_1 := qkz BK174.out 1))
        refine bodyPost_ret (results_cell_row rfl _ _ gb174 30 #[.int .i64 ((rd_T30 y195 t198).f0), .int .i64 ((rd_T30 y195 t198).f1)] (0, 0) _ rfl (by (with_reducible repeat (first | apply qkn | apply qkd | apply qka)); refine qkp (cs := #[.int .i64 ((rd_T30 y195 t198).f0), .int .i64 0]) ?_ 1 _ rfl; (with_reducible repeat (first | apply qkn | apply qkd | apply qka)); refine qkp (cs := #[.int .i64 0, .int .i64 0]) ?_ 0 _ rfl; (with_reducible repeat (first | apply qkn | apply qkd | apply qka)); refine qkf ?_ NB174_181.out _; (with_reducible repeat (first | apply qkn | apply qkd | apply qka)); refine qkf ?_ NB174_181.out _; (with_reducible repeat (first | apply qkn | apply qkd | apply qka)); exact BK174.out) Tryd.underlying30 rfl (by kernel_rfl)) rfl ?_
        exact ⟨by first | rfl | (simp [errW_none, errW_some] <;> rfl) | (simp [*, errW_none, errW_some] <;> rfl), by repeat (first | (with_reducible first | exact HI0.out | apply IsS25.alloc | apply IsS25.drewN | apply IsS25.drew | apply IsS25.set_1 | refine IsS25.far ?_ NB0_174.out _ | refine IsS25.far ?_ NB0_181.out _) | exact HI0.out), by repeat (first | (with_reducible first | exact HB.out | apply qba | apply qbn | apply qb1 | refine qbs ?_ (IsS25.ge HI0.out) | refine qbs ?_ GE174.out | refine qbs ?_ GE181.out) | exact HB.out), by repeat (first | (with_reducible first | exact HK.out | apply KeepBut.set_ | apply keep_drewN | apply keep_drew | apply keep_alloc | refine keep_far ?_ GW174.out _ | refine keep_far ?_ GW181.out _) | exact HK.out)⟩
       ·
        rw [if_neg c45] at H
        exact absurd H (by simp)
      ·
       rw [if_neg c44] at H
       exact absurd H (by simp)
     ·
      replace c42 := Bool.eq_false_iff.mpr c42
      subst c42
      have H1 : (some (x182000_5, x182001_5, t194)) = some (r1, r2, r3) := by rw [if_neg (show ¬ (false = true) by decide)] at H; exact H
      clear H
      have H := H1
      clear H1
      simp only [Option.some.injEq, Prod.mk.injEq] at H
      obtain ⟨rfl, rfl, rfl⟩ := H
      go_wp2_with (first | ((with_reducible refine qgc (f := 56) rfl ?_); refine goesL_ (some 26) rfl rfl Tryd.func56 (by kernel_rfl) rfl #[.pointer (some ⟨g, 0, none⟩), .int .i64 6] rfl (by (try simp only [List.map_toArray, List.map_cons, List.map_nil]); first | done | rfl) ?_; (with_reducible refine (gleemake_Stream_Flip.calls g s0_0 x1001_5 6 false t194 w0 _ ?side1 ?side2 A41.out).mono ?_); (case side1 => repeat (first | (with_reducible first | exact HI0.out | apply IsS25.alloc | apply IsS25.drewN | apply IsS25.drew | apply IsS25.set_1 | refine IsS25.far ?_ NB0_174.out _ | refine IsS25.far ?_ NB0_181.out _) | exact HI0.out)); (case side2 => repeat (first | (with_reducible first | exact HB.out | apply qba | apply qbn | apply qb1 | refine qbs ?_ (IsS25.ge HI0.out) | refine qbs ?_ GE174.out | refine qbs ?_ GE181.out) | exact HB.out)); rintro e w56 ⟨rfl, hi, hb, hk⟩; refine ⟨_, rfl, ?_⟩; replace BK174 := Ad.mk (KeepBut.blk hk (g' := gb174) (o := .cells #[.int .i64 0, .int .i64 0] 30 (0, 0)) (by (with_reducible repeat (first | apply qkn | apply qkd | apply qka)); exact BK174.out) NB174_0.out (by simp)); replace BK181 := Ad.mk (KeepBut.blk hk (g' := gb181) (o := .cells #[.int .i64 x182000_5, .int .i64 x182001_5] 30 (0, 0)) (by (with_reducible repeat (first | apply qkn | apply qkd | apply qka)); exact BK181.out) NB181_0.out (by simp)); replace HK := Ad.mk (KeepBut.trans (by repeat (first | (with_reducible first | exact HK.out | apply KeepBut.set_ | apply keep_drewN | apply keep_drew | apply keep_alloc | refine keep_far ?_ GW174.out _ | refine keep_far ?_ GW181.out _) | exact HK.out)) hk (.inl rfl)); replace HB := Ad.mk (hb); replace HI0 := Ad.mk (hi); (try clear hb); (try clear hk); (try clear hi); have hnb57 := NB181_174.out; have hnc57 := NB174_181.out; have hnb58 := NB181_0.out; have hnc58 := NB0_181.out; have hcz59_0 : w56.cell? ⟨gb181, 0, none⟩ = some (.int .i64 x182000_5) := (qkc BK181.out 0).trans rfl; have hcz59_1 : w56.cell? ⟨gb181, 1, none⟩ = some (.int .i64 x182001_5) := (qkc BK181.out 1).trans rfl; have hfz59_0 := qkz BK181.out 0; have hfz59_1 := qkz BK181.out 1; have hnb60 := NB174_0.out; have hnc60 := NB0_174.out; have hcz61_0 : w56.cell? ⟨gb174, 0, none⟩ = some (.int .i64 0) := (qkc BK174.out 0).trans rfl; have hcz61_1 : w56.cell? ⟨gb174, 1, none⟩ = some (.int .i64 0) := (qkc BK174.out 1).trans rfl; have hfz61_0 := qkz BK174.out 0; have hfz61_1 := qkz BK174.out 1))
      refine bodyPost_ret (results_cell_row rfl _ _ gb174 30 #[.int .i64 x182000_5, .int .i64 x182001_5] (0, 0) _ rfl (by (with_reducible repeat (first | apply qkn | apply qkd | apply qka)); refine qkp (cs := #[.int .i64 x182000_5, .int .i64 0]) ?_ 1 _ rfl; (with_reducible repeat (first | apply qkn | apply qkd | apply qka)); refine qkp (cs := #[.int .i64 0, .int .i64 0]) ?_ 0 _ rfl; (with_reducible repeat (first | apply qkn | apply qkd | apply qka)); exact BK174.out) Tryd.underlying30 rfl (by kernel_rfl)) rfl ?_
      exact ⟨by first | rfl | (simp [errW_none, errW_some] <;> rfl) | (simp [*, errW_none, errW_some] <;> rfl), by repeat (first | (with_reducible first | exact HI0.out | apply IsS25.alloc | apply IsS25.drewN | apply IsS25.drew | apply IsS25.set_1 | refine IsS25.far ?_ NB0_174.out _ | refine IsS25.far ?_ NB0_181.out _) | exact HI0.out), by repeat (first | (with_reducible first | exact HB.out | apply qba | apply qbn | apply qb1 | refine qbs ?_ (IsS25.ge HI0.out) | refine qbs ?_ GE174.out | refine qbs ?_ GE181.out) | exact HB.out), by repeat (first | (with_reducible first | exact HK.out | apply KeepBut.set_ | apply keep_drewN | apply keep_drew | apply keep_alloc | refine keep_far ?_ GW174.out _ | refine keep_far ?_ GW181.out _) | exact HK.out)⟩
  ·
   rw [if_neg c4] at H
   exact absurd H (by simp)
 ·
  rw [if_neg c3] at H
  exact absurd H (by simp)

/-! ### kit_Outside: function 74 -/
def kit_Outside.f (a0 : Int) (a1 : Int) (a2 : Int) : Option (Bool) := if a0 < a1 then (some true) else (some (decide (a0 > a2)))
set_option maxHeartbeats 8000000 in
set_option maxRecDepth 100000 in
theorem kit_Outside.calls (a0 : Int) (a1 : Int) (a2 : Int) (r : Bool) (w : World) (h : kit_Outside.f a0 a1 a2 = some r) :
  Calls Tryd.prog 74 #[.int .i64 a0, .int .i64 a1, .int .i64 a2] w fun e w' => e = .returned (.bool r) ∧ Drawn0 w w' := by
 have H : (if a0 < a1 then (some true) else (some (decide (a0 > a2)))) = some r := h
 clear h
 by_cases c4 : a0 < a1
 ·
  rw [if_pos c4] at H
  have c4b0 : decide (a0 < a1) = true := decide_eq_true c4
  clear c4
  obtain rfl := Option.some.inj H
  go_enter Tryd.func74, Tryd.ntmps74
  go_wp2
  go_ret
  exact ⟨by first | rfl | (simp; done) | (simp [*]; done), by repeat (first | exact Drawn0.refl _ | apply Drawn0.step)⟩
 ·
  rw [if_neg c4] at H
  have c4b0 : decide (a0 < a1) = false := decide_eq_false c4
  clear c4
  obtain rfl := Option.some.inj H
  go_enter Tryd.func74, Tryd.ntmps74
  go_wp2
  go_ret
  exact ⟨by first | rfl | (simp; done) | (simp [*]; done), by repeat (first | exact Drawn0.refl _ | apply Drawn0.step)⟩

/-! ### tune_CheckInterval: function 16 -/
def tune_CheckInterval.f (a0_0 : Int) (a0_1 : Int) (a0_2 : Int) (a0_3 : Int) : Option (Int) := (kit_Outside.f a0_0 (-24) 24).bind fun t202 => (if t202 = true then (some 1) else ((kit_Outside.f a0_1 (-10) 10).bind fun t203 => (if t203 = true then (some 1) else ((kit_Outside.f a0_2 (-5) 5).bind fun t204 => (if t204 = true then (some 1) else ((kit_Outside.f a0_3 (-3) 3).bind fun t205 => (if t205 = true then (some 1) else (some 0))))))))
set_option maxHeartbeats 8000000 in
set_option maxRecDepth 100000 in
theorem tune_CheckInterval.calls (a0_0 : Int) (a0_1 : Int) (a0_2 : Int) (a0_3 : Int) (r : Int) (w : World) (h : tune_CheckInterval.f a0_0 a0_1 a0_2 a0_3 = some r) :
  Calls Tryd.prog 16 #[.agg #[.int .i64 a0_0, .int .i64 a0_1, .int .i64 a0_2, .int .i64 a0_3]] w fun e w' => e = .returned (.int .i64 r) ∧ Below w.heap.size w w' := by
 have hu27 := Tryd.underlying27
 have HB := Ad.mk (Below.refl w.heap.size w)
 have H : ((kit_Outside.f a0_0 (-24) 24).bind fun t202 => (if t202 = true then (some 1) else ((kit_Outside.f a0_1 (-10) 10).bind fun t203 => (if t203 = true then (some 1) else ((kit_Outside.f a0_2 (-5) 5).bind fun t204 => (if t204 = true then (some 1) else ((kit_Outside.f a0_3 (-3) 3).bind fun t205 => (if t205 = true then (some 1) else (some 0))))))))) = some r := h
 clear h
 replace H := Option.bind_eq_some_iff.mp H
 obtain ⟨t202, A20, H⟩ := H
 replace H : (if t202 = true then (some 1) else ((kit_Outside.f a0_1 (-10) 10).bind fun t203 => (if t203 = true then (some 1) else ((kit_Outside.f a0_2 (-5) 5).bind fun t204 => (if t204 = true then (some 1) else ((kit_Outside.f a0_3 (-3) 3).bind fun t205 => (if t205 = true then (some 1) else (some 0)))))))) = some r := H
 have A2 := Ad.mk A20
 clear A20
 by_cases c3 : t202 = true
 ·
  subst c3
  have H1 : (some 1) = some r := by rw [if_pos rfl] at H; exact H
  clear H
  have H := H1
  clear H1
  obtain rfl := Option.some.inj H
  go_enter Tryd.func16, Tryd.ntmps16
  go_wp2_with (first | ((with_reducible refine qgd (N := 1) rfl ?_); refine qbe ?hg (N := 1) ?hd (cs := #[.int .i64 a0_0, .int .i64 a0_1, .int .i64 a0_2, .int .i64 a0_3]) (t := 27) ?hr ?_; (case hd => rfl); (case hg => rfl); (case hr => first | (go_simp; done) | (go_simp; rfl)); intro gb201 hg w4 hbox hb; have BK201 := Ad.mk (hbox); have GW201 := Ad.mk ((by rw [hg]; exact (qbz (by repeat (first | (with_reducible first | exact HB.out | apply qba | apply qbn | apply qb1) | exact HB.out))) : w.heap.size ≤ gb201)); have GE201 := Ad.mk ((by rw [hg]; exact (qbz (by repeat (first | (with_reducible first | exact HB.out | apply qba | apply qbn | apply qb1) | exact HB.out))) : w.heap.size ≤ gb201)); replace HB := Ad.mk (qbt (by repeat (first | (with_reducible first | exact HB.out | apply qba | apply qbn | apply qb1) | exact HB.out)) hb); clear hb hbox hg; have hcz5_0 : w4.cell? ⟨gb201, 0, none⟩ = some (.int .i64 a0_0) := (qkc BK201.out 0).trans rfl; have hcz5_1 : w4.cell? ⟨gb201, 1, none⟩ = some (.int .i64 a0_1) := (qkc BK201.out 1).trans rfl; have hcz5_2 : w4.cell? ⟨gb201, 2, none⟩ = some (.int .i64 a0_2) := (qkc BK201.out 2).trans rfl; have hcz5_3 : w4.cell? ⟨gb201, 3, none⟩ = some (.int .i64 a0_3) := (qkc BK201.out 3).trans rfl; have hfz5_0 := qkz BK201.out 0; have hfz5_1 := qkz BK201.out 1; have hfz5_2 := qkz BK201.out 2; have hfz5_3 := qkz BK201.out 3) | ((with_reducible refine qgc (f := 74) rfl ?_); refine goesL_ (some 5) rfl rfl Tryd.func74 (by kernel_rfl) rfl #[.int .i64 a0_0, .int .i64 (-24), .int .i64 24] rfl (by (try simp only [List.map_toArray, List.map_cons, List.map_nil]); first | done | rfl) ?_; (with_reducible refine (kit_Outside.calls a0_0 (-24) 24 true _ A2.out).mono ?_); rintro e w' ⟨rfl, ⟨nd, rfl⟩⟩; refine ⟨_, rfl, ?_⟩))
  go_ret
  exact ⟨by first | rfl | (simp [errW_none, errW_some] <;> rfl) | (simp [*, errW_none, errW_some] <;> rfl), by repeat (first | (with_reducible first | exact HB.out | apply qba | apply qbn | apply qb1 | refine qbs ?_ GE201.out) | exact HB.out)⟩
 ·
  replace c3 := Bool.eq_false_iff.mpr c3
  subst c3
  have H1 : ((kit_Outside.f a0_1 (-10) 10).bind fun t203 => (if t203 = true then (some 1) else ((kit_Outside.f a0_2 (-5) 5).bind fun t204 => (if t204 = true then (some 1) else ((kit_Outside.f a0_3 (-3) 3).bind fun t205 => (if t205 = true then (some 1) else (some 0))))))) = some r := by rw [if_neg (show ¬ (false = true) by decide)] at H; exact H
  clear H
  have H := H1
  clear H1
  replace H := Option.bind_eq_some_iff.mp H
  obtain ⟨t203, A60, H⟩ := H
  replace H : (if t203 = true then (some 1) else ((kit_Outside.f a0_2 (-5) 5).bind fun t204 => (if t204 = true then (some 1) else ((kit_Outside.f a0_3 (-3) 3).bind fun t205 => (if t205 = true then (some 1) else (some 0)))))) = some r := H
  have A6 := Ad.mk A60
  clear A60
  by_cases c7 : t203 = true
  ·
   subst c7
   have H1 : (some 1) = some r := by rw [if_pos rfl] at H; exact H
   clear H
   have H := H1
   clear H1
   obtain rfl := Option.some.inj H
   go_enter Tryd.func16, Tryd.ntmps16
   go_wp2_with (first | ((with_reducible refine qgd (N := 1) rfl ?_); refine qbe ?hg (N := 1) ?hd (cs := #[.int .i64 a0_0, .int .i64 a0_1, .int .i64 a0_2, .int .i64 a0_3]) (t := 27) ?hr ?_; (case hd => rfl); (case hg => rfl); (case hr => first | (go_simp; done) | (go_simp; rfl)); intro gb201 hg w8 hbox hb; have BK201 := Ad.mk (hbox); have GW201 := Ad.mk ((by rw [hg]; exact (qbz (by repeat (first | (with_reducible first | exact HB.out | apply qba | apply qbn | apply qb1) | exact HB.out))) : w.heap.size ≤ gb201)); have GE201 := Ad.mk ((by rw [hg]; exact (qbz (by repeat (first | (with_reducible first | exact HB.out | apply qba | apply qbn | apply qb1) | exact HB.out))) : w.heap.size ≤ gb201)); replace HB := Ad.mk (qbt (by repeat (first | (with_reducible first | exact HB.out | apply qba | apply qbn | apply qb1) | exact HB.out)) hb); clear hb hbox hg; have hcz9_0 : w8.cell? ⟨gb201, 0, none⟩ = some (.int .i64 a0_0) := (qkc BK201.out 0).trans rfl; have hcz9_1 : w8.cell? ⟨gb201, 1, none⟩ = some (.int .i64 a0_1) := (qkc BK201.out 1).trans rfl; have hcz9_2 : w8.cell? ⟨gb201, 2, none⟩ = some (.int .i64 a0_2) := (qkc BK201.out 2).trans rfl; have hcz9_3 : w8.cell? ⟨gb201, 3, none⟩ = some (.int .i64 a0_3) := (qkc BK201.out 3).trans rfl; have hfz9_0 := qkz BK201.out 0; have hfz9_1 := qkz BK201.out 1; have hfz9_2 := qkz BK201.out 2; have hfz9_3 := qkz BK201.out 3) | ((with_reducible refine qgc (f := 74) rfl ?_); refine goesL_ (some 5) rfl rfl Tryd.func74 (by kernel_rfl) rfl #[.int .i64 a0_0, .int .i64 (-24), .int .i64 24] rfl (by (try simp only [List.map_toArray, List.map_cons, List.map_nil]); first | done | rfl) ?_; (with_reducible refine (kit_Outside.calls a0_0 (-24) 24 false _ A2.out).mono ?_); rintro e w' ⟨rfl, ⟨nd, rfl⟩⟩; refine ⟨_, rfl, ?_⟩) | (go_at_call 74; (with_reducible refine (kit_Outside.calls a0_1 (-10) 10 true _ A6.out).mono ?_); rintro e w' ⟨rfl, ⟨nd, rfl⟩⟩))
   go_ret
   exact ⟨by first | rfl | (simp [errW_none, errW_some] <;> rfl) | (simp [*, errW_none, errW_some] <;> rfl), by repeat (first | (with_reducible first | exact HB.out | apply qba | apply qbn | apply qb1 | refine qbs ?_ GE201.out) | exact HB.out)⟩
  ·
   replace c7 := Bool.eq_false_iff.mpr c7
   subst c7
   have H1 : ((kit_Outside.f a0_2 (-5) 5).bind fun t204 => (if t204 = true then (some 1) else ((kit_Outside.f a0_3 (-3) 3).bind fun t205 => (if t205 = true then (some 1) else (some 0))))) = some r := by rw [if_neg (show ¬ (false = true) by decide)] at H; exact H
   clear H
   have H := H1
   clear H1
   replace H := Option.bind_eq_some_iff.mp H
   obtain ⟨t204, A100, H⟩ := H
   replace H : (if t204 = true then (some 1) else ((kit_Outside.f a0_3 (-3) 3).bind fun t205 => (if t205 = true then (some 1) else (some 0)))) = some r := H
   have A10 := Ad.mk A100
   clear A100
   by_cases c11 : t204 = true
   ·
    subst c11
    have H1 : (some 1) = some r := by rw [if_pos rfl] at H; exact H
    clear H
    have H := H1
    clear H1
    obtain rfl := Option.some.inj H
    go_enter Tryd.func16, Tryd.ntmps16
    go_wp2_with (first | ((with_reducible refine qgd (N := 1) rfl ?_); refine qbe ?hg (N := 1) ?hd (cs := #[.int .i64 a0_0, .int .i64 a0_1, .int .i64 a0_2, .int .i64 a0_3]) (t := 27) ?hr ?_; (case hd => rfl); (case hg => rfl); (case hr => first | (go_simp; done) | (go_simp; rfl)); intro gb201 hg w12 hbox hb; have BK201 := Ad.mk (hbox); have GW201 := Ad.mk ((by rw [hg]; exact (qbz (by repeat (first | (with_reducible first | exact HB.out | apply qba | apply qbn | apply qb1) | exact HB.out))) : w.heap.size ≤ gb201)); have GE201 := Ad.mk ((by rw [hg]; exact (qbz (by repeat (first | (with_reducible first | exact HB.out | apply qba | apply qbn | apply qb1) | exact HB.out))) : w.heap.size ≤ gb201)); replace HB := Ad.mk (qbt (by repeat (first | (with_reducible first | exact HB.out | apply qba | apply qbn | apply qb1) | exact HB.out)) hb); clear hb hbox hg; have hcz13_0 : w12.cell? ⟨gb201, 0, none⟩ = some (.int .i64 a0_0) := (qkc BK201.out 0).trans rfl; have hcz13_1 : w12.cell? ⟨gb201, 1, none⟩ = some (.int .i64 a0_1) := (qkc BK201.out 1).trans rfl; have hcz13_2 : w12.cell? ⟨gb201, 2, none⟩ = some (.int .i64 a0_2) := (qkc BK201.out 2).trans rfl; have hcz13_3 : w12.cell? ⟨gb201, 3, none⟩ = some (.int .i64 a0_3) := (qkc BK201.out 3).trans rfl; have hfz13_0 := qkz BK201.out 0; have hfz13_1 := qkz BK201.out 1; have hfz13_2 := qkz BK201.out 2; have hfz13_3 := qkz BK201.out 3) | ((with_reducible refine qgc (f := 74) rfl ?_); refine goesL_ (some 5) rfl rfl Tryd.func74 (by kernel_rfl) rfl #[.int .i64 a0_0, .int .i64 (-24), .int .i64 24] rfl (by (try simp only [List.map_toArray, List.map_cons, List.map_nil]); first | done | rfl) ?_; (with_reducible refine (kit_Outside.calls a0_0 (-24) 24 false _ A2.out).mono ?_); rintro e w' ⟨rfl, ⟨nd, rfl⟩⟩; refine ⟨_, rfl, ?_⟩) | (go_at_call 74; (with_reducible refine (kit_Outside.calls a0_1 (-10) 10 false _ A6.out).mono ?_); rintro e w' ⟨rfl, ⟨nd, rfl⟩⟩) | (go_at_call 74; (with_reducible refine (kit_Outside.calls a0_2 (-5) 5 true _ A10.out).mono ?_); rintro e w' ⟨rfl, ⟨nd, rfl⟩⟩))
    go_ret
    exact ⟨by first | rfl | (simp [errW_none, errW_some] <;> rfl) | (simp [*, errW_none, errW_some] <;> rfl), by repeat (first | (with_reducible first | exact HB.out | apply qba | apply qbn | apply qb1 | refine qbs ?_ GE201.out) | exact HB.out)⟩
   ·
    replace c11 := Bool.eq_false_iff.mpr c11
    subst c11
    have H1 : ((kit_Outside.f a0_3 (-3) 3).bind fun t205 => (if t205 = true then (some 1) else (some 0))) = some r := by rw [if_neg (show ¬ (false = true) by decide)] at H; exact H
    clear H
    have H := H1
    clear H1
    replace H := Option.bind_eq_some_iff.mp H
    obtain ⟨t205, A140, H⟩ := H
    replace H : (if t205 = true then (some 1) else (some 0)) = some r := H
    have A14 := Ad.mk A140
    clear A140
    by_cases c15 : t205 = true
    ·
     subst c15
     have H1 : (some 1) = some r := by rw [if_pos rfl] at H; exact H
     clear H
     have H := H1
     clear H1
     obtain rfl := Option.some.inj H
     go_enter Tryd.func16, Tryd.ntmps16
     go_wp2_with (first | ((with_reducible refine qgd (N := 1) rfl ?_); refine qbe ?hg (N := 1) ?hd (cs := #[.int .i64 a0_0, .int .i64 a0_1, .int .i64 a0_2, .int .i64 a0_3]) (t := 27) ?hr ?_; (case hd => rfl); (case hg => rfl); (case hr => first | (go_simp; done) | (go_simp; rfl)); intro gb201 hg w16 hbox hb; have BK201 := Ad.mk (hbox); have GW201 := Ad.mk ((by rw [hg]; exact (qbz (by repeat (first | (with_reducible first | exact HB.out | apply qba | apply qbn | apply qb1) | exact HB.out))) : w.heap.size ≤ gb201)); have GE201 := Ad.mk ((by rw [hg]; exact (qbz (by repeat (first | (with_reducible first | exact HB.out | apply qba | apply qbn | apply qb1) | exact HB.out))) : w.heap.size ≤ gb201)); replace HB := Ad.mk (qbt (by repeat (first | (with_reducible first | exact HB.out | apply qba | apply qbn | apply qb1) | exact HB.out)) hb); clear hb hbox hg; have hcz17_0 : w16.cell? ⟨gb201, 0, none⟩ = some (.int .i64 a0_0) := (qkc BK201.out 0).trans rfl; have hcz17_1 : w16.cell? ⟨gb201, 1, none⟩ = some (.int .i64 a0_1) := (qkc BK201.out 1).trans rfl; have hcz17_2 : w16.cell? ⟨gb201, 2, none⟩ = some (.int .i64 a0_2) := (qkc BK201.out 2).trans rfl; have hcz17_3 : w16.cell? ⟨gb201, 3, none⟩ = some (.int .i64 a0_3) := (qkc BK201.out 3).trans rfl; have hfz17_0 := qkz BK201.out 0; have hfz17_1 := qkz BK201.out 1; have hfz17_2 := qkz BK201.out 2; have hfz17_3 := qkz BK201.out 3) | ((with_reducible refine qgc (f := 74) rfl ?_); refine goesL_ (some 5) rfl rfl Tryd.func74 (by kernel_rfl) rfl #[.int .i64 a0_0, .int .i64 (-24), .int .i64 24] rfl (by (try simp only [List.map_toArray, List.map_cons, List.map_nil]); first | done | rfl) ?_; (with_reducible refine (kit_Outside.calls a0_0 (-24) 24 false _ A2.out).mono ?_); rintro e w' ⟨rfl, ⟨nd, rfl⟩⟩; refine ⟨_, rfl, ?_⟩) | (go_at_call 74; (with_reducible refine (kit_Outside.calls a0_1 (-10) 10 false _ A6.out).mono ?_); rintro e w' ⟨rfl, ⟨nd, rfl⟩⟩) | (go_at_call 74; (with_reducible refine (kit_Outside.calls a0_2 (-5) 5 false _ A10.out).mono ?_); rintro e w' ⟨rfl, ⟨nd, rfl⟩⟩) | (go_at_call 74; (with_reducible refine (kit_Outside.calls a0_3 (-3) 3 true _ A14.out).mono ?_); rintro e w' ⟨rfl, ⟨nd, rfl⟩⟩))
     go_ret
     exact ⟨by first | rfl | (simp [errW_none, errW_some] <;> rfl) | (simp [*, errW_none, errW_some] <;> rfl), by repeat (first | (with_reducible first | exact HB.out | apply qba | apply qbn | apply qb1 | refine qbs ?_ GE201.out) | exact HB.out)⟩
    ·
     replace c15 := Bool.eq_false_iff.mpr c15
     subst c15
     have H1 : (some 0) = some r := by rw [if_neg (show ¬ (false = true) by decide)] at H; exact H
     clear H
     have H := H1
     clear H1
     obtain rfl := Option.some.inj H
     go_enter Tryd.func16, Tryd.ntmps16
     go_wp2_with (first | ((with_reducible refine qgd (N := 1) rfl ?_); refine qbe ?hg (N := 1) ?hd (cs := #[.int .i64 a0_0, .int .i64 a0_1, .int .i64 a0_2, .int .i64 a0_3]) (t := 27) ?hr ?_; (case hd => rfl); (case hg => rfl); (case hr => first | (go_simp; done) | (go_simp; rfl)); intro gb201 hg w18 hbox hb; have BK201 := Ad.mk (hbox); have GW201 := Ad.mk ((by rw [hg]; exact (qbz (by repeat (first | (with_reducible first | exact HB.out | apply qba | apply qbn | apply qb1) | exact HB.out))) : w.heap.size ≤ gb201)); have GE201 := Ad.mk ((by rw [hg]; exact (qbz (by repeat (first | (with_reducible first | exact HB.out | apply qba | apply qbn | apply qb1) | exact HB.out))) : w.heap.size ≤ gb201)); replace HB := Ad.mk (qbt (by repeat (first | (with_reducible first | exact HB.out | apply qba | apply qbn | apply qb1) | exact HB.out)) hb); clear hb hbox hg; have hcz19_0 : w18.cell? ⟨gb201, 0, none⟩ = some (.int .i64 a0_0) := (qkc BK201.out 0).trans rfl; have hcz19_1 : w18.cell? ⟨gb201, 1, none⟩ = some (.int .i64 a0_1) := (qkc BK201.out 1).trans rfl; have hcz19_2 : w18.cell? ⟨gb201, 2, none⟩ = some (.int .i64 a0_2) := (qkc BK201.out 2).trans rfl; have hcz19_3 : w18.cell? ⟨gb201, 3, none⟩ = some (.int .i64 a0_3) := (qkc BK201.out 3).trans rfl; have hfz19_0 := qkz BK201.out 0; have hfz19_1 := qkz BK201.out 1; have hfz19_2 := qkz BK201.out 2; have hfz19_3 := qkz BK201.out 3) | ((with_reducible refine qgc (f := 74) rfl ?_); refine goesL_ (some 5) rfl rfl Tryd.func74 (by kernel_rfl) rfl #[.int .i64 a0_0, .int .i64 (-24), .int .i64 24] rfl (by (try simp only [List.map_toArray, List.map_cons, List.map_nil]); first | done | rfl) ?_; (with_reducible refine (kit_Outside.calls a0_0 (-24) 24 false _ A2.out).mono ?_); rintro e w' ⟨rfl, ⟨nd, rfl⟩⟩; refine ⟨_, rfl, ?_⟩) | (go_at_call 74; (with_reducible refine (kit_Outside.calls a0_1 (-10) 10 false _ A6.out).mono ?_); rintro e w' ⟨rfl, ⟨nd, rfl⟩⟩) | (go_at_call 74; (with_reducible refine (kit_Outside.calls a0_2 (-5) 5 false _ A10.out).mono ?_); rintro e w' ⟨rfl, ⟨nd, rfl⟩⟩) | (go_at_call 74; (with_reducible refine (kit_Outside.calls a0_3 (-3) 3 false _ A14.out).mono ?_); rintro e w' ⟨rfl, ⟨nd, rfl⟩⟩))
     go_ret
     exact ⟨by first | rfl | (simp [errW_none, errW_some] <;> rfl) | (simp [*, errW_none, errW_some] <;> rfl), by repeat (first | (with_reducible first | exact HB.out | apply qba | apply qbn | apply qb1 | refine qbs ?_ GE201.out) | exact HB.out)⟩

/-! ### kit_Lowest: function 75 -/
def kit_Lowest.l0 : Nat → Int → Int → Int → Int → Option (Int × Int)
 | 0, _, _, _, _ => none
 | k + 1, x0, x1, x5, x6 => if x6 = 0 then (if x5 = 0 then (none) else (some (wrap64 (Int.tdiv x0 x5), wrap64 (Int.tdiv x1 x5)))) else (kit_Lowest.l0 k x0 x1 x6 (Int.tmod x5 x6))
def kit_Lowest.f (k : Nat) (a0 : Int) (a1 : Int) : Option (Int × Int) := kit_Lowest.l0 k a0 a1 a0 a1
theorem kit_Lowest.mono_l : ∀ k, (∀ y0 y1 y2 y3, LeO (kit_Lowest.l0 k y0 y1 y2 y3) (kit_Lowest.l0 (k + 1) y0 y1 y2 y3))
 | 0 => fun _ _ _ _ r h => by simp [kit_Lowest.l0] at h
 | k + 1 => by
  have ih0 := kit_Lowest.mono_l k
  ·
   intro y0 y1 y2 y3
   unfold kit_Lowest.l0
   repeat' first
   | (with_reducible exact ih0 _ _ _ _)
   | (with_reducible exact LeO.refl _)
   | (with_reducible exact LeO.none _)
   | (with_reducible refine LeO.ite ?_ ?_)
   | (with_reducible refine LeO.bind ?_ (fun _ => ?_))
   | exact ih0 _ _ _ _
   | exact LeO.none _
   | refine LeO.ite ?_ ?_
   | refine LeO.bind ?_ (fun _ => ?_)
theorem kit_Lowest.mono : ∀ a0 a1 k, LeO (kit_Lowest.f k a0 a1) (kit_Lowest.f (k + 1) a0 a1) := by
 intro a0 a1 k
 have ih0 := kit_Lowest.mono_l k
 unfold kit_Lowest.f
 repeat' first
   | (with_reducible exact ih0 _ _ _ _)
   | (with_reducible exact LeO.refl _)
   | (with_reducible exact LeO.none _)
   | (with_reducible refine LeO.ite ?_ ?_)
   | (with_reducible refine LeO.bind ?_ (fun _ => ?_))
   | exact ih0 _ _ _ _
   | exact LeO.none _
   | refine LeO.ite ?_ ?_
   | refine LeO.bind ?_ (fun _ => ?_)
def kit_Lowest.T4 : Bool × List (List Nat × List Nat) := (true, [([], []), ([], []), ([0, 1], [0, 1]), ([], []), ([], []), ([3, 4], [3, 4]), ([2, 5], [2, 5]), ([6, 0, 1, 2, 3, 4, 5, 6], [6])])
def kit_Lowest.B4 : List Nat := [0, 0, 3, 0, 0, 24, 63, 127]
theorem kit_Lowest.tab4 : rtab .any (opsOf Tryd.f75 4) = kit_Lowest.T4 := by kernel_rfl
theorem kit_Lowest.bits4 : waitsOk kit_Lowest.T4.2 kit_Lowest.B4 = true := by kernel_rfl
set_option maxHeartbeats 8000000 in
set_option maxRecDepth 100000 in
theorem kit_Lowest.calls (k : Nat) (a0 : Int) (a1 : Int) (r1 : Int) (r2 : Int) (w : World) (h : kit_Lowest.f k a0 a1 = some (r1, r2)) :
  Calls Tryd.prog 75 #[.int .i64 a0, .int .i64 a1] w fun e w' => e = .returned (.agg #[.int .i64 r1, .int .i64 r2]) ∧ Below w.heap.size w w' := by
 have hu30 := Tryd.underlying30
 have HB := Ad.mk (Below.refl w.heap.size w)
 have H : (kit_Lowest.l0 k a0 a1 a0 a1) = some (r1, r2) := h
 clear h
 have H' := Ad.mk H
 clear H
 go_enter Tryd.func75, Tryd.ntmps75
 go_wp2_with (first | ((with_reducible refine qgd (N := 4) rfl ?_); refine qbe ?hg (N := 4) ?hd (cs := #[.int .i64 0, .int .i64 0]) (t := 30) ?hr ?_; (case hd => rfl); (case hg => rfl); (case hr => first | (go_simp; done) | (go_simp; rfl)); intro gb206 hg w3 hbox hb; have BK206 := Ad.mk (hbox); have GW206 := Ad.mk ((by rw [hg]; exact (qbz (by repeat (first | (with_reducible first | exact HB.out | apply qbn | apply qb1) | exact HB.out))) : w.heap.size ≤ gb206)); have GE206 := Ad.mk ((by rw [hg]; exact (qbz (by repeat (first | (with_reducible first | exact HB.out | apply qbn | apply qb1) | exact HB.out))) : w.heap.size ≤ gb206)); replace HB := Ad.mk (qbt (by repeat (first | (with_reducible first | exact HB.out | apply qbn | apply qb1) | exact HB.out)) hb); clear hb hbox hg))
 go_loopg [5, 6] k (fun kq v5 v6 w' => ∃ (x5_1 : Int) (x6_1 : Int), v5 = .int .i64 x5_1 ∧ v6 = .int .i64 x6_1 ∧ Ad (kit_Lowest.l0 kq a0 a1 x5_1 x6_1 = some (r1, r2)) ∧ Ad (kq ≤ k) ∧ Ad (w'.heap[gb206]? = some (.cells #[.int .i64 0, .int .i64 0] 30 (0, 0))) ∧ Ad (Below w.heap.size w w'))
 case atStart => exact ⟨(a0), (a1), (by first | rfl | (simp; done) | (simp [*]; done)), (by first | rfl | (simp; done) | (simp [*]; done)), H', ⟨Nat.le_refl _⟩, ⟨by exact BK206.out⟩, ⟨by repeat (first | (with_reducible first | exact HB.out | apply qbn | apply qb1) | exact HB.out)⟩⟩
 case round =>
  clear H'
  try clear p2
  obtain ⟨x5_1, x6_1, rfl, rfl, HA, HK1, BK206, HB⟩ := hrel
  cases gk with
  | zero => exact absurd HA.out (by simp [kit_Lowest.l0])
  | succ k1 =>
   have H := HA.out
   clear HA
   simp only [kit_Lowest.l0] at H
   by_cases c4 : x6_1 = 0
   ·
    rw [if_pos c4] at H
    have c4b0 : (x6_1 == 0) = true := beq_iff_eq.mpr c4
    have c4b1 : (x6_1 != 0) = false := bne_eq_false_iff_eq.mpr c4
    clear c4
    by_cases c5 : x5_1 = 0
    ·
     rw [if_pos c5] at H
     exact absurd H (by simp)
    ·
     rw [if_neg c5] at H
     have c5b0 : (x5_1 == 0) = false := beq_eq_false_iff_ne.mpr c5
     have c5b1 : (x5_1 != 0) = true := bne_iff_ne.mpr c5
     simp only [Option.some.injEq, Prod.mk.injEq] at H
     obtain ⟨rfl, rfl⟩ := H
     try go_wp2
     replace BK206 := Ad.mk (qkd BK206.out)
     replace HB := Ad.mk (qb1 HB.out)
     refine start_ (n := 8) (S := fun w' => True) (ds := []) #[false, false, false, false, false, false, false, false] (by kernel_rfl) rfl rfl trivial (fun hHeld => ?_); refine with_tabW kit_Lowest.tab4 kit_Lowest.bits4 (fun HT_ HW_ => ?_)
     generalize wr.drew = w6 at BK206 HB hHeld ⊢
     refine pure_ (i := 0) (N := some 15) (v := ?_) (a' := ?_) #[true, false, false, false, false, false, false, false] rfl rfl (any_of HT_.out (by kernel_rfl)) (fun _ _ _ h => h) (Or.inl ⟨by rfl, ?_⟩) ?_ ?_
     rotate_left
     ·
      intro w'
      go_simp
      with_reducible rfl
     rotate_left
     ·
      simp only [Act.put, List.setIfInBounds_toArray, List.set_cons_zero, List.set_cons_succ, i64_w, i32_w]
      rfl
     refine pure_ (i := 1) (N := some 16) (v := ?_) (a' := ?_) #[true, true, false, false, false, false, false, false] rfl rfl (any_of HT_.out (by kernel_rfl)) (fun _ _ _ h => h) (Or.inl ⟨by rfl, ?_⟩) ?_ ?_
     rotate_left
     ·
      intro w'
      go_simp
      with_reducible rfl
     rotate_left
     ·
      simp only [Act.put, List.setIfInBounds_toArray, List.set_cons_zero, List.set_cons_succ, i64_w, i32_w]
      rfl
     refine pure_ (i := 2) (N := some 17) (v := ?_) (a' := ?_) #[true, true, true, false, false, false, false, false] rfl rfl (any_of HT_.out (by kernel_rfl)) (fun _ _ _ h => h) (Or.inl ⟨by rfl, ?_⟩) ?_ ?_
     rotate_left
     ·
      intro w'
      go_simp
      with_reducible rfl
     rotate_left
     ·
      simp only [Act.put, List.setIfInBounds_toArray, List.set_cons_zero, List.set_cons_succ, i64_w, i32_w]
      rfl
     refine pure_ (i := 3) (N := some 18) (v := ?_) (a' := ?_) #[true, true, true, true, false, false, false, false] rfl rfl (any_of HT_.out (by kernel_rfl)) (fun _ _ _ h => h) (Or.inl ⟨by rfl, ?_⟩) ?_ ?_
     rotate_left
     ·
      intro w'
      go_simp
      with_reducible rfl
     rotate_left
     ·
      simp only [Act.put, List.setIfInBounds_toArray, List.set_cons_zero, List.set_cons_succ, i64_w, i32_w]
      rfl
     refine pure_ (i := 4) (N := some 19) (v := ?_) (a' := ?_) #[true, true, true, true, true, false, false, false] rfl rfl (any_of HT_.out (by kernel_rfl)) (fun _ _ _ h => h) (Or.inl ⟨by rfl, ?_⟩) ?_ ?_
     rotate_left
     ·
      intro w'
      go_simp
      with_reducible rfl
     rotate_left
     ·
      simp only [Act.put, List.setIfInBounds_toArray, List.set_cons_zero, List.set_cons_succ, i64_w, i32_w]
      rfl
     refine pure_ (i := 5) (N := some 20) (v := ?_) (a' := ?_) #[true, true, true, true, true, true, false, false] rfl rfl (any_of HT_.out (by kernel_rfl)) (fun _ _ _ h => h) (Or.inl ⟨by rfl, ?_⟩) ?_ ?_
     rotate_left
     ·
      intro w'
      go_simp
      with_reducible rfl
     rotate_left
     ·
      simp only [Act.put, List.setIfInBounds_toArray, List.set_cons_zero, List.set_cons_succ, i64_w, i32_w]
      rfl
     refine pure_ (i := 6) (N := some 21) (v := ?_) (a' := ?_) #[true, true, true, true, true, true, true, false] rfl rfl (any_of HT_.out (by kernel_rfl)) (fun _ _ _ h => h) (Or.inl ⟨by rfl, ?_⟩) ?_ ?_
     rotate_left
     ·
      intro w'
      go_simp
      with_reducible rfl
     rotate_left
     ·
      simp only [Act.put, List.setIfInBounds_toArray, List.set_cons_zero, List.set_cons_succ, i64_w, i32_w]
      rfl
     refine one_ (i := 7) (N := none) #[true, true, true, true, true, true, true, true] rfl rfl (one_of HT_.out (by kernel_rfl)) (by decide) (fun K hK => ?_)
     have hs7 : w6.cell? ⟨gb206, 0, none⟩ = some (.int .i64 0) := (qkc BK206.out 0).trans rfl
     have hfs7 := qkz BK206.out 0
     have hs8 : w6.cell? ⟨gb206, 1, none⟩ = some (.int .i64 0) := (qkc BK206.out 1).trans rfl
     have hfs8 := qkz BK206.out 1
     refine skip_ (w1 := ?_) (by rfl) rfl ?_ ?_
     rotate_left
     ·
      go_simp
      rfl
     refine hK.out _ _ trivial (fun hHeld => ?_)
     clear hK K
     refine done_ (done_of HT_.out (by kernel_rfl)) ?_
     try go_wp2
     refine bodyPost_ret (results_cell_row rfl _ _ gb206 30 #[.int .i64 (wrap64 (Int.tdiv a0 x5_1)), .int .i64 (wrap64 (Int.tdiv a1 x5_1))] (0, 0) _ rfl (by (with_reducible repeat (first | apply qkn | apply qkd)); refine qkp (cs := #[.int .i64 (wrap64 (Int.tdiv a0 x5_1)), .int .i64 0]) ?_ 1 _ rfl; (with_reducible repeat (first | apply qkn | apply qkd)); refine qkp (cs := #[.int .i64 0, .int .i64 0]) ?_ 0 _ rfl; (with_reducible repeat (first | apply qkn | apply qkd)); exact BK206.out) Tryd.underlying30 rfl (by kernel_rfl)) rfl ?_
     exact ⟨by first | rfl | (simp [errW_none, errW_some] <;> rfl) | (simp [*, errW_none, errW_some] <;> rfl), by repeat (first | (with_reducible first | exact HB.out | apply qbn | apply qb1 | refine qbs ?_ GE206.out) | exact HB.out)⟩
   ·
    rw [if_neg c4] at H
    have c4b0 : (x6_1 == 0) = false := beq_eq_false_iff_ne.mpr c4
    have c4b1 : (x6_1 != 0) = true := bne_iff_ne.mpr c4
    have H' := Ad.mk H
    clear H
    try go_wp2
    replace BK206 := Ad.mk (qkd BK206.out)
    replace HB := Ad.mk (qb1 HB.out)
    refine start_ (n := 6) (S := fun w' => True) (ds := []) #[false, false, false, false, false, false] (by kernel_rfl) rfl rfl trivial (fun hHeld => ?_)
    generalize wr.drew = w9 at BK206 HB hHeld ⊢
    refine pure_ (i := 0) (N := some 11) (v := ?_) (a' := ?_) #[true, false, false, false, false, false] rfl rfl (by kernel_rfl) (fun _ _ _ h => h) (Or.inl ⟨by rfl, ?_⟩) ?_ ?_
    rotate_left
    ·
     intro w'
     go_simp
     with_reducible rfl
    rotate_left
    ·
     simp only [Act.put, List.setIfInBounds_toArray, List.set_cons_zero, List.set_cons_succ, i64_w, i32_w]
     rfl
    refine pure_ (i := 1) (N := some 12) (v := ?_) (a' := ?_) #[true, true, false, false, false, false] rfl rfl (by kernel_rfl) (fun _ _ _ h => h) (Or.inl ⟨by rfl, ?_⟩) ?_ ?_
    rotate_left
    ·
     intro w'
     go_simp
     with_reducible rfl
    rotate_left
    ·
     simp only [Act.put, List.setIfInBounds_toArray, List.set_cons_zero, List.set_cons_succ, i64_w, i32_w]
     rfl
    refine pure_ (i := 2) (N := some 13) (v := ?_) (a' := ?_) #[true, true, true, false, false, false] rfl rfl (by kernel_rfl) (fun _ _ _ h => h) (Or.inl ⟨by rfl, ?_⟩) ?_ ?_
    rotate_left
    ·
     intro w'
     go_simp
     with_reducible rfl
    rotate_left
    ·
     simp only [Act.put, List.setIfInBounds_toArray, List.set_cons_zero, List.set_cons_succ, i64_w, i32_w]
     rfl
    refine pure_ (i := 3) (N := some 14) (v := ?_) (a' := ?_) #[true, true, true, true, false, false] rfl rfl (by kernel_rfl) (fun _ _ _ h => h) (Or.inl ⟨by rfl, ?_⟩) ?_ ?_
    rotate_left
    ·
     intro w'
     go_simp
     with_reducible rfl
    rotate_left
    ·
     simp only [Act.put, List.setIfInBounds_toArray, List.set_cons_zero, List.set_cons_succ, i64_w, i32_w]
     rfl
    refine pure_ (i := 4) (N := some 5) (v := ?_) (a' := ?_) #[true, true, true, true, true, false] rfl rfl (by kernel_rfl) (fun _ _ _ h => h) (Or.inl ⟨by rfl, ?_⟩) ?_ ?_
    rotate_left
    ·
     intro w'
     go_simp
     with_reducible rfl
    rotate_left
    ·
     simp only [Act.put, List.setIfInBounds_toArray, List.set_cons_zero, List.set_cons_succ, i64_w, i32_w]
     rfl
    refine pure_ (i := 5) (N := some 6) (v := ?_) (a' := ?_) #[true, true, true, true, true, true] rfl rfl (by kernel_rfl) (fun _ _ _ h => h) (Or.inl ⟨by rfl, ?_⟩) ?_ ?_
    rotate_left
    ·
     intro w'
     go_simp
     with_reducible rfl
    rotate_left
    ·
     simp only [Act.put, List.setIfInBounds_toArray, List.set_cons_zero, List.set_cons_succ, i64_w, i32_w]
     rfl
    refine done_ (by kernel_rfl) ?_
    try go_wp2
    go_roundg k1
    case measure => have := HK1.out; omega
    case rel => exact ⟨(x6_1), (Int.tmod x5_1 x6_1), (by first | rfl | (simp; done) | (simp [*]; done)), (by first | rfl | (simp; done) | (simp [*]; done)), H', ⟨by have := HK1.out; omega⟩, ⟨by exact BK206.out⟩, ⟨by repeat (first | (with_reducible first | exact HB.out | apply qbn | apply qb1) | exact HB.out)⟩⟩

/-! ### tune_primes: function 76 -/
def tune_primes.f  : Option (Int × Int × Int × Int) := some (2, 3, 5, 7)
set_option maxHeartbeats 8000000 in
set_option maxRecDepth 100000 in
theorem tune_primes.calls  (r1 : Int) (r2 : Int) (r3 : Int) (r4 : Int) (w : World) (h : tune_primes.f  = some (r1, r2, r3, r4)) :
  Calls Tryd.prog 76 #[] w fun e w' => e = .returned (.agg #[.int .i64 r1, .int .i64 r2, .int .i64 r3, .int .i64 r4]) ∧ Below w.heap.size w w' := by
 have hu119 := Tryd.underlying119
 have HB := Ad.mk (Below.refl w.heap.size w)
 have H : (some (2, 3, 5, 7)) = some (r1, r2, r3, r4) := h
 clear h
 simp only [Option.some.injEq, Prod.mk.injEq] at H
 obtain ⟨rfl, rfl, rfl, rfl⟩ := H
 go_enter Tryd.func76, Tryd.ntmps76
 go_wp2_with (first | ((with_reducible refine qgd (N := 0) rfl ?_); refine qbe ?hg (N := 0) ?hd (cs := #[.int .i64 0, .int .i64 0, .int .i64 0, .int .i64 0]) (t := 119) ?hr ?_; (case hd => rfl); (case hg => rfl); (case hr => first | (go_simp; done) | (go_simp; rfl)); intro gb207 hg w1 hbox hb; have BK207 := Ad.mk (hbox); have GW207 := Ad.mk ((by rw [hg]; exact (qbz (by repeat (first | (with_reducible first | exact HB.out | apply qba | apply qbn | apply qb1) | exact HB.out))) : w.heap.size ≤ gb207)); have GE207 := Ad.mk ((by rw [hg]; exact (qbz (by repeat (first | (with_reducible first | exact HB.out | apply qba | apply qbn | apply qb1) | exact HB.out))) : w.heap.size ≤ gb207)); replace HB := Ad.mk (qbt (by repeat (first | (with_reducible first | exact HB.out | apply qba | apply qbn | apply qb1) | exact HB.out)) hb); clear hb hbox hg; have hcz2_0 : w1.cell? ⟨gb207, 0, none⟩ = some (.int .i64 0) := (qkc BK207.out 0).trans rfl; have hcz2_1 : w1.cell? ⟨gb207, 1, none⟩ = some (.int .i64 0) := (qkc BK207.out 1).trans rfl; have hcz2_2 : w1.cell? ⟨gb207, 2, none⟩ = some (.int .i64 0) := (qkc BK207.out 2).trans rfl; have hcz2_3 : w1.cell? ⟨gb207, 3, none⟩ = some (.int .i64 0) := (qkc BK207.out 3).trans rfl; have hfz2_0 := qkz BK207.out 0; have hfz2_1 := qkz BK207.out 1; have hfz2_2 := qkz BK207.out 2; have hfz2_3 := qkz BK207.out 3))
 refine bodyPost_ret (results_cell_row rfl _ _ gb207 119 #[.int .i64 2, .int .i64 3, .int .i64 5, .int .i64 7] (0, 0) _ rfl (by (with_reducible repeat (first | apply qkn | apply qkd | apply qka)); refine qkp (cs := #[.int .i64 2, .int .i64 3, .int .i64 5, .int .i64 0]) ?_ 3 _ rfl; (with_reducible repeat (first | apply qkn | apply qkd | apply qka)); refine qkp (cs := #[.int .i64 2, .int .i64 3, .int .i64 0, .int .i64 0]) ?_ 2 _ rfl; (with_reducible repeat (first | apply qkn | apply qkd | apply qka)); refine qkp (cs := #[.int .i64 2, .int .i64 0, .int .i64 0, .int .i64 0]) ?_ 1 _ rfl; (with_reducible repeat (first | apply qkn | apply qkd | apply qka)); refine qkp (cs := #[.int .i64 0, .int .i64 0, .int .i64 0, .int .i64 0]) ?_ 0 _ rfl; (with_reducible repeat (first | apply qkn | apply qkd | apply qka)); exact BK207.out) Tryd.underlying119 rfl (by kernel_rfl)) rfl ?_
 exact ⟨by first | rfl | (simp [errW_none, errW_some] <;> rfl) | (simp [*, errW_none, errW_some] <;> rfl), by repeat (first | (with_reducible first | exact HB.out | apply qba | apply qbn | apply qb1 | refine qbs ?_ GE207.out) | exact HB.out)⟩

/-! ### tune_times: function 77 -/
def tune_times.l0 : Nat → Int → Int → Int → Option (Int × Int)
 | 0, _, _, _ => none
 | k + 1, x0, x1, x4 => if x1 = 0 then (none) else (if (Int.tmod x0 x1) = 0 then (tune_times.l0 k (wrap64 (Int.tdiv x0 x1)) x1 (wrap64 (x4 + 1))) else (some (x4, x0)))
def tune_times.f (k : Nat) (a0 : Int) (a1 : Int) : Option (Int × Int) := tune_times.l0 k a0 a1 0
theorem tune_times.mono_l : ∀ k, (∀ y0 y1 y2, LeO (tune_times.l0 k y0 y1 y2) (tune_times.l0 (k + 1) y0 y1 y2))
 | 0 => fun _ _ _ r h => by simp [tune_times.l0] at h
 | k + 1 => by
  have ih0 := tune_times.mono_l k
  ·
   intro y0 y1 y2
   unfold tune_times.l0
   repeat' first
   | (with_reducible exact ih0 _ _ _)
   | (with_reducible exact LeO.refl _)
   | (with_reducible exact LeO.none _)
   | (with_reducible refine LeO.ite ?_ ?_)
   | (with_reducible refine LeO.bind ?_ (fun _ => ?_))
   | exact ih0 _ _ _
   | exact LeO.none _
   | refine LeO.ite ?_ ?_
   | refine LeO.bind ?_ (fun _ => ?_)
theorem tune_times.mono : ∀ a0 a1 k, LeO (tune_times.f k a0 a1) (tune_times.f (k + 1) a0 a1) := by
 intro a0 a1 k
 have ih0 := tune_times.mono_l k
 unfold tune_times.f
 repeat' first
   | (with_reducible exact ih0 _ _ _)
   | (with_reducible exact LeO.refl _)
   | (with_reducible exact LeO.none _)
   | (with_reducible refine LeO.ite ?_ ?_)
   | (with_reducible refine LeO.bind ?_ (fun _ => ?_))
   | exact ih0 _ _ _
   | exact LeO.none _
   | refine LeO.ite ?_ ?_
   | refine LeO.bind ?_ (fun _ => ?_)
set_option maxHeartbeats 8000000 in
set_option maxRecDepth 100000 in
theorem tune_times.calls (k : Nat) (a0 : Int) (a1 : Int) (r1 : Int) (r2 : Int) (w : World) (h : tune_times.f k a0 a1 = some (r1, r2)) :
  Calls Tryd.prog 77 #[.int .i64 a0, .int .i64 a1] w fun e w' => e = .returned (.tuple #[.int .i64 r1, .int .i64 r2]) ∧ Drawn0 w w' := by
 have H : (tune_times.l0 k a0 a1 0) = some (r1, r2) := h
 clear h
 have H' := Ad.mk H
 clear H
 go_enter Tryd.func77, Tryd.ntmps77
 go_wp2
 go_loopg [0, 4] k (fun kq v0 v4 w' => ∃ (x0_1 : Int) (x4_1 : Int), v0 = .int .i64 x0_1 ∧ v4 = .int .i64 x4_1 ∧ Ad (tune_times.l0 kq x0_1 a1 x4_1 = some (r1, r2)) ∧ Ad (kq ≤ k) ∧ Drawn0 w w')
 case atStart => exact ⟨(a0), (0), (by first | rfl | (simp; done) | (simp [*]; done)), (by first | rfl | (simp; done) | (simp [*]; done)), H', ⟨Nat.le_refl _⟩, by repeat (first | exact Drawn0.refl _ | apply Drawn0.step)⟩
 case round =>
  clear H'
  try clear p2
  obtain ⟨x0_1, x4_1, rfl, rfl, HA, HK1, ⟨m1, rfl⟩⟩ := hrel
  cases gk with
  | zero => exact absurd HA.out (by simp [tune_times.l0])
  | succ k1 =>
   have H := HA.out
   clear HA
   simp only [tune_times.l0] at H
   by_cases c3 : a1 = 0
   ·
    rw [if_pos c3] at H
    exact absurd H (by simp)
   ·
    rw [if_neg c3] at H
    have c3b0 : (a1 == 0) = false := beq_eq_false_iff_ne.mpr c3
    have c3b1 : (a1 != 0) = true := bne_iff_ne.mpr c3
    by_cases c4 : (Int.tmod x0_1 a1) = 0
    ·
     rw [if_pos c4] at H
     have c4b0 : ((Int.tmod x0_1 a1) == 0) = true := beq_iff_eq.mpr c4
     have c4b1 : ((Int.tmod x0_1 a1) != 0) = false := bne_eq_false_iff_eq.mpr c4
     clear c4
     have H' := Ad.mk H
     clear H
     go_wp2
     go_roundg k1
     case measure => have := HK1.out; omega
     case rel => exact ⟨(wrap64 (Int.tdiv x0_1 a1)), (wrap64 (x4_1 + 1)), (by first | rfl | (simp; done) | (simp [*]; done)), (by first | rfl | (simp; done) | (simp [*]; done)), H', ⟨by have := HK1.out; omega⟩, by repeat (first | exact Drawn0.refl _ | apply Drawn0.step)⟩
    ·
     rw [if_neg c4] at H
     have c4b0 : ((Int.tmod x0_1 a1) == 0) = false := beq_eq_false_iff_ne.mpr c4
     have c4b1 : ((Int.tmod x0_1 a1) != 0) = true := bne_iff_ne.mpr c4
     simp only [Option.some.injEq, Prod.mk.injEq] at H
     obtain ⟨rfl, rfl⟩ := H
     go_wp2
     go_ret2
     exact ⟨by first | rfl | (simp; done) | (simp [*]; done), by repeat (first | exact Drawn0.refl _ | apply Drawn0.step)⟩

end Go.Proofs.YtdagocpgefjmdaaDoor.PIntervalsCounted
