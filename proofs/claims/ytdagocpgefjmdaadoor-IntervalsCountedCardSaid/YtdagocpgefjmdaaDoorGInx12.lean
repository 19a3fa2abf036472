import Derived.Deep.RegionWith
import Derived.Test.YtdagocpgefjmdaaDoorGInShelf
import Derived.Test.YtdagocpgefjmdaaDoorGInx0
import Derived.Test.YtdagocpgefjmdaaDoorGInx5
import Derived.Test.YtdagocpgefjmdaaDoorGInx9
import Derived.Test.YtdagocpgefjmdaaDoorGInx11
namespace Go.Proofs.YtdagocpgefjmdaaDoor.PIntervalsCounted
open Go.RowKit Go.Proofs.YtdagocpgefjmdaaDoorW.PrintWords Go.Proofs.YtdagocpgefjmdaaDoorW.PrintLast Go.Proofs.YtdagocpgefjmdaaDoorW.PrintMore
attribute [local go_sem] max2_int min2_int max_two min_two max_three min_three max_four min_four   -- for this text's walks alone
set_option linter.unusedVariables false
set_option linter.unusedSimpArgs false

/-! ### tune_compare: function 86 -/
mutual
def tune_compare.j0 : Nat → Int → Int → Int → Int → Option (Int)
 | 0, _, _, _, _ => none
 | k + 1, x7, x8, x9, x10 => if x7 < x9 then (tune_compare.j1 k x7 x8 x9 x10 true) else (if x7 = x9 then (tune_compare.j1 k x7 x8 x9 x10 (decide (x8 < x10))) else (tune_compare.j1 k x7 x8 x9 x10 false))
def tune_compare.j1 : Nat → Int → Int → Int → Int → Bool → Option (Int)
 | 0, _, _, _, _, _ => none
 | k + 1, x7, x8, x9, x10, x35 => if x35 = true then (some (-1)) else (if x7 = x9 then (if x8 = x10 then (some 0) else (some 1)) else (some 1))
end
def tune_compare.f (k : Nat) (a0_0 : Int) (a0_1 : Int) (a0_2 : Int) (a0_3 : Int) (a1_0 : Int) (a1_1 : Int) (a1_2 : Int) (a1_3 : Int) : Option (Int) := (tune_quotient.f k a0_0 a0_1 a0_2 a0_3).bind fun bt320 => ((tune_quotient.f k a1_0 a1_1 a1_2 a1_3).bind fun bt322 => ((bits_Mul64.f (IntKind.u64.wrap (bt320.1)) (IntKind.u64.wrap (bt322.2))).bind fun bt326 => ((bits_Mul64.f (IntKind.u64.wrap (bt322.1)) (IntKind.u64.wrap (bt320.2))).bind fun bt328 => (tune_compare.j0 k bt326.1 bt326.2 bt328.1 bt328.2))))
theorem tune_compare.mono_l : ∀ k, (∀ y0 y1 y2 y3, LeO (tune_compare.j0 k y0 y1 y2 y3) (tune_compare.j0 (k + 1) y0 y1 y2 y3)) ∧ (∀ y0 y1 y2 y3 y4, LeO (tune_compare.j1 k y0 y1 y2 y3 y4) (tune_compare.j1 (k + 1) y0 y1 y2 y3 y4))
 | 0 => ⟨fun _ _ _ _ r h => by simp [tune_compare.j0] at h, fun _ _ _ _ _ r h => by simp [tune_compare.j1] at h⟩
 | k + 1 => by
  obtain ⟨ih0, ih1⟩ := tune_compare.mono_l k
  refine ⟨?_, ?_⟩
  ·
   intro y0 y1 y2 y3
   unfold tune_compare.j0
   repeat' first
   | (with_reducible exact ih0 _ _ _ _)
   | (with_reducible exact ih1 _ _ _ _ _)
   | (with_reducible exact tune_quotient.mono _ _ _ _ _)
   | (with_reducible exact LeO.refl _)
   | (with_reducible exact LeO.none _)
   | (with_reducible refine LeO.ite ?_ ?_)
   | (with_reducible refine LeO.bind ?_ (fun _ => ?_))
   | exact ih0 _ _ _ _
   | exact ih1 _ _ _ _ _
   | exact tune_quotient.mono _ _ _ _ _
   | exact LeO.none _
   | refine LeO.ite ?_ ?_
   | refine LeO.bind ?_ (fun _ => ?_)
  ·
   intro y0 y1 y2 y3 y4
   unfold tune_compare.j1
   repeat' first
   | (with_reducible exact ih0 _ _ _ _)
   | (with_reducible exact ih1 _ _ _ _ _)
   | (with_reducible exact tune_quotient.mono _ _ _ _ _)
   | (with_reducible exact LeO.refl _)
   | (with_reducible exact LeO.none _)
   | (with_reducible refine LeO.ite ?_ ?_)
   | (with_reducible refine LeO.bind ?_ (fun _ => ?_))
   | exact ih0 _ _ _ _
   | exact ih1 _ _ _ _ _
   | exact tune_quotient.mono _ _ _ _ _
   | exact LeO.none _
   | refine LeO.ite ?_ ?_
   | refine LeO.bind ?_ (fun _ => ?_)
theorem tune_compare.mono : ∀ a0 a1 a2 a3 a4 a5 a6 a7 k, LeO (tune_compare.f k a0 a1 a2 a3 a4 a5 a6 a7) (tune_compare.f (k + 1) a0 a1 a2 a3 a4 a5 a6 a7) := by
 intro a0 a1 a2 a3 a4 a5 a6 a7 k
 obtain ⟨ih0, ih1⟩ := tune_compare.mono_l k
 unfold tune_compare.f
 repeat' first
   | (with_reducible exact ih0 _ _ _ _)
   | (with_reducible exact ih1 _ _ _ _ _)
   | (with_reducible exact tune_quotient.mono _ _ _ _ _)
   | (with_reducible exact LeO.refl _)
   | (with_reducible exact LeO.none _)
   | (with_reducible refine LeO.ite ?_ ?_)
   | (with_reducible refine LeO.bind ?_ (fun _ => ?_))
   | exact ih0 _ _ _ _
   | exact ih1 _ _ _ _ _
   | exact tune_quotient.mono _ _ _ _ _
   | exact LeO.none _
   | refine LeO.ite ?_ ?_
   | refine LeO.bind ?_ (fun _ => ?_)
def tune_compare.T1 : Bool × List (List Nat × List Nat) := (true, [([], []), ([0], [0]), ([], []), ([2, 1], [2]), ([], []), ([], []), ([4, 1, 3, 0, 1, 4, 5], [1, 4]), ([5, 3, 6, 0, 1, 2, 3, 4, 5, 6], [3, 5])])
def tune_compare.B1 : List Nat := [0, 1, 0, 7, 0, 0, 63, 127]
theorem tune_compare.tab1 : rtab .any (opsOf Tryd.f86 1) = tune_compare.T1 := by kernel_rfl
theorem tune_compare.bits1 : waitsOk tune_compare.T1.2 tune_compare.B1 = true := by kernel_rfl
set_option maxHeartbeats 8000000 in
set_option maxRecDepth 100000 in
theorem tune_compare.calls (k : Nat) (a0_0 : Int) (a0_1 : Int) (a0_2 : Int) (a0_3 : Int) (a1_0 : Int) (a1_1 : Int) (a1_2 : Int) (a1_3 : Int) (r : Int) (w : World) (h : tune_compare.f k a0_0 a0_1 a0_2 a0_3 a1_0 a1_1 a1_2 a1_3 = some r) :
  Calls Tryd.prog 86 #[.agg #[.int .i64 a0_0, .int .i64 a0_1, .int .i64 a0_2, .int .i64 a0_3], .agg #[.int .i64 a1_0, .int .i64 a1_1, .int .i64 a1_2, .int .i64 a1_3]] w fun e w' => e = .returned (.int .i64 r) ∧ Below w.heap.size w w' := by
 have hu27 := Tryd.underlying27
 have hu30 := Tryd.underlying30
 have HB := Ad.mk (Below.refl w.heap.size w)
 have H : ((tune_quotient.f k a0_0 a0_1 a0_2 a0_3).bind fun bt320 => ((tune_quotient.f k a1_0 a1_1 a1_2 a1_3).bind fun bt322 => ((bits_Mul64.f (IntKind.u64.wrap (bt320.1)) (IntKind.u64.wrap (bt322.2))).bind fun bt326 => ((bits_Mul64.f (IntKind.u64.wrap (bt322.1)) (IntKind.u64.wrap (bt320.2))).bind fun bt328 => (tune_compare.j0 k bt326.1 bt326.2 bt328.1 bt328.2))))) = some r := h
 clear h
 replace H := Option.bind_eq_some_iff.mp H
 obtain ⟨⟨t320, t321⟩, A30, H⟩ := H
 replace H : ((tune_quotient.f k a1_0 a1_1 a1_2 a1_3).bind fun bt322 => ((bits_Mul64.f (IntKind.u64.wrap (t320)) (IntKind.u64.wrap (bt322.2))).bind fun bt326 => ((bits_Mul64.f (IntKind.u64.wrap (bt322.1)) (IntKind.u64.wrap (t321))).bind fun bt328 => (tune_compare.j0 k bt326.1 bt326.2 bt328.1 bt328.2)))) = some r := H
 have A3 := Ad.mk A30
 clear A30
 replace H := Option.bind_eq_some_iff.mp H
 obtain ⟨⟨t322, t323⟩, A40, H⟩ := H
 replace H : ((bits_Mul64.f (IntKind.u64.wrap (t320)) (IntKind.u64.wrap (t323))).bind fun bt326 => ((bits_Mul64.f (IntKind.u64.wrap (t322)) (IntKind.u64.wrap (t321))).bind fun bt328 => (tune_compare.j0 k bt326.1 bt326.2 bt328.1 bt328.2))) = some r := H
 have A4 := Ad.mk A40
 clear A40
 replace H := Option.bind_eq_some_iff.mp H
 obtain ⟨⟨t326, t327⟩, A50, H⟩ := H
 replace H : ((bits_Mul64.f (IntKind.u64.wrap (t322)) (IntKind.u64.wrap (t321))).bind fun bt328 => (tune_compare.j0 k t326 t327 bt328.1 bt328.2)) = some r := H
 have A5 := Ad.mk A50
 clear A50
 have HC6 := Ad.mk H
 clear H
 go_enter Tryd.func86, Tryd.ntmps86
 try go_wp2_with (first | ((with_reducible refine qgd (N := 2) rfl ?_); refine qbe ?hg (N := 2) ?hd (cs := #[.int .i64 a0_0, .int .i64 a0_1, .int .i64 a0_2, .int .i64 a0_3]) (t := 27) ?hr ?_; (case hd => rfl); (case hg => rfl); (case hr => first | (go_simp; done) | (go_simp; rfl)); intro gb318 hg w7 hbox hb; have BK318 := Ad.mk (hbox); have GW318 := Ad.mk ((by rw [hg]; exact (qbz (by repeat (first | (with_reducible first | exact HB.out | apply qbn | apply qb1) | exact HB.out))) : w.heap.size ≤ gb318)); have GE318 := Ad.mk ((by rw [hg]; exact (qbz (by repeat (first | (with_reducible first | exact HB.out | apply qbn | apply qb1) | exact HB.out))) : w.heap.size ≤ gb318)); replace HB := Ad.mk (qbt (by repeat (first | (with_reducible first | exact HB.out | apply qbn | apply qb1) | exact HB.out)) hb); clear hb hbox hg) | ((with_reducible refine qgd (N := 3) rfl ?_); refine qbe ?hg (N := 3) ?hd (cs := #[.int .i64 a1_0, .int .i64 a1_1, .int .i64 a1_2, .int .i64 a1_3]) (t := 27) ?hr ?_; (case hd => rfl); (case hg => rfl); (case hr => first | (go_simp; done) | (go_simp; rfl)); intro gb319 hg w8 hbox hb; have BK319 := Ad.mk (hbox); have GW319 := Ad.mk ((by rw [hg]; exact (qbz (by repeat (first | (with_reducible first | exact HB.out | apply qbn | apply qb1) | exact HB.out))) : w.heap.size ≤ gb319)); have GE319 := Ad.mk ((by rw [hg]; exact (qbz (by repeat (first | (with_reducible first | exact HB.out | apply qbn | apply qb1) | exact HB.out))) : w.heap.size ≤ gb319)); have NB318_319 := Ad.mk ((by rw [hg]; exact Nat.ne_of_lt (qkl (by exact BK318.out)) : gb318 ≠ gb319)); have NB319_318 := Ad.mk ((by rw [hg]; exact Nat.ne_of_gt (qkl (by exact BK318.out)) : gb319 ≠ gb318)); replace BK318 := Ad.mk (qkb (by exact BK318.out) hb); replace HB := Ad.mk (qbt (by repeat (first | (with_reducible first | exact HB.out | apply qbn | apply qb1) | exact HB.out)) hb); clear hb hbox hg))
 replace BK318 := Ad.mk (qkd BK318.out)
 replace BK319 := Ad.mk (qkd BK319.out)
 replace HB := Ad.mk (qb1 HB.out)
 refine start_ (n := 8) (S := fun w' => True) (ds := []) #[false, false, false, false, false, false, false, false] (by kernel_rfl) rfl rfl trivial (fun hHeld => ?_); refine with_tabW tune_compare.tab1 tune_compare.bits1 (fun HT_ HW_ => ?_)
 generalize w8.drew = w9 at BK318 BK319 HB hHeld ⊢
 refine inv_at [0, 1, 2, 3, 4, 5, 6, 7] (fun a0_ b a w' => ∃ (gb324 : Nat) (gb325 : Nat) (m4_ : Value) (m5_ : Value), a = putSel a0_ b [(0, 11, .agg #[.int .i64 a0_0, .int .i64 a0_1, .int .i64 a0_2, .int .i64 a0_3]), (1, 12, .agg #[.int .i64 t320, .int .i64 t321]), (2, 13, .agg #[.int .i64 a1_0, .int .i64 a1_1, .int .i64 a1_2, .int .i64 a1_3]), (3, 14, .agg #[.int .i64 t322, .int .i64 t323]), (4, 5, m4_), (5, 6, m5_)] ∧ (w'.heap[gb318]? = some (.cells #[.int .i64 a0_0, .int .i64 a0_1, .int .i64 a0_2, .int .i64 a0_3] 27 (0, 0))) ∧ (w'.heap[gb319]? = some (.cells #[.int .i64 a1_0, .int .i64 a1_1, .int .i64 a1_2, .int .i64 a1_3] 27 (0, 0))) ∧ (Below w.heap.size w w') ∧ (b 4 = true → b 5 = true → gb325 ≠ gb324) ∧ (b 4 = true → b 5 = true → gb324 ≠ gb325) ∧ (b 4 = true → b 6 = false → w'.heap[gb324]? = some (.cells #[.int .i64 0, .int .i64 0] 30 (0, 0))) ∧ (b 4 = true → w.heap.size ≤ gb324) ∧ (b 4 = true → w.heap.size ≤ gb324) ∧ (b 4 = true → gb318 ≠ gb324) ∧ (b 4 = true → gb324 ≠ gb318) ∧ (b 4 = true → gb319 ≠ gb324) ∧ (b 4 = true → gb324 ≠ gb319) ∧ (b 5 = true → b 7 = false → w'.heap[gb325]? = some (.cells #[.int .i64 0, .int .i64 0] 30 (0, 0))) ∧ (b 5 = true → w.heap.size ≤ gb325) ∧ (b 5 = true → w.heap.size ≤ gb325) ∧ (b 5 = true → gb318 ≠ gb325) ∧ (b 5 = true → gb325 ≠ gb318) ∧ (b 5 = true → gb319 ≠ gb325) ∧ (b 5 = true → gb325 ≠ gb319) ∧ (b 6 = true → w'.heap[gb324]? = some (.cells #[.int .i64 t320, .int .i64 t321] 30 (0, 0))) ∧ (b 7 = true → w'.heap[gb325]? = some (.cells #[.int .i64 t322, .int .i64 t323] 30 (0, 0))) ∧ (b 4 = true → (m4_ : Value) = .pointer (some ⟨gb324, 0, none⟩)) ∧ (b 5 = true → (m5_ : Value) = .pointer (some ⟨gb325, 0, none⟩))) HT_.out HW_.out (by kernel_rfl) (by kernel_rfl) ?_ ?_ ?_
 ·
  exact ⟨0, 0, .bool false, .bool false, by simp only [putSel, Bool.false_eq_true, if_false], BK318.out, BK319.out, HB.out, fun h_ => absurd h_ (by decide), fun h_ => absurd h_ (by decide), fun h_ => absurd h_ (by decide), fun h_ => absurd h_ (by decide), fun h_ => absurd h_ (by decide), fun h_ => absurd h_ (by decide), fun h_ => absurd h_ (by decide), fun h_ => absurd h_ (by decide), fun h_ => absurd h_ (by decide), fun h_ => absurd h_ (by decide), fun h_ => absurd h_ (by decide), fun h_ => absurd h_ (by decide), fun h_ => absurd h_ (by decide), fun h_ => absurd h_ (by decide), fun h_ => absurd h_ (by decide), fun h_ => absurd h_ (by decide), fun h_ => absurd h_ (by decide), fun h_ => absurd h_ (by decide), fun h_ => absurd h_ (by decide), fun h_ => absurd h_ (by decide)⟩
 ·
  skip
  clear BK318 BK319 HB
  refine steps_cons ?_ ?_
  ·
   rintro b a w' ⟨gb324, gb325, m4_, m5_, ha, Q_BK318, Q_BK319, Q_HB, Q_NB325_324, Q_NB324_325, Q_BK324, Q_GW324, Q_GE324, Q_NB318_324, Q_NB324_318, Q_NB319_324, Q_NB324_319, Q_BK325, Q_GW325, Q_GE325, Q_NB318_325, Q_NB325_318, Q_NB319_325, Q_NB325_319, Q_BK324_e6, Q_BK325_e7, Q_X4_, Q_X5_⟩ hb_ hon hoff
   refine ⟨_, rfl, fun K hK => ?_⟩
   have e2 : a.tmps[2]? = some (.pointer (some ⟨gb318, 0, none⟩)) := by rw [ha]; exact (putSel_off rfl).trans rfl
   replace ha := Ad.mk ha
   have BK318 := Ad.mk Q_BK318
   have BK319 := Ad.mk Q_BK319
   have HB := Ad.mk Q_HB
   have hc0_ : w'.cell? ⟨gb318, 0, none⟩ = some (.int .i64 a0_0) := (qkc BK318.out 0).trans rfl
   have hc1_ : w'.cell? ⟨gb318, 1, none⟩ = some (.int .i64 a0_1) := (qkc BK318.out 1).trans rfl
   have hc2_ : w'.cell? ⟨gb318, 2, none⟩ = some (.int .i64 a0_2) := (qkc BK318.out 2).trans rfl
   have hc3_ : w'.cell? ⟨gb318, 3, none⟩ = some (.int .i64 a0_3) := (qkc BK318.out 3).trans rfl
   refine value_ (w1 := w') (v := .agg #[.int .i64 a0_0, .int .i64 a0_1, .int .i64 a0_2, .int .i64 a0_3]) (by rfl) rfl ?_ ?_
   ·
    go_simp
    (try simp only [i64_w])
    try rfl
   refine hK.out _ _ ⟨gb324, gb325, m4_, m5_, (by rw [ha.out]; exact putSel_upk 0 hb_ rfl rfl rfl), Q_BK318, Q_BK319, Q_HB, Q_NB325_324, Q_NB324_325, Q_BK324, Q_GW324, Q_GE324, Q_NB318_324, Q_NB324_318, Q_NB319_324, Q_NB324_319, Q_BK325, Q_GW325, Q_GE325, Q_NB318_325, Q_NB325_318, Q_NB319_325, Q_NB325_319, fun h0_ => absurd ((hoff 6 (by kernel_rfl)).symm.trans h0_) (by decide), fun h0_ => absurd ((hoff 7 (by kernel_rfl)).symm.trans h0_) (by decide), Q_X4_, Q_X5_⟩
  refine steps_cons ?_ ?_
  ·
   rintro b a w' ⟨gb324, gb325, m4_, m5_, ha, Q_BK318, Q_BK319, Q_HB, Q_NB325_324, Q_NB324_325, Q_BK324, Q_GW324, Q_GE324, Q_NB318_324, Q_NB324_318, Q_NB319_324, Q_NB324_319, Q_BK325, Q_GW325, Q_GE325, Q_NB318_325, Q_NB325_318, Q_NB319_325, Q_NB325_319, Q_BK324_e6, Q_BK325_e7, Q_X4_, Q_X5_⟩ hb_ hon hoff
   refine ⟨_, rfl, fun K hK => ?_⟩
   have e11 : a.tmps[11]? = some (.agg #[.int .i64 a0_0, .int .i64 a0_1, .int .i64 a0_2, .int .i64 a0_3]) := by rw [ha]; exact putSel_on (e := (0, 11, .agg #[.int .i64 a0_0, .int .i64 a0_1, .int .i64 a0_2, .int .i64 a0_3])) 0 rfl rfl (hon 0 (by kernel_rfl)) rfl
   replace ha := Ad.mk ha
   have BK318 := Ad.mk Q_BK318
   have BK319 := Ad.mk Q_BK319
   have HB := Ad.mk Q_HB
   refine goes_ Tryd.func79 (by kernel_rfl) rfl #[.agg #[.int .i64 a0_0, .int .i64 a0_1, .int .i64 a0_2, .int .i64 a0_3]] (by rfl) rfl rfl (by first | (simp only [List.map_toArray, List.map_cons, List.map_nil, Act.eval, Array.getD_eq_getD_getElem?, Option.getD_some, e11]; done) | (simp only [List.map_toArray, List.map_cons, List.map_nil, Act.eval, Array.getD_eq_getD_getElem?, Option.getD_some, e11]; rfl)) ?_
   with_reducible refine (tune_quotient.calls k a0_0 a0_1 a0_2 a0_3 t320 t321 _ A3.out).mono ?_
   rintro e w10 ⟨rfl, hb⟩
   refine ⟨_, rfl, ?_⟩
   have n0_ := Ad.mk (qkb (by exact BK318.out) hb)
   have n1_ := Ad.mk (qkb (by exact BK319.out) hb)
   have n2_ := Ad.mk (qbt (by repeat (first | (with_reducible first | exact HB.out | apply qbn | apply qb1) | exact HB.out)) hb)
   have z_BK324 := fun (h0_ : b 4 = true) (h1_ : b 6 = false) => (show w10.heap[gb324]? = some (.cells #[.int .i64 0, .int .i64 0] 30 (0, 0)) from by first | exact (qkb (g := gb324) (o := .cells #[.int .i64 0, .int .i64 0] 30 (0, 0)) (by exact (Q_BK324 h0_ h1_)) hb))
   have z_BK325 := fun (h0_ : b 5 = true) (h1_ : b 7 = false) => (show w10.heap[gb325]? = some (.cells #[.int .i64 0, .int .i64 0] 30 (0, 0)) from by first | exact (qkb (g := gb325) (o := .cells #[.int .i64 0, .int .i64 0] 30 (0, 0)) (by exact (Q_BK325 h0_ h1_)) hb))
   clear BK318
   clear BK319
   clear HB
   have BK318 := n0_
   have BK319 := n1_
   have HB := n2_
   clear n0_ n1_ n2_
   (try clear hb)
   (try clear hb2)
   (try clear hk)
   (try clear hi)
   refine hK.out _ _ ⟨gb324, gb325, m4_, m5_, (by rw [ha.out]; exact putSel_upk 1 hb_ rfl rfl rfl), (by exact BK318.out), (by exact BK319.out), (by repeat (first | (with_reducible first | exact HB.out | apply qbn | apply qb1) | exact HB.out)), Q_NB325_324, Q_NB324_325, z_BK324, Q_GW324, Q_GE324, Q_NB318_324, Q_NB324_318, Q_NB319_324, Q_NB324_319, z_BK325, Q_GW325, Q_GE325, Q_NB318_325, Q_NB325_318, Q_NB319_325, Q_NB325_319, fun h0_ => absurd ((hoff 6 (by kernel_rfl)).symm.trans h0_) (by decide), fun h0_ => absurd ((hoff 7 (by kernel_rfl)).symm.trans h0_) (by decide), Q_X4_, Q_X5_⟩
  refine steps_cons ?_ ?_
  ·
   rintro b a w' ⟨gb324, gb325, m4_, m5_, ha, Q_BK318, Q_BK319, Q_HB, Q_NB325_324, Q_NB324_325, Q_BK324, Q_GW324, Q_GE324, Q_NB318_324, Q_NB324_318, Q_NB319_324, Q_NB324_319, Q_BK325, Q_GW325, Q_GE325, Q_NB318_325, Q_NB325_318, Q_NB319_325, Q_NB325_319, Q_BK324_e6, Q_BK325_e7, Q_X4_, Q_X5_⟩ hb_ hon hoff
   refine ⟨_, rfl, fun K hK => ?_⟩
   have e3 : a.tmps[3]? = some (.pointer (some ⟨gb319, 0, none⟩)) := by rw [ha]; exact (putSel_off rfl).trans rfl
   replace ha := Ad.mk ha
   have BK318 := Ad.mk Q_BK318
   have BK319 := Ad.mk Q_BK319
   have HB := Ad.mk Q_HB
   have hc0_ : w'.cell? ⟨gb319, 0, none⟩ = some (.int .i64 a1_0) := (qkc BK319.out 0).trans rfl
   have hc1_ : w'.cell? ⟨gb319, 1, none⟩ = some (.int .i64 a1_1) := (qkc BK319.out 1).trans rfl
   have hc2_ : w'.cell? ⟨gb319, 2, none⟩ = some (.int .i64 a1_2) := (qkc BK319.out 2).trans rfl
   have hc3_ : w'.cell? ⟨gb319, 3, none⟩ = some (.int .i64 a1_3) := (qkc BK319.out 3).trans rfl
   refine value_ (w1 := w') (v := .agg #[.int .i64 a1_0, .int .i64 a1_1, .int .i64 a1_2, .int .i64 a1_3]) (by rfl) rfl ?_ ?_
   ·
    go_simp
    (try simp only [i64_w])
    try rfl
   refine hK.out _ _ ⟨gb324, gb325, m4_, m5_, (by rw [ha.out]; exact putSel_upk 2 hb_ rfl rfl rfl), Q_BK318, Q_BK319, Q_HB, Q_NB325_324, Q_NB324_325, Q_BK324, Q_GW324, Q_GE324, Q_NB318_324, Q_NB324_318, Q_NB319_324, Q_NB324_319, Q_BK325, Q_GW325, Q_GE325, Q_NB318_325, Q_NB325_318, Q_NB319_325, Q_NB325_319, fun h0_ => absurd ((hoff 6 (by kernel_rfl)).symm.trans h0_) (by decide), fun h0_ => absurd ((hoff 7 (by kernel_rfl)).symm.trans h0_) (by decide), Q_X4_, Q_X5_⟩
  refine steps_cons ?_ ?_
  ·
   rintro b a w' ⟨gb324, gb325, m4_, m5_, ha, Q_BK318, Q_BK319, Q_HB, Q_NB325_324, Q_NB324_325, Q_BK324, Q_GW324, Q_GE324, Q_NB318_324, Q_NB324_318, Q_NB319_324, Q_NB324_319, Q_BK325, Q_GW325, Q_GE325, Q_NB318_325, Q_NB325_318, Q_NB319_325, Q_NB325_319, Q_BK324_e6, Q_BK325_e7, Q_X4_, Q_X5_⟩ hb_ hon hoff
   refine ⟨_, rfl, fun K hK => ?_⟩
   have e13 : a.tmps[13]? = some (.agg #[.int .i64 a1_0, .int .i64 a1_1, .int .i64 a1_2, .int .i64 a1_3]) := by rw [ha]; exact putSel_on (e := (2, 13, .agg #[.int .i64 a1_0, .int .i64 a1_1, .int .i64 a1_2, .int .i64 a1_3])) 2 rfl rfl (hon 2 (by kernel_rfl)) rfl
   replace ha := Ad.mk ha
   have BK318 := Ad.mk Q_BK318
   have BK319 := Ad.mk Q_BK319
   have HB := Ad.mk Q_HB
   refine goes_ Tryd.func79 (by kernel_rfl) rfl #[.agg #[.int .i64 a1_0, .int .i64 a1_1, .int .i64 a1_2, .int .i64 a1_3]] (by rfl) rfl rfl (by first | (simp only [List.map_toArray, List.map_cons, List.map_nil, Act.eval, Array.getD_eq_getD_getElem?, Option.getD_some, e13]; done) | (simp only [List.map_toArray, List.map_cons, List.map_nil, Act.eval, Array.getD_eq_getD_getElem?, Option.getD_some, e13]; rfl)) ?_
   with_reducible refine (tune_quotient.calls k a1_0 a1_1 a1_2 a1_3 t322 t323 _ A4.out).mono ?_
   rintro e w12 ⟨rfl, hb⟩
   refine ⟨_, rfl, ?_⟩
   have n0_ := Ad.mk (qkb (by exact BK318.out) hb)
   have n1_ := Ad.mk (qkb (by exact BK319.out) hb)
   have n2_ := Ad.mk (qbt (by repeat (first | (with_reducible first | exact HB.out | apply qbn | apply qb1) | exact HB.out)) hb)
   have z_BK324 := fun (h0_ : b 4 = true) (h1_ : b 6 = false) => (show w12.heap[gb324]? = some (.cells #[.int .i64 0, .int .i64 0] 30 (0, 0)) from by first | exact (qkb (g := gb324) (o := .cells #[.int .i64 0, .int .i64 0] 30 (0, 0)) (by exact (Q_BK324 h0_ h1_)) hb))
   have z_BK325 := fun (h0_ : b 5 = true) (h1_ : b 7 = false) => (show w12.heap[gb325]? = some (.cells #[.int .i64 0, .int .i64 0] 30 (0, 0)) from by first | exact (qkb (g := gb325) (o := .cells #[.int .i64 0, .int .i64 0] 30 (0, 0)) (by exact (Q_BK325 h0_ h1_)) hb))
   clear BK318
   clear BK319
   clear HB
   have BK318 := n0_
   have BK319 := n1_
   have HB := n2_
   clear n0_ n1_ n2_
   (try clear hb)
   (try clear hb2)
   (try clear hk)
   (try clear hi)
   refine hK.out _ _ ⟨gb324, gb325, m4_, m5_, (by rw [ha.out]; exact putSel_upk 3 hb_ rfl rfl rfl), (by exact BK318.out), (by exact BK319.out), (by repeat (first | (with_reducible first | exact HB.out | apply qbn | apply qb1) | exact HB.out)), Q_NB325_324, Q_NB324_325, z_BK324, Q_GW324, Q_GE324, Q_NB318_324, Q_NB324_318, Q_NB319_324, Q_NB324_319, z_BK325, Q_GW325, Q_GE325, Q_NB318_325, Q_NB325_318, Q_NB319_325, Q_NB325_319, fun h0_ => absurd ((hoff 6 (by kernel_rfl)).symm.trans h0_) (by decide), fun h0_ => absurd ((hoff 7 (by kernel_rfl)).symm.trans h0_) (by decide), Q_X4_, Q_X5_⟩
  refine steps_cons ?_ ?_
  ·
   rintro b a w' ⟨gb324, gb325, m4_, m5_, ha, Q_BK318, Q_BK319, Q_HB, Q_NB325_324, Q_NB324_325, Q_BK324, Q_GW324, Q_GE324, Q_NB318_324, Q_NB324_318, Q_NB319_324, Q_NB324_319, Q_BK325, Q_GW325, Q_GE325, Q_NB318_325, Q_NB325_318, Q_NB319_325, Q_NB325_319, Q_BK324_e6, Q_BK325_e7, Q_X4_, Q_X5_⟩ hb_ hon hoff
   refine ⟨_, rfl, fun K hK => ?_⟩
   replace ha := Ad.mk ha
   have BK318 := Ad.mk Q_BK318
   have BK319 := Ad.mk Q_BK319
   have HB := Ad.mk Q_HB
   refine box_step ?hg (N := 5) ?hd (cs := #[.int .i64 0, .int .i64 0]) (t := 30) ?hr ?_; (case hd => rfl); (case hg => rfl); (case hr => first | (go_simp; done) | (go_simp; rfl))
   intro gb324 hg w10 hbox hb
   have n0_ := Ad.mk (qkb (by exact BK318.out) hb)
   have n1_ := Ad.mk (qkb (by exact BK319.out) hb)
   have n2_ := Ad.mk (qbt (by repeat (first | (with_reducible first | exact HB.out | apply qbn | apply qb1) | exact HB.out)) hb)
   have n3_ := Ad.mk (hbox)
   have n4_ := Ad.mk ((by rw [hg]; exact (qbz (by repeat (first | (with_reducible first | exact HB.out | apply qbn | apply qb1) | exact HB.out))) : w.heap.size ≤ gb324))
   have n5_ := Ad.mk ((by rw [hg]; exact (qbz (by repeat (first | (with_reducible first | exact HB.out | apply qbn | apply qb1) | exact HB.out))) : w.heap.size ≤ gb324))
   have n6_ := Ad.mk ((by rw [hg]; exact Nat.ne_of_lt (qkl (by exact BK318.out)) : gb318 ≠ gb324))
   have n7_ := Ad.mk ((by rw [hg]; exact Nat.ne_of_gt (qkl (by exact BK318.out)) : gb324 ≠ gb318))
   have n8_ := Ad.mk ((by rw [hg]; exact Nat.ne_of_lt (qkl (by exact BK319.out)) : gb319 ≠ gb324))
   have n9_ := Ad.mk ((by rw [hg]; exact Nat.ne_of_gt (qkl (by exact BK319.out)) : gb324 ≠ gb319))
   have z_NB325_324 := fun (h0_ : up b 4 4 = true) (h1_ : up b 4 5 = true) => (show gb325 ≠ gb324 from ((by rw [hg]; exact Nat.ne_of_lt (qkl (g := gb325) (o := .cells #[.int .i64 0, .int .i64 0] 30 (0, 0)) (by exact (Q_BK325 h1_ (hoff 7 (by kernel_rfl))))) : gb325 ≠ gb324)))
   have z_NB324_325 := fun (h0_ : up b 4 4 = true) (h1_ : up b 4 5 = true) => (show gb324 ≠ gb325 from ((by rw [hg]; exact Nat.ne_of_gt (qkl (g := gb325) (o := .cells #[.int .i64 0, .int .i64 0] 30 (0, 0)) (by exact (Q_BK325 h1_ (hoff 7 (by kernel_rfl))))) : gb324 ≠ gb325)))
   have z_BK325 := fun (h0_ : b 5 = true) (h1_ : b 7 = false) => (show w10.heap[gb325]? = some (.cells #[.int .i64 0, .int .i64 0] 30 (0, 0)) from by first | exact (qkb (g := gb325) (o := .cells #[.int .i64 0, .int .i64 0] 30 (0, 0)) (by exact (Q_BK325 h0_ h1_)) hb))
   clear BK318
   clear BK319
   clear HB
   have BK318 := n0_
   have BK319 := n1_
   have HB := n2_
   have BK324 := n3_
   have GW324 := n4_
   have GE324 := n5_
   have NB318_324 := n6_
   have NB324_318 := n7_
   have NB319_324 := n8_
   have NB324_319 := n9_
   clear n0_ n1_ n2_ n3_ n4_ n5_ n6_ n7_ n8_ n9_
   clear hb hbox hg
   refine hK.out _ _ ⟨gb324, gb325, (.pointer (some ⟨gb324, 0, none⟩)), m5_, (by rw [ha.out]; exact putSel_upk 4 hb_ rfl rfl rfl), (by exact BK318.out), (by exact BK319.out), (by repeat (first | (with_reducible first | exact HB.out | apply qbn | apply qb1) | exact HB.out)), z_NB325_324, z_NB324_325, fun _ _ => (by exact BK324.out), fun _ => GW324.out, fun _ => GE324.out, fun _ => NB318_324.out, fun _ => NB324_318.out, fun _ => NB319_324.out, fun _ => NB324_319.out, z_BK325, Q_GW325, Q_GE325, Q_NB318_325, Q_NB325_318, Q_NB319_325, Q_NB325_319, fun h0_ => absurd ((hoff 6 (by kernel_rfl)).symm.trans h0_) (by decide), fun h0_ => absurd ((hoff 7 (by kernel_rfl)).symm.trans h0_) (by decide), fun _ => rfl, Q_X5_⟩
  refine steps_cons ?_ ?_
  ·
   rintro b a w' ⟨gb324, gb325, m4_, m5_, ha, Q_BK318, Q_BK319, Q_HB, Q_NB325_324, Q_NB324_325, Q_BK324, Q_GW324, Q_GE324, Q_NB318_324, Q_NB324_318, Q_NB319_324, Q_NB324_319, Q_BK325, Q_GW325, Q_GE325, Q_NB318_325, Q_NB325_318, Q_NB319_325, Q_NB325_319, Q_BK324_e6, Q_BK325_e7, Q_X4_, Q_X5_⟩ hb_ hon hoff
   refine ⟨_, rfl, fun K hK => ?_⟩
   replace ha := Ad.mk ha
   have BK318 := Ad.mk Q_BK318
   have BK319 := Ad.mk Q_BK319
   have HB := Ad.mk Q_HB
   refine box_step ?hg (N := 6) ?hd (cs := #[.int .i64 0, .int .i64 0]) (t := 30) ?hr ?_; (case hd => rfl); (case hg => rfl); (case hr => first | (go_simp; done) | (go_simp; rfl))
   intro gb325 hg w10 hbox hb
   have n0_ := Ad.mk (qkb (by exact BK318.out) hb)
   have n1_ := Ad.mk (qkb (by exact BK319.out) hb)
   have n2_ := Ad.mk (qbt (by repeat (first | (with_reducible first | exact HB.out | apply qbn | apply qb1) | exact HB.out)) hb)
   have n3_ := Ad.mk (hbox)
   have n4_ := Ad.mk ((by rw [hg]; exact (qbz (by repeat (first | (with_reducible first | exact HB.out | apply qbn | apply qb1) | exact HB.out))) : w.heap.size ≤ gb325))
   have n5_ := Ad.mk ((by rw [hg]; exact (qbz (by repeat (first | (with_reducible first | exact HB.out | apply qbn | apply qb1) | exact HB.out))) : w.heap.size ≤ gb325))
   have n6_ := Ad.mk ((by rw [hg]; exact Nat.ne_of_lt (qkl (by exact BK318.out)) : gb318 ≠ gb325))
   have n7_ := Ad.mk ((by rw [hg]; exact Nat.ne_of_gt (qkl (by exact BK318.out)) : gb325 ≠ gb318))
   have n8_ := Ad.mk ((by rw [hg]; exact Nat.ne_of_lt (qkl (by exact BK319.out)) : gb319 ≠ gb325))
   have n9_ := Ad.mk ((by rw [hg]; exact Nat.ne_of_gt (qkl (by exact BK319.out)) : gb325 ≠ gb319))
   have z_NB325_324 := fun (h0_ : up b 5 4 = true) (h1_ : up b 5 5 = true) => (show gb325 ≠ gb324 from ((by rw [hg]; exact Nat.ne_of_gt (qkl (g := gb324) (o := .cells #[.int .i64 0, .int .i64 0] 30 (0, 0)) (by exact (Q_BK324 h0_ (hoff 6 (by kernel_rfl))))) : gb325 ≠ gb324)))
   have z_NB324_325 := fun (h0_ : up b 5 4 = true) (h1_ : up b 5 5 = true) => (show gb324 ≠ gb325 from ((by rw [hg]; exact Nat.ne_of_lt (qkl (g := gb324) (o := .cells #[.int .i64 0, .int .i64 0] 30 (0, 0)) (by exact (Q_BK324 h0_ (hoff 6 (by kernel_rfl))))) : gb324 ≠ gb325)))
   have z_BK324 := fun (h0_ : b 4 = true) (h1_ : b 6 = false) => (show w10.heap[gb324]? = some (.cells #[.int .i64 0, .int .i64 0] 30 (0, 0)) from by first | exact (qkb (g := gb324) (o := .cells #[.int .i64 0, .int .i64 0] 30 (0, 0)) (by exact (Q_BK324 h0_ h1_)) hb))
   clear BK318
   clear BK319
   clear HB
   have BK318 := n0_
   have BK319 := n1_
   have HB := n2_
   have BK325 := n3_
   have GW325 := n4_
   have GE325 := n5_
   have NB318_325 := n6_
   have NB325_318 := n7_
   have NB319_325 := n8_
   have NB325_319 := n9_
   clear n0_ n1_ n2_ n3_ n4_ n5_ n6_ n7_ n8_ n9_
   clear hb hbox hg
   refine hK.out _ _ ⟨gb324, gb325, m4_, (.pointer (some ⟨gb325, 0, none⟩)), (by rw [ha.out]; exact putSel_upk 5 hb_ rfl rfl rfl), (by exact BK318.out), (by exact BK319.out), (by repeat (first | (with_reducible first | exact HB.out | apply qbn | apply qb1) | exact HB.out)), z_NB325_324, z_NB324_325, z_BK324, Q_GW324, Q_GE324, Q_NB318_324, Q_NB324_318, Q_NB319_324, Q_NB324_319, fun _ _ => (by exact BK325.out), fun _ => GW325.out, fun _ => GE325.out, fun _ => NB318_325.out, fun _ => NB325_318.out, fun _ => NB319_325.out, fun _ => NB325_319.out, fun h0_ => absurd ((hoff 6 (by kernel_rfl)).symm.trans h0_) (by decide), fun h0_ => absurd ((hoff 7 (by kernel_rfl)).symm.trans h0_) (by decide), Q_X4_, fun _ => rfl⟩
  refine steps_cons ?_ ?_
  ·
   rintro b a w' ⟨gb324, gb325, m4_, m5_, ha, Q_BK318, Q_BK319, Q_HB, Q_NB325_324, Q_NB324_325, Q_BK324, Q_GW324, Q_GE324, Q_NB318_324, Q_NB324_318, Q_NB319_324, Q_NB324_319, Q_BK325, Q_GW325, Q_GE325, Q_NB318_325, Q_NB325_318, Q_NB319_325, Q_NB325_319, Q_BK324_e6, Q_BK325_e7, Q_X4_, Q_X5_⟩ hb_ hon hoff
   refine ⟨_, rfl, fun K hK => ?_⟩
   have e5 : a.tmps[5]? = some (m4_) := by rw [ha]; exact putSel_on (e := (4, 5, m4_)) 4 rfl rfl (hon 4 (by kernel_rfl)) rfl
   rw [Q_X4_ (hon 4 (by kernel_rfl))] at e5
   have e12 : a.tmps[12]? = some (.agg #[.int .i64 t320, .int .i64 t321]) := by rw [ha]; exact putSel_on (e := (1, 12, .agg #[.int .i64 t320, .int .i64 t321])) 1 rfl rfl (hon 1 (by kernel_rfl)) rfl
   replace ha := Ad.mk ha
   have BK318 := Ad.mk Q_BK318
   have BK319 := Ad.mk Q_BK319
   have HB := Ad.mk Q_HB
   have NB325_324 := Ad.mk (Q_NB325_324 (hon 4 (by kernel_rfl)) (hon 5 (by kernel_rfl)))
   have NB324_325 := Ad.mk (Q_NB324_325 (hon 4 (by kernel_rfl)) (hon 5 (by kernel_rfl)))
   have BK324 := Ad.mk (Q_BK324 (hon 4 (by kernel_rfl)) hb_)
   have GW324 := Ad.mk (Q_GW324 (hon 4 (by kernel_rfl)))
   have GE324 := Ad.mk (Q_GE324 (hon 4 (by kernel_rfl)))
   have NB318_324 := Ad.mk (Q_NB318_324 (hon 4 (by kernel_rfl)))
   have NB324_318 := Ad.mk (Q_NB324_318 (hon 4 (by kernel_rfl)))
   have NB319_324 := Ad.mk (Q_NB319_324 (hon 4 (by kernel_rfl)))
   have NB324_319 := Ad.mk (Q_NB324_319 (hon 4 (by kernel_rfl)))
   have BK325 := Ad.mk (Q_BK325 (hon 5 (by kernel_rfl)) (hoff 7 (by kernel_rfl)))
   have GW325 := Ad.mk (Q_GW325 (hon 5 (by kernel_rfl)))
   have GE325 := Ad.mk (Q_GE325 (hon 5 (by kernel_rfl)))
   have NB318_325 := Ad.mk (Q_NB318_325 (hon 5 (by kernel_rfl)))
   have NB325_318 := Ad.mk (Q_NB325_318 (hon 5 (by kernel_rfl)))
   have NB319_325 := Ad.mk (Q_NB319_325 (hon 5 (by kernel_rfl)))
   have NB325_319 := Ad.mk (Q_NB325_319 (hon 5 (by kernel_rfl)))
   have hs15 : w'.cell? ⟨gb324, 0, none⟩ = some (.int .i64 0) := (qkc BK324.out 0).trans rfl
   have hfs15 := qkz BK324.out 0
   have hns15_0 := NB318_324.out
   have hns15_1 := NB319_324.out
   have hns15_3 := NB325_324.out
   have hms15_0 := NB324_318.out
   have hms15_1 := NB324_319.out
   have hms15_3 := NB324_325.out
   have hs16 : w'.cell? ⟨gb324, 1, none⟩ = some (.int .i64 0) := (qkc BK324.out 1).trans rfl
   have hfs16 := qkz BK324.out 1
   have hns16_0 := NB318_324.out
   have hns16_1 := NB319_324.out
   have hns16_3 := NB325_324.out
   have hms16_0 := NB324_318.out
   have hms16_1 := NB324_319.out
   have hms16_3 := NB324_325.out
   refine skip_ (w1 := ?_) (by rfl) rfl ?_ ?_
   rotate_left
   ·
    go_simp
    rfl
   refine hK.out _ _ ⟨gb324, gb325, m4_, m5_, (by rw [ha.out]; exact putSel_none (v := undef) rfl), (by (iterate 2 ((with_reducible repeat (first | apply qkn | apply qkd)); refine qkf ?_ NB318_324.out _)); (with_reducible repeat (first | apply qkn | apply qkd)); exact BK318.out), (by (iterate 2 ((with_reducible repeat (first | apply qkn | apply qkd)); refine qkf ?_ NB319_324.out _)); (with_reducible repeat (first | apply qkn | apply qkd)); exact BK319.out), (by repeat (first | (with_reducible first | exact HB.out | apply qbn | apply qb1 | refine qbs ?_ GE324.out) | exact HB.out)), fun _ _ => NB325_324.out, fun _ _ => NB324_325.out, fun _ h1_ => absurd ((up_self b 6).symm.trans h1_) (by decide), fun _ => GW324.out, fun _ => GE324.out, fun _ => NB318_324.out, fun _ => NB324_318.out, fun _ => NB319_324.out, fun _ => NB324_319.out, fun _ _ => (by (iterate 2 ((with_reducible repeat (first | apply qkn | apply qkd)); refine qkf ?_ NB325_324.out _)); (with_reducible repeat (first | apply qkn | apply qkd)); exact BK325.out), fun _ => GW325.out, fun _ => GE325.out, fun _ => NB318_325.out, fun _ => NB325_318.out, fun _ => NB319_325.out, fun _ => NB325_319.out, fun _ => (by (with_reducible repeat (first | apply qkn | apply qkd)); refine qkp (cs := #[.int .i64 t320, .int .i64 0]) ?_ 1 _ rfl; (with_reducible repeat (first | apply qkn | apply qkd)); refine qkp (cs := #[.int .i64 0, .int .i64 0]) ?_ 0 _ rfl; (with_reducible repeat (first | apply qkn | apply qkd)); exact BK324.out), fun h0_ => absurd ((hoff 7 (by kernel_rfl)).symm.trans h0_) (by decide), Q_X4_, Q_X5_⟩
  refine steps_cons ?_ ?_
  ·
   rintro b a w' ⟨gb324, gb325, m4_, m5_, ha, Q_BK318, Q_BK319, Q_HB, Q_NB325_324, Q_NB324_325, Q_BK324, Q_GW324, Q_GE324, Q_NB318_324, Q_NB324_318, Q_NB319_324, Q_NB324_319, Q_BK325, Q_GW325, Q_GE325, Q_NB318_325, Q_NB325_318, Q_NB319_325, Q_NB325_319, Q_BK324_e6, Q_BK325_e7, Q_X4_, Q_X5_⟩ hb_ hon hoff
   refine ⟨_, rfl, fun K hK => ?_⟩
   have e6 : a.tmps[6]? = some (m5_) := by rw [ha]; exact putSel_on (e := (5, 6, m5_)) 5 rfl rfl (hon 5 (by kernel_rfl)) rfl
   rw [Q_X5_ (hon 5 (by kernel_rfl))] at e6
   have e14 : a.tmps[14]? = some (.agg #[.int .i64 t322, .int .i64 t323]) := by rw [ha]; exact putSel_on (e := (3, 14, .agg #[.int .i64 t322, .int .i64 t323])) 3 rfl rfl (hon 3 (by kernel_rfl)) rfl
   replace ha := Ad.mk ha
   have BK318 := Ad.mk Q_BK318
   have BK319 := Ad.mk Q_BK319
   have HB := Ad.mk Q_HB
   have NB325_324 := Ad.mk (Q_NB325_324 (hon 4 (by kernel_rfl)) (hon 5 (by kernel_rfl)))
   have NB324_325 := Ad.mk (Q_NB324_325 (hon 4 (by kernel_rfl)) (hon 5 (by kernel_rfl)))
   have GW324 := Ad.mk (Q_GW324 (hon 4 (by kernel_rfl)))
   have GE324 := Ad.mk (Q_GE324 (hon 4 (by kernel_rfl)))
   have NB318_324 := Ad.mk (Q_NB318_324 (hon 4 (by kernel_rfl)))
   have NB324_318 := Ad.mk (Q_NB324_318 (hon 4 (by kernel_rfl)))
   have NB319_324 := Ad.mk (Q_NB319_324 (hon 4 (by kernel_rfl)))
   have NB324_319 := Ad.mk (Q_NB324_319 (hon 4 (by kernel_rfl)))
   have BK325 := Ad.mk (Q_BK325 (hon 5 (by kernel_rfl)) hb_)
   have GW325 := Ad.mk (Q_GW325 (hon 5 (by kernel_rfl)))
   have GE325 := Ad.mk (Q_GE325 (hon 5 (by kernel_rfl)))
   have NB318_325 := Ad.mk (Q_NB318_325 (hon 5 (by kernel_rfl)))
   have NB325_318 := Ad.mk (Q_NB325_318 (hon 5 (by kernel_rfl)))
   have NB319_325 := Ad.mk (Q_NB319_325 (hon 5 (by kernel_rfl)))
   have NB325_319 := Ad.mk (Q_NB325_319 (hon 5 (by kernel_rfl)))
   have BK324 := Ad.mk (Q_BK324_e6 (hon 6 (by kernel_rfl)))
   have hs17 : w'.cell? ⟨gb325, 0, none⟩ = some (.int .i64 0) := (qkc BK325.out 0).trans rfl
   have hfs17 := qkz BK325.out 0
   have hns17_0 := NB318_325.out
   have hns17_1 := NB319_325.out
   have hns17_2 := NB324_325.out
   have hms17_0 := NB325_318.out
   have hms17_1 := NB325_319.out
   have hms17_2 := NB325_324.out
   have hs18 : w'.cell? ⟨gb325, 1, none⟩ = some (.int .i64 0) := (qkc BK325.out 1).trans rfl
   have hfs18 := qkz BK325.out 1
   have hns18_0 := NB318_325.out
   have hns18_1 := NB319_325.out
   have hns18_2 := NB324_325.out
   have hms18_0 := NB325_318.out
   have hms18_1 := NB325_319.out
   have hms18_2 := NB325_324.out
   refine skip_ (w1 := ?_) (by rfl) rfl ?_ ?_
   rotate_left
   ·
    go_simp
    rfl
   refine hK.out _ _ ⟨gb324, gb325, m4_, m5_, (by rw [ha.out]; exact putSel_none (v := undef) rfl), (by (iterate 2 ((with_reducible repeat (first | apply qkn | apply qkd)); refine qkf ?_ NB318_325.out _)); (with_reducible repeat (first | apply qkn | apply qkd)); exact BK318.out), (by (iterate 2 ((with_reducible repeat (first | apply qkn | apply qkd)); refine qkf ?_ NB319_325.out _)); (with_reducible repeat (first | apply qkn | apply qkd)); exact BK319.out), (by repeat (first | (with_reducible first | exact HB.out | apply qbn | apply qb1 | refine qbs ?_ GE325.out) | exact HB.out)), fun _ _ => NB325_324.out, fun _ _ => NB324_325.out, fun _ h1_ => absurd ((hon 6 (by kernel_rfl)).symm.trans h1_) (by decide), fun _ => GW324.out, fun _ => GE324.out, fun _ => NB318_324.out, fun _ => NB324_318.out, fun _ => NB319_324.out, fun _ => NB324_319.out, fun _ h1_ => absurd ((up_self b 7).symm.trans h1_) (by decide), fun _ => GW325.out, fun _ => GE325.out, fun _ => NB318_325.out, fun _ => NB325_318.out, fun _ => NB319_325.out, fun _ => NB325_319.out, fun _ => (by (iterate 2 ((with_reducible repeat (first | apply qkn | apply qkd)); refine qkf ?_ NB324_325.out _)); (with_reducible repeat (first | apply qkn | apply qkd)); exact BK324.out), fun _ => (by (with_reducible repeat (first | apply qkn | apply qkd)); refine qkp (cs := #[.int .i64 t322, .int .i64 0]) ?_ 1 _ rfl; (with_reducible repeat (first | apply qkn | apply qkd)); refine qkp (cs := #[.int .i64 0, .int .i64 0]) ?_ 0 _ rfl; (with_reducible repeat (first | apply qkn | apply qkd)); exact BK325.out), Q_X4_, Q_X5_⟩
  exact steps_nil
 rintro b a w18 hall ⟨gb324, gb325, m4_, m5_, ha, Q_BK318, Q_BK319, Q_HB, Q_NB325_324, Q_NB324_325, Q_BK324, Q_GW324, Q_GE324, Q_NB318_324, Q_NB324_318, Q_NB319_324, Q_NB324_319, Q_BK325, Q_GW325, Q_GE325, Q_NB318_325, Q_NB325_318, Q_NB319_325, Q_NB325_319, Q_BK324_e6, Q_BK325_e7, Q_X4_, Q_X5_⟩
 clear BK318 BK319 HB
 have hb0_ := hall 0 (by kernel_rfl)
 have hb1_ := hall 1 (by kernel_rfl)
 have hb2_ := hall 2 (by kernel_rfl)
 have hb3_ := hall 3 (by kernel_rfl)
 have hb4_ := hall 4 (by kernel_rfl)
 have hb5_ := hall 5 (by kernel_rfl)
 have hb6_ := hall 6 (by kernel_rfl)
 have hb7_ := hall 7 (by kernel_rfl)
 subst ha
 obtain rfl := Q_X4_ hb4_
 obtain rfl := Q_X5_ hb5_
 simp only [putSel, hb0_, hb1_, hb2_, hb3_, hb4_, hb5_, hb6_, hb7_, if_true, Act.put, List.setIfInBounds_toArray, List.set_cons_zero, List.set_cons_succ]
 have BK318 := Ad.mk Q_BK318
 clear Q_BK318
 have BK319 := Ad.mk Q_BK319
 clear Q_BK319
 have HB := Ad.mk Q_HB
 clear Q_HB
 have NB325_324 := Ad.mk (Q_NB325_324 hb4_ hb5_)
 clear Q_NB325_324
 have NB324_325 := Ad.mk (Q_NB324_325 hb4_ hb5_)
 clear Q_NB324_325
 clear Q_BK324
 have GW324 := Ad.mk (Q_GW324 hb4_)
 clear Q_GW324
 have GE324 := Ad.mk (Q_GE324 hb4_)
 clear Q_GE324
 have NB318_324 := Ad.mk (Q_NB318_324 hb4_)
 clear Q_NB318_324
 have NB324_318 := Ad.mk (Q_NB324_318 hb4_)
 clear Q_NB324_318
 have NB319_324 := Ad.mk (Q_NB319_324 hb4_)
 clear Q_NB319_324
 have NB324_319 := Ad.mk (Q_NB324_319 hb4_)
 clear Q_NB324_319
 clear Q_BK325
 have GW325 := Ad.mk (Q_GW325 hb5_)
 clear Q_GW325
 have GE325 := Ad.mk (Q_GE325 hb5_)
 clear Q_GE325
 have NB318_325 := Ad.mk (Q_NB318_325 hb5_)
 clear Q_NB318_325
 have NB325_318 := Ad.mk (Q_NB325_318 hb5_)
 clear Q_NB325_318
 have NB319_325 := Ad.mk (Q_NB319_325 hb5_)
 clear Q_NB319_325
 have NB325_319 := Ad.mk (Q_NB325_319 hb5_)
 clear Q_NB325_319
 have BK324 := Ad.mk (Q_BK324_e6 hb6_)
 clear Q_BK324_e6
 have BK325 := Ad.mk (Q_BK325_e7 hb7_)
 clear Q_BK325_e7
 clear hall hb0_ hb1_ hb2_ hb3_ hb4_ hb5_ hb6_ hb7_
 have hnb19 := NB324_318.out
 have hnc19 := NB318_324.out
 have hnb20 := NB324_319.out
 have hnc20 := NB319_324.out
 have hnb21 := NB324_325.out
 have hnc21 := NB325_324.out
 have hcz22_0 : w18.cell? ⟨gb324, 0, none⟩ = some (.int .i64 t320) := (qkc BK324.out 0).trans rfl
 have hcz22_1 : w18.cell? ⟨gb324, 1, none⟩ = some (.int .i64 t321) := (qkc BK324.out 1).trans rfl
 have hfz22_0 := qkz BK324.out 0
 have hfz22_1 := qkz BK324.out 1
 have hnb23 := NB325_318.out
 have hnc23 := NB318_325.out
 have hnb24 := NB325_319.out
 have hnc24 := NB319_325.out
 have hcz25_0 : w18.cell? ⟨gb325, 0, none⟩ = some (.int .i64 t322) := (qkc BK325.out 0).trans rfl
 have hcz25_1 : w18.cell? ⟨gb325, 1, none⟩ = some (.int .i64 t323) := (qkc BK325.out 1).trans rfl
 have hfz25_0 := qkz BK325.out 0
 have hfz25_1 := qkz BK325.out 1
 go_upto_region 3 with (first | ((with_reducible refine qgc (f := 138) rfl ?_); refine goesL_ (some 22) rfl rfl Tryd.func138 (by kernel_rfl) rfl #[.int .u64 (IntKind.u64.wrap (t320)), .int .u64 (IntKind.u64.wrap (t323))] rfl (by (try simp only [List.map_toArray, List.map_cons, List.map_nil]); first | done | rfl) ?_; (with_reducible refine (bits_Mul64.calls (IntKind.u64.wrap (t320)) (IntKind.u64.wrap (t323)) t326 t327 _ A5.out).mono ?_); rintro e w' ⟨rfl, ⟨nd, rfl⟩⟩; refine ⟨_, rfl, ?_⟩))
 (try simp only [Act.put, List.setIfInBounds_toArray, List.set_cons_zero, List.set_cons_succ])
 go_cut [9, 10] (fun v9 v10 wc => ∃ (kq : Nat) (x9_5 : Int) (x10_5 : Int), v9 = .int .u64 x9_5 ∧ v10 = .int .u64 x10_5 ∧ Ad (tune_compare.j0 kq t326 t327 x9_5 x10_5 = some r) ∧ Ad (kq ≤ k) ∧ Ad (wc.heap[gb318]? = some (.cells #[.int .i64 a0_0, .int .i64 a0_1, .int .i64 a0_2, .int .i64 a0_3] 27 (0, 0))) ∧ Ad (wc.heap[gb319]? = some (.cells #[.int .i64 a1_0, .int .i64 a1_1, .int .i64 a1_2, .int .i64 a1_3] 27 (0, 0))) ∧ Ad (wc.heap[gb324]? = some (.cells #[.int .i64 t320, .int .i64 t321] 30 (0, 0))) ∧ Ad (wc.heap[gb325]? = some (.cells #[.int .i64 t322, .int .i64 t323] 30 (0, 0))) ∧ Ad (Below w.heap.size w wc))
 case first =>
  have H := HC6.out
  clear HC6
  replace H := Option.bind_eq_some_iff.mp H
  obtain ⟨⟨t328, t329⟩, A260, H⟩ := H
  replace H : (tune_compare.j0 k t326 t327 t328 t329) = some r := H
  have A26 := Ad.mk A260
  clear A260
  have H' := Ad.mk H
  clear H
  have hnb27 := NB325_318.out
  have hnc27 := NB318_325.out
  have hnb28 := NB325_319.out
  have hnc28 := NB319_325.out
  have hnb29 := NB325_324.out
  have hnc29 := NB324_325.out
  have hcz30_0 : w18.cell? ⟨gb325, 0, none⟩ = some (.int .i64 t322) := (qkc BK325.out 0).trans rfl
  have hcz30_1 : w18.cell? ⟨gb325, 1, none⟩ = some (.int .i64 t323) := (qkc BK325.out 1).trans rfl
  have hfz30_0 := qkz BK325.out 0
  have hfz30_1 := qkz BK325.out 1
  have hnb31 := NB324_318.out
  have hnc31 := NB318_324.out
  have hnb32 := NB324_319.out
  have hnc32 := NB319_324.out
  have hcz33_0 : w18.cell? ⟨gb324, 0, none⟩ = some (.int .i64 t320) := (qkc BK324.out 0).trans rfl
  have hcz33_1 : w18.cell? ⟨gb324, 1, none⟩ = some (.int .i64 t321) := (qkc BK324.out 1).trans rfl
  have hfz33_0 := qkz BK324.out 0
  have hfz33_1 := qkz BK324.out 1
  go_wp2_with (first | ((with_reducible refine qgc (f := 138) rfl ?_); refine goesL_ (some 32) rfl rfl Tryd.func138 (by kernel_rfl) rfl #[.int .u64 (IntKind.u64.wrap (t322)), .int .u64 (IntKind.u64.wrap (t321))] rfl (by (try simp only [List.map_toArray, List.map_cons, List.map_nil]); first | done | rfl) ?_; (with_reducible refine (bits_Mul64.calls (IntKind.u64.wrap (t322)) (IntKind.u64.wrap (t321)) t328 t329 _ A26.out).mono ?_); rintro e w' ⟨rfl, ⟨nd, rfl⟩⟩; refine ⟨_, rfl, ?_⟩))
  go_meet
  case rel => exact ⟨_, (t328), (t329), (by first | rfl | (simp; done) | (simp [*]; done)), (by first | rfl | (simp; done) | (simp [*]; done)), H', ⟨by first | omega | exact Nat.le_refl _⟩, ⟨by exact BK318.out⟩, ⟨by exact BK319.out⟩, ⟨by exact BK324.out⟩, ⟨by exact BK325.out⟩, ⟨by repeat (first | (with_reducible first | exact HB.out | apply qbn | apply qb1) | exact HB.out)⟩⟩
 case rest =>
  clear HC6
  try clear c1
  try clear c2
  try clear p2
  try clear c3
  try clear c7
  try clear c8
  try clear c13
  try clear c19
  try clear c20
  try clear c21
  try clear c23
  try clear c24
  try clear c27
  try clear c28
  try clear c29
  try clear c31
  try clear c32
  try clear hcz22_0
  try clear hcz22_1
  try clear hcz25_0
  try clear hcz25_1
  try clear hcz30_0
  try clear hcz30_1
  try clear hcz33_0
  try clear hcz33_1
  try clear hfz22_0
  try clear hfz22_1
  try clear hfz25_0
  try clear hfz25_1
  try clear hfz30_0
  try clear hfz30_1
  try clear hfz33_0
  try clear hfz33_1
  obtain ⟨kq, x9_5, x10_5, rfl, rfl, HA, HJ5, BK318, BK319, BK324, BK325, HB⟩ := hcut
  cases kq with
  | zero => exact absurd HA.out (by simp [tune_compare.j0])
  | succ kj5 =>
   have H := HA.out
   clear HA
   simp only [tune_compare.j0] at H
   have HC34 := Ad.mk H
   clear H
   go_upto_region 4 with (fail)
   go_cut [35] (fun v35 wc => ∃ (kq : Nat) (x35_33 : Bool), v35 = .bool x35_33 ∧ Ad (tune_compare.j1 kq t326 t327 x9_5 x10_5 x35_33 = some r) ∧ Ad (kq ≤ kj5) ∧ Ad (wc.heap[gb318]? = some (.cells #[.int .i64 a0_0, .int .i64 a0_1, .int .i64 a0_2, .int .i64 a0_3] 27 (0, 0))) ∧ Ad (wc.heap[gb319]? = some (.cells #[.int .i64 a1_0, .int .i64 a1_1, .int .i64 a1_2, .int .i64 a1_3] 27 (0, 0))) ∧ Ad (wc.heap[gb324]? = some (.cells #[.int .i64 t320, .int .i64 t321] 30 (0, 0))) ∧ Ad (wc.heap[gb325]? = some (.cells #[.int .i64 t322, .int .i64 t323] 30 (0, 0))) ∧ Ad (Below w.heap.size w wc))
   case first =>
    have H := HC34.out
    clear HC34
    by_cases c35 : t326 < x9_5
    ·
     rw [if_pos c35] at H
     have c35b0 : decide (t326 < x9_5) = true := decide_eq_true c35
     clear c35
     (first | rw [c35b0] | (simp only [i64_w, i32_w]; rw [c35b0]) | skip)
     have H' := Ad.mk H
     clear H
     go_wp2
     go_meet
     case rel => exact ⟨_, (true), (by first | rfl | (simp; done) | (simp [*]; done)), H', ⟨by have := HJ5.out; first | omega | exact Nat.le_refl _⟩, ⟨by exact BK318.out⟩, ⟨by exact BK319.out⟩, ⟨by exact BK324.out⟩, ⟨by exact BK325.out⟩, ⟨by repeat (first | (with_reducible first | exact HB.out | apply qbn | apply qb1) | exact HB.out)⟩⟩
    ·
     rw [if_neg c35] at H
     have c35b0 : decide (t326 < x9_5) = false := decide_eq_false c35
     clear c35
     (first | rw [c35b0] | (simp only [i64_w, i32_w]; rw [c35b0]) | skip)
     by_cases c36 : t326 = x9_5
     ·
      rw [if_pos c36] at H
      have c36b0 : (t326 == x9_5) = true := beq_iff_eq.mpr c36
      have c36b1 : (t326 != x9_5) = false := bne_eq_false_iff_eq.mpr c36
      clear c36
      have H' := Ad.mk H
      clear H
      go_wp2
      go_meet
      case rel => exact ⟨_, (decide (t327 < x10_5)), (by first | rfl | (simp; done) | (simp [*]; done)), H', ⟨by have := HJ5.out; first | omega | exact Nat.le_refl _⟩, ⟨by exact BK318.out⟩, ⟨by exact BK319.out⟩, ⟨by exact BK324.out⟩, ⟨by exact BK325.out⟩, ⟨by repeat (first | (with_reducible first | exact HB.out | apply qbn | apply qb1) | exact HB.out)⟩⟩
     ·
      rw [if_neg c36] at H
      have c36b0 : (t326 == x9_5) = false := beq_eq_false_iff_ne.mpr c36
      have c36b1 : (t326 != x9_5) = true := bne_iff_ne.mpr c36
      have H' := Ad.mk H
      clear H
      go_wp2
      go_meet
      case rel => exact ⟨_, (false), (by first | rfl | (simp; done) | (simp [*]; done)), H', ⟨by have := HJ5.out; first | omega | exact Nat.le_refl _⟩, ⟨by exact BK318.out⟩, ⟨by exact BK319.out⟩, ⟨by exact BK324.out⟩, ⟨by exact BK325.out⟩, ⟨by repeat (first | (with_reducible first | exact HB.out | apply qbn | apply qb1) | exact HB.out)⟩⟩
   case rest =>
    clear HC34
    try clear c1
    try clear c2
    try clear p2
    try clear c3
    try clear c7
    try clear c8
    try clear c13
    try clear c19
    try clear c20
    try clear c21
    try clear c23
    try clear c24
    try clear c27
    try clear c28
    try clear c29
    try clear c31
    try clear c32
    try clear c35
    try clear c35b0
    try clear c36
    try clear c36b0
    try clear c36b1
    try clear hcz22_0
    try clear hcz22_1
    try clear hcz25_0
    try clear hcz25_1
    try clear hcz30_0
    try clear hcz30_1
    try clear hcz33_0
    try clear hcz33_1
    try clear hfz22_0
    try clear hfz22_1
    try clear hfz25_0
    try clear hfz25_1
    try clear hfz30_0
    try clear hfz30_1
    try clear hfz33_0
    try clear hfz33_1
    try clear p2
    obtain ⟨kq, x35_33, rfl, HA, HJ33, BK318, BK319, BK324, BK325, HB⟩ := hcut
    cases kq with
    | zero => exact absurd HA.out (by simp [tune_compare.j1])
    | succ kj33 =>
     have H := HA.out
     clear HA
     simp only [tune_compare.j1] at H
     by_cases c37 : x35_33 = true
     ·
      subst c37
      have H1 : (some (-1)) = some r := by rw [if_pos rfl] at H; exact H
      clear H
      have H := H1
      clear H1
      obtain rfl := Option.some.inj H
      go_wp2
      go_ret
      exact ⟨by first | rfl | (simp [errW_none, errW_some] <;> rfl) | (simp [*, errW_none, errW_some] <;> rfl), by repeat (first | (with_reducible first | exact HB.out | apply qbn | apply qb1) | exact HB.out)⟩
     ·
      replace c37 := Bool.eq_false_iff.mpr c37
      subst c37
      have H1 : (if t326 = x9_5 then (if t327 = x10_5 then (some 0) else (some 1)) else (some 1)) = some r := by rw [if_neg (show ¬ (false = true) by decide)] at H; exact H
      clear H
      have H := H1
      clear H1
      by_cases c38 : t326 = x9_5
      ·
       rw [if_pos c38] at H
       have c38b0 : (t326 == x9_5) = true := beq_iff_eq.mpr c38
       have c38b1 : (t326 != x9_5) = false := bne_eq_false_iff_eq.mpr c38
       clear c38
       by_cases c39 : t327 = x10_5
       ·
        rw [if_pos c39] at H
        have c39b0 : (t327 == x10_5) = true := beq_iff_eq.mpr c39
        have c39b1 : (t327 != x10_5) = false := bne_eq_false_iff_eq.mpr c39
        clear c39
        obtain rfl := Option.some.inj H
        go_wp2
        go_ret
        exact ⟨by first | rfl | (simp [errW_none, errW_some] <;> rfl) | (simp [*, errW_none, errW_some] <;> rfl), by repeat (first | (with_reducible first | exact HB.out | apply qbn | apply qb1) | exact HB.out)⟩
       ·
        rw [if_neg c39] at H
        have c39b0 : (t327 == x10_5) = false := beq_eq_false_iff_ne.mpr c39
        have c39b1 : (t327 != x10_5) = true := bne_iff_ne.mpr c39
        obtain rfl := Option.some.inj H
        go_wp2
        go_ret
        exact ⟨by first | rfl | (simp [errW_none, errW_some] <;> rfl) | (simp [*, errW_none, errW_some] <;> rfl), by repeat (first | (with_reducible first | exact HB.out | apply qbn | apply qb1) | exact HB.out)⟩
      ·
       rw [if_neg c38] at H
       have c38b0 : (t326 == x9_5) = false := beq_eq_false_iff_ne.mpr c38
       have c38b1 : (t326 != x9_5) = true := bne_iff_ne.mpr c38
       obtain rfl := Option.some.inj H
       go_wp2
       go_ret
       exact ⟨by first | rfl | (simp [errW_none, errW_some] <;> rfl) | (simp [*, errW_none, errW_some] <;> rfl), by repeat (first | (with_reducible first | exact HB.out | apply qbn | apply qb1) | exact HB.out)⟩

/-! ### tune_Compare: function 25 -/
def tune_Compare.f (k : Nat) (a0_0 : Int) (a0_1 : Int) (a0_2 : Int) (a0_3 : Int) (a1_0 : Int) (a1_1 : Int) (a1_2 : Int) (a1_3 : Int) : Option (Int × Int) := (tune_checkAll.f k (([(⟨a0_0, a0_1, a0_2, a0_3⟩ : S27), (⟨a1_0, a1_1, a1_2, a1_3⟩ : S27)] : List (S27)))).bind fun t335 => (if t335 = 0 then ((tune_compare.f k a0_0 a0_1 a0_2 a0_3 a1_0 a1_1 a1_2 a1_3).bind fun t336 => (some (t336, 0))) else (some (0, t335)))
theorem tune_Compare.mono : ∀ a0 a1 a2 a3 a4 a5 a6 a7 k, LeO (tune_Compare.f k a0 a1 a2 a3 a4 a5 a6 a7) (tune_Compare.f (k + 1) a0 a1 a2 a3 a4 a5 a6 a7) := by
 intro a0 a1 a2 a3 a4 a5 a6 a7 k
 unfold tune_Compare.f
 repeat' first
   | (with_reducible exact tune_checkAll.mono _ _)
   | (with_reducible exact tune_compare.mono _ _ _ _ _ _ _ _ _)
   | (with_reducible exact LeO.refl _)
   | (with_reducible exact LeO.none _)
   | (with_reducible refine LeO.ite ?_ ?_)
   | (with_reducible refine LeO.bind ?_ (fun _ => ?_))
   | exact tune_checkAll.mono _ _
   | exact tune_compare.mono _ _ _ _ _ _ _ _ _
   | exact LeO.none _
   | refine LeO.ite ?_ ?_
   | refine LeO.bind ?_ (fun _ => ?_)
set_option maxHeartbeats 8000000 in
set_option maxRecDepth 100000 in
theorem tune_Compare.calls (k : Nat) (a0_0 : Int) (a0_1 : Int) (a0_2 : Int) (a0_3 : Int) (a1_0 : Int) (a1_1 : Int) (a1_2 : Int) (a1_3 : Int) (r1 : Int) (r2 : Int) (w : World) (h : tune_Compare.f k a0_0 a0_1 a0_2 a0_3 a1_0 a1_1 a1_2 a1_3 = some (r1, r2)) :
  Calls Tryd.prog 25 #[.agg #[.int .i64 a0_0, .int .i64 a0_1, .int .i64 a0_2, .int .i64 a0_3], .agg #[.int .i64 a1_0, .int .i64 a1_1, .int .i64 a1_2, .int .i64 a1_3]] w fun e w' => e = .returned (.tuple #[.int .i64 r1, .int .i64 r2]) ∧ Below w.heap.size w w' := by
 have hu27 := Tryd.underlying27
 have HB := Ad.mk (Below.refl w.heap.size w)
 have H : ((tune_checkAll.f k (([(⟨a0_0, a0_1, a0_2, a0_3⟩ : S27), (⟨a1_0, a1_1, a1_2, a1_3⟩ : S27)] : List (S27)))).bind fun t335 => (if t335 = 0 then ((tune_compare.f k a0_0 a0_1 a0_2 a0_3 a1_0 a1_1 a1_2 a1_3).bind fun t336 => (some (t336, 0))) else (some (0, t335)))) = some (r1, r2) := h
 clear h
 obtain ⟨y332, hy332⟩ : ∃ y_ : List (S27), y_ = (([(⟨a0_0, a0_1, a0_2, a0_3⟩ : S27), (⟨a1_0, a1_1, a1_2, a1_3⟩ : S27)] : List (S27))) := ⟨_, rfl⟩
 replace H : ((tune_checkAll.f k y332).bind fun t335 => (if t335 = 0 then ((tune_compare.f k a0_0 a0_1 a0_2 a0_3 a1_0 a1_1 a1_2 a1_3).bind fun t336 => (some (t336, 0))) else (some (0, t335)))) = some (r1, r2) := by first | (rw [hy332]; with_reducible exact H) | (have H2_ := (Option.bind_some _ _).symm.trans H; rw [hy332]; with_reducible exact H2_) | (have H2_ := (Option.bind_some _ _).symm.trans H; with_reducible exact H2_) | with_reducible exact H | (rw [hy332]; exact H) | exact H
 have Ny332 := Ad.mk hy332
 clear hy332
 replace H := Option.bind_eq_some_iff.mp H
 obtain ⟨t335, A30, H⟩ := H
 replace H : (if t335 = 0 then ((tune_compare.f k a0_0 a0_1 a0_2 a0_3 a1_0 a1_1 a1_2 a1_3).bind fun t336 => (some (t336, 0))) else (some (0, t335))) = some (r1, r2) := H
 have A3 := Ad.mk A30
 clear A30
 by_cases c4 : t335 = 0
 ·
  rw [if_pos c4] at H
  have c4b0 : (t335 == 0) = true := beq_iff_eq.mpr c4
  have c4b1 : (t335 != 0) = false := bne_eq_false_iff_eq.mpr c4
  clear c4
  replace H := Option.bind_eq_some_iff.mp H
  obtain ⟨t336, A50, H⟩ := H
  replace H : (some (t336, 0)) = some (r1, r2) := H
  have A5 := Ad.mk A50
  clear A50
  simp only [Option.some.injEq, Prod.mk.injEq] at H
  obtain ⟨rfl, rfl⟩ := H
  go_enter Tryd.func25, Tryd.ntmps25
  go_wp2_with (first | ((with_reducible refine qgd (N := 2) rfl ?_); refine qbe ?hg (N := 2) ?hd (cs := #[.int .i64 a0_0, .int .i64 a0_1, .int .i64 a0_2, .int .i64 a0_3]) (t := 27) ?hr ?_; (case hd => rfl); (case hg => rfl); (case hr => first | (go_simp; done) | (go_simp; rfl)); intro gb330 hg w6 hbox hb; have BK330 := Ad.mk (hbox); have GW330 := Ad.mk ((by rw [hg]; exact (qbz (by repeat (first | (with_reducible first | exact HB.out | apply qba | apply qbn | apply qb1) | exact HB.out))) : w.heap.size ≤ gb330)); have GE330 := Ad.mk ((by rw [hg]; exact (qbz (by repeat (first | (with_reducible first | exact HB.out | apply qba | apply qbn | apply qb1) | exact HB.out))) : w.heap.size ≤ gb330)); replace HB := Ad.mk (qbt (by repeat (first | (with_reducible first | exact HB.out | apply qba | apply qbn | apply qb1) | exact HB.out)) hb); clear hb hbox hg) | ((with_reducible refine qgd (N := 3) rfl ?_); refine qbe ?hg (N := 3) ?hd (cs := #[.int .i64 a1_0, .int .i64 a1_1, .int .i64 a1_2, .int .i64 a1_3]) (t := 27) ?hr ?_; (case hd => rfl); (case hg => rfl); (case hr => first | (go_simp; done) | (go_simp; rfl)); intro gb331 hg w7 hbox hb; have BK331 := Ad.mk (hbox); have GW331 := Ad.mk ((by rw [hg]; exact (qbz (by repeat (first | (with_reducible first | exact HB.out | apply qba | apply qbn | apply qb1 | refine qbs ?_ GE330.out) | exact HB.out))) : w.heap.size ≤ gb331)); have GE331 := Ad.mk ((by rw [hg]; exact (qbz (by repeat (first | (with_reducible first | exact HB.out | apply qba | apply qbn | apply qb1 | refine qbs ?_ GE330.out) | exact HB.out))) : w.heap.size ≤ gb331)); have NB330_331 := Ad.mk ((by rw [hg]; exact Nat.ne_of_lt (qkl (g := gb330) (o := .cells #[.int .i64 a0_0, .int .i64 a0_1, .int .i64 a0_2, .int .i64 a0_3] 27 (0, 0)) (by (with_reducible repeat (first | apply qkn | apply qkd | apply qka)); exact BK330.out)) : gb330 ≠ gb331)); have NB331_330 := Ad.mk ((by rw [hg]; exact Nat.ne_of_gt (qkl (g := gb330) (o := .cells #[.int .i64 a0_0, .int .i64 a0_1, .int .i64 a0_2, .int .i64 a0_3] 27 (0, 0)) (by (with_reducible repeat (first | apply qkn | apply qkd | apply qka)); exact BK330.out)) : gb331 ≠ gb330)); replace BK330 := Ad.mk (qkb (g := gb330) (o := .cells #[.int .i64 a0_0, .int .i64 a0_1, .int .i64 a0_2, .int .i64 a0_3] 27 (0, 0)) (by (with_reducible repeat (first | apply qkn | apply qkd | apply qka)); exact BK330.out) hb); replace HB := Ad.mk (qbt (by repeat (first | (with_reducible first | exact HB.out | apply qba | apply qbn | apply qb1 | refine qbs ?_ GE330.out) | exact HB.out)) hb); clear hb hbox hg; have hnb8 := NB330_331.out; have hnc8 := NB331_330.out; have hcz9_0 : w7.cell? ⟨gb330, 0, none⟩ = some (.int .i64 a0_0) := (qkc BK330.out 0).trans rfl; have hcz9_1 : w7.cell? ⟨gb330, 1, none⟩ = some (.int .i64 a0_1) := (qkc BK330.out 1).trans rfl; have hcz9_2 : w7.cell? ⟨gb330, 2, none⟩ = some (.int .i64 a0_2) := (qkc BK330.out 2).trans rfl; have hcz9_3 : w7.cell? ⟨gb330, 3, none⟩ = some (.int .i64 a0_3) := (qkc BK330.out 3).trans rfl; have hfz9_0 := qkz BK330.out 0; have hfz9_1 := qkz BK330.out 1; have hfz9_2 := qkz BK330.out 2; have hfz9_3 := qkz BK330.out 3; have hcz10_0 : w7.cell? ⟨gb331, 0, none⟩ = some (.int .i64 a1_0) := (qkc BK331.out 0).trans rfl; have hcz10_1 : w7.cell? ⟨gb331, 1, none⟩ = some (.int .i64 a1_1) := (qkc BK331.out 1).trans rfl; have hcz10_2 : w7.cell? ⟨gb331, 2, none⟩ = some (.int .i64 a1_2) := (qkc BK331.out 2).trans rfl; have hcz10_3 : w7.cell? ⟨gb331, 3, none⟩ = some (.int .i64 a1_3) := (qkc BK331.out 3).trans rfl; have hfz10_0 := qkz BK331.out 0; have hfz10_1 := qkz BK331.out 1; have hfz10_2 := qkz BK331.out 2; have hfz10_3 := qkz BK331.out 3) | ((with_reducible refine qgd (N := 9) rfl ?_); refine Kd.R_lit k27 _ 27 ?hg (N := 9) ?hd (xs := ([(⟨a0_0, a0_1, a0_2, a0_3⟩ : S27), (⟨a1_0, a1_1, a1_2, a1_3⟩ : S27)] : List (S27))) (inner := [.int .i64 a0_0, .int .i64 a0_1, .int .i64 a0_2, .int .i64 a0_3, .int .i64 a1_0, .int .i64 a1_1, .int .i64 a1_2, .int .i64 a1_3]) (ok := fun _ => True) (okp := fun _ => True) ?hr ?hp (fun _ hk => hk) trivial (Below.refl _ _) (Nat.le_refl _) (by simp) ?_; (case hd => rfl); (case hg => rfl); (case hr => first | (go_simp; done) | (go_simp; rfl)); (case hp => exact (Reps.c4 (show Kd.M k27 _ _ _ (⟨a0_0, a0_1, a0_2, a0_3⟩ : S27) [.int .i64 a0_0, .int .i64 a0_1, .int .i64 a0_2, .int .i64 a0_3] from (k27_mkM _ _ _ (⟨a0_0, a0_1, a0_2, a0_3⟩ : S27) )) (Reps.c4 (show Kd.M k27 _ _ _ (⟨a1_0, a1_1, a1_2, a1_3⟩ : S27) [.int .i64 a1_0, .int .i64 a1_1, .int .i64 a1_2, .int .i64 a1_3] from (k27_mkM _ _ _ (⟨a1_0, a1_1, a1_2, a1_3⟩ : S27) )) (Reps.none _ _)))); intro v333 w11 ho12 hb hg_ hnew_; clear hg_ hnew_; (first | rw [← Ny332.out] at ho12 | (simp only [Int.reduceToNat] at ho12; rw [← Ny332.out] at ho12)); have HO334 := Ad.mk (Kd.R_lower (Kd.R_newB (Kd.R_newB ho12 (g := gb330) (o := .cells #[.int .i64 a0_0, .int .i64 a0_1, .int .i64 a0_2, .int .i64 a0_3] 27 (0, 0)) (by (with_reducible repeat (first | apply qkn | apply qkd | apply qka)); exact BK330.out)) (g := gb331) (o := .cells #[.int .i64 a1_0, .int .i64 a1_1, .int .i64 a1_2, .int .i64 a1_3] 27 (0, 0)) (by (with_reducible repeat (first | apply qkn | apply qkd | apply qka)); exact BK331.out)) (qbz (by repeat (first | (with_reducible first | exact HB.out | apply qba | apply qbn | apply qb1 | refine qbs ?_ GE330.out | refine qbs ?_ GE331.out) | exact HB.out)))); replace BK330 := Ad.mk (qkb (g := gb330) (o := .cells #[.int .i64 a0_0, .int .i64 a0_1, .int .i64 a0_2, .int .i64 a0_3] 27 (0, 0)) (by (with_reducible repeat (first | apply qkn | apply qkd | apply qka)); exact BK330.out) hb); replace BK331 := Ad.mk (qkb (g := gb331) (o := .cells #[.int .i64 a1_0, .int .i64 a1_1, .int .i64 a1_2, .int .i64 a1_3] 27 (0, 0)) (by (with_reducible repeat (first | apply qkn | apply qkd | apply qka)); exact BK331.out) hb); replace HB := Ad.mk (qbt (by repeat (first | (with_reducible first | exact HB.out | apply qba | apply qbn | apply qb1 | refine qbs ?_ GE330.out | refine qbs ?_ GE331.out) | exact HB.out)) hb); clear hb ho12; obtain ⟨Ao13, co13, eo13⟩ := Kd.R_slice HO334.out; subst eo13) | ((with_reducible refine qgc (f := 82) rfl ?_); refine goesL_ (some 10) rfl rfl Tryd.func82 (by kernel_rfl) rfl #[.slice Ao13 y332.length co13] rfl (by (try simp only [List.map_toArray, List.map_cons, List.map_nil]); first | done | rfl | (simp only [List.length_drop, List.length_take]; rfl)) ?_; (with_reducible refine (tune_checkAll.calls k _ _ y332 t335 _ ?side1 ?side2 A3.out).mono ?_); (case side1 => repeat (first | exact (Kd.R_reads' HO334.out).2.2 | (with_reducible refine Kd.C_alloc ?_ _) | (with_reducible refine Kd.C_drewN ?_ _) | (with_reducible refine Kd.C_drew ?_))); (case side2 => exact (Kd.R_reads' HO334.out).2.1); rintro e w14 ⟨rfl, hb⟩; refine ⟨_, rfl, ?_⟩; replace HO334 := Ad.mk (Kd.R_below (by (with_reducible repeat (first | apply Kd.R_alloc | apply Kd.R_drewN | apply Kd.R_drew)); exact HO334.out) hb); replace BK330 := Ad.mk (qkb (g := gb330) (o := .cells #[.int .i64 a0_0, .int .i64 a0_1, .int .i64 a0_2, .int .i64 a0_3] 27 (0, 0)) (by (with_reducible repeat (first | apply qkn | apply qkd | apply qka)); exact BK330.out) hb); replace BK331 := Ad.mk (qkb (g := gb331) (o := .cells #[.int .i64 a1_0, .int .i64 a1_1, .int .i64 a1_2, .int .i64 a1_3] 27 (0, 0)) (by (with_reducible repeat (first | apply qkn | apply qkd | apply qka)); exact BK331.out) hb); replace HB := Ad.mk (qbt (by repeat (first | (with_reducible first | exact HB.out | apply qba | apply qbn | apply qb1 | refine qbs ?_ GE330.out | refine qbs ?_ GE331.out) | exact HB.out)) hb); (try clear hb); have hcz15_0 : w14.cell? ⟨gb330, 0, none⟩ = some (.int .i64 a0_0) := (qkc BK330.out 0).trans rfl; have hcz15_1 : w14.cell? ⟨gb330, 1, none⟩ = some (.int .i64 a0_1) := (qkc BK330.out 1).trans rfl; have hcz15_2 : w14.cell? ⟨gb330, 2, none⟩ = some (.int .i64 a0_2) := (qkc BK330.out 2).trans rfl; have hcz15_3 : w14.cell? ⟨gb330, 3, none⟩ = some (.int .i64 a0_3) := (qkc BK330.out 3).trans rfl; have hfz15_0 := qkz BK330.out 0; have hfz15_1 := qkz BK330.out 1; have hfz15_2 := qkz BK330.out 2; have hfz15_3 := qkz BK330.out 3; have hcz16_0 : w14.cell? ⟨gb331, 0, none⟩ = some (.int .i64 a1_0) := (qkc BK331.out 0).trans rfl; have hcz16_1 : w14.cell? ⟨gb331, 1, none⟩ = some (.int .i64 a1_1) := (qkc BK331.out 1).trans rfl; have hcz16_2 : w14.cell? ⟨gb331, 2, none⟩ = some (.int .i64 a1_2) := (qkc BK331.out 2).trans rfl; have hcz16_3 : w14.cell? ⟨gb331, 3, none⟩ = some (.int .i64 a1_3) := (qkc BK331.out 3).trans rfl; have hfz16_0 := qkz BK331.out 0; have hfz16_1 := qkz BK331.out 1; have hfz16_2 := qkz BK331.out 2; have hfz16_3 := qkz BK331.out 3) | ((with_reducible refine qgc (f := 86) rfl ?_); refine goesL_ (some 16) rfl rfl Tryd.func86 (by kernel_rfl) rfl #[.agg #[.int .i64 a0_0, .int .i64 a0_1, .int .i64 a0_2, .int .i64 a0_3], .agg #[.int .i64 a1_0, .int .i64 a1_1, .int .i64 a1_2, .int .i64 a1_3]] rfl (by (try simp only [List.map_toArray, List.map_cons, List.map_nil]); first | done | rfl) ?_; (with_reducible refine (tune_compare.calls k a0_0 a0_1 a0_2 a0_3 a1_0 a1_1 a1_2 a1_3 t336 _ A5.out).mono ?_); rintro e w17 ⟨rfl, hb⟩; refine ⟨_, rfl, ?_⟩; replace HO334 := Ad.mk (Kd.R_below (by (with_reducible repeat (first | apply Kd.R_alloc | apply Kd.R_drewN | apply Kd.R_drew)); exact HO334.out) hb); replace BK330 := Ad.mk (qkb (g := gb330) (o := .cells #[.int .i64 a0_0, .int .i64 a0_1, .int .i64 a0_2, .int .i64 a0_3] 27 (0, 0)) (by (with_reducible repeat (first | apply qkn | apply qkd | apply qka)); exact BK330.out) hb); replace BK331 := Ad.mk (qkb (g := gb331) (o := .cells #[.int .i64 a1_0, .int .i64 a1_1, .int .i64 a1_2, .int .i64 a1_3] 27 (0, 0)) (by (with_reducible repeat (first | apply qkn | apply qkd | apply qka)); exact BK331.out) hb); replace HB := Ad.mk (qbt (by repeat (first | (with_reducible first | exact HB.out | apply qba | apply qbn | apply qb1 | refine qbs ?_ GE330.out | refine qbs ?_ GE331.out) | exact HB.out)) hb); (try clear hb)))
  go_ret2
  exact ⟨by first | rfl | (simp [errW_none, errW_some] <;> rfl) | (simp [*, errW_none, errW_some] <;> rfl), by repeat (first | (with_reducible first | exact HB.out | apply qba | apply qbn | apply qb1 | refine qbs ?_ GE330.out | refine qbs ?_ GE331.out) | exact HB.out)⟩
 ·
  rw [if_neg c4] at H
  have c4b0 : (t335 == 0) = false := beq_eq_false_iff_ne.mpr c4
  have c4b1 : (t335 != 0) = true := bne_iff_ne.mpr c4
  simp only [Option.some.injEq, Prod.mk.injEq] at H
  obtain ⟨rfl, rfl⟩ := H
  go_enter Tryd.func25, Tryd.ntmps25
  go_wp2_with (first | ((with_reducible refine qgd (N := 2) rfl ?_); refine qbe ?hg (N := 2) ?hd (cs := #[.int .i64 a0_0, .int .i64 a0_1, .int .i64 a0_2, .int .i64 a0_3]) (t := 27) ?hr ?_; (case hd => rfl); (case hg => rfl); (case hr => first | (go_simp; done) | (go_simp; rfl)); intro gb330 hg w18 hbox hb; have BK330 := Ad.mk (hbox); have GW330 := Ad.mk ((by rw [hg]; exact (qbz (by repeat (first | (with_reducible first | exact HB.out | apply qba | apply qbn | apply qb1) | exact HB.out))) : w.heap.size ≤ gb330)); have GE330 := Ad.mk ((by rw [hg]; exact (qbz (by repeat (first | (with_reducible first | exact HB.out | apply qba | apply qbn | apply qb1) | exact HB.out))) : w.heap.size ≤ gb330)); replace HB := Ad.mk (qbt (by repeat (first | (with_reducible first | exact HB.out | apply qba | apply qbn | apply qb1) | exact HB.out)) hb); clear hb hbox hg) | ((with_reducible refine qgd (N := 3) rfl ?_); refine qbe ?hg (N := 3) ?hd (cs := #[.int .i64 a1_0, .int .i64 a1_1, .int .i64 a1_2, .int .i64 a1_3]) (t := 27) ?hr ?_; (case hd => rfl); (case hg => rfl); (case hr => first | (go_simp; done) | (go_simp; rfl)); intro gb331 hg w19 hbox hb; have BK331 := Ad.mk (hbox); have GW331 := Ad.mk ((by rw [hg]; exact (qbz (by repeat (first | (with_reducible first | exact HB.out | apply qba | apply qbn | apply qb1 | refine qbs ?_ GE330.out) | exact HB.out))) : w.heap.size ≤ gb331)); have GE331 := Ad.mk ((by rw [hg]; exact (qbz (by repeat (first | (with_reducible first | exact HB.out | apply qba | apply qbn | apply qb1 | refine qbs ?_ GE330.out) | exact HB.out))) : w.heap.size ≤ gb331)); have NB330_331 := Ad.mk ((by rw [hg]; exact Nat.ne_of_lt (qkl (g := gb330) (o := .cells #[.int .i64 a0_0, .int .i64 a0_1, .int .i64 a0_2, .int .i64 a0_3] 27 (0, 0)) (by (with_reducible repeat (first | apply qkn | apply qkd | apply qka)); exact BK330.out)) : gb330 ≠ gb331)); have NB331_330 := Ad.mk ((by rw [hg]; exact Nat.ne_of_gt (qkl (g := gb330) (o := .cells #[.int .i64 a0_0, .int .i64 a0_1, .int .i64 a0_2, .int .i64 a0_3] 27 (0, 0)) (by (with_reducible repeat (first | apply qkn | apply qkd | apply qka)); exact BK330.out)) : gb331 ≠ gb330)); replace BK330 := Ad.mk (qkb (g := gb330) (o := .cells #[.int .i64 a0_0, .int .i64 a0_1, .int .i64 a0_2, .int .i64 a0_3] 27 (0, 0)) (by (with_reducible repeat (first | apply qkn | apply qkd | apply qka)); exact BK330.out) hb); replace HB := Ad.mk (qbt (by repeat (first | (with_reducible first | exact HB.out | apply qba | apply qbn | apply qb1 | refine qbs ?_ GE330.out) | exact HB.out)) hb); clear hb hbox hg; have hnb20 := NB330_331.out; have hnc20 := NB331_330.out; have hcz21_0 : w19.cell? ⟨gb330, 0, none⟩ = some (.int .i64 a0_0) := (qkc BK330.out 0).trans rfl; have hcz21_1 : w19.cell? ⟨gb330, 1, none⟩ = some (.int .i64 a0_1) := (qkc BK330.out 1).trans rfl; have hcz21_2 : w19.cell? ⟨gb330, 2, none⟩ = some (.int .i64 a0_2) := (qkc BK330.out 2).trans rfl; have hcz21_3 : w19.cell? ⟨gb330, 3, none⟩ = some (.int .i64 a0_3) := (qkc BK330.out 3).trans rfl; have hfz21_0 := qkz BK330.out 0; have hfz21_1 := qkz BK330.out 1; have hfz21_2 := qkz BK330.out 2; have hfz21_3 := qkz BK330.out 3; have hcz22_0 : w19.cell? ⟨gb331, 0, none⟩ = some (.int .i64 a1_0) := (qkc BK331.out 0).trans rfl; have hcz22_1 : w19.cell? ⟨gb331, 1, none⟩ = some (.int .i64 a1_1) := (qkc BK331.out 1).trans rfl; have hcz22_2 : w19.cell? ⟨gb331, 2, none⟩ = some (.int .i64 a1_2) := (qkc BK331.out 2).trans rfl; have hcz22_3 : w19.cell? ⟨gb331, 3, none⟩ = some (.int .i64 a1_3) := (qkc BK331.out 3).trans rfl; have hfz22_0 := qkz BK331.out 0; have hfz22_1 := qkz BK331.out 1; have hfz22_2 := qkz BK331.out 2; have hfz22_3 := qkz BK331.out 3) | ((with_reducible refine qgd (N := 9) rfl ?_); refine Kd.R_lit k27 _ 27 ?hg (N := 9) ?hd (xs := ([(⟨a0_0, a0_1, a0_2, a0_3⟩ : S27), (⟨a1_0, a1_1, a1_2, a1_3⟩ : S27)] : List (S27))) (inner := [.int .i64 a0_0, .int .i64 a0_1, .int .i64 a0_2, .int .i64 a0_3, .int .i64 a1_0, .int .i64 a1_1, .int .i64 a1_2, .int .i64 a1_3]) (ok := fun _ => True) (okp := fun _ => True) ?hr ?hp (fun _ hk => hk) trivial (Below.refl _ _) (Nat.le_refl _) (by simp) ?_; (case hd => rfl); (case hg => rfl); (case hr => first | (go_simp; done) | (go_simp; rfl)); (case hp => exact (Reps.c4 (show Kd.M k27 _ _ _ (⟨a0_0, a0_1, a0_2, a0_3⟩ : S27) [.int .i64 a0_0, .int .i64 a0_1, .int .i64 a0_2, .int .i64 a0_3] from (k27_mkM _ _ _ (⟨a0_0, a0_1, a0_2, a0_3⟩ : S27) )) (Reps.c4 (show Kd.M k27 _ _ _ (⟨a1_0, a1_1, a1_2, a1_3⟩ : S27) [.int .i64 a1_0, .int .i64 a1_1, .int .i64 a1_2, .int .i64 a1_3] from (k27_mkM _ _ _ (⟨a1_0, a1_1, a1_2, a1_3⟩ : S27) )) (Reps.none _ _)))); intro v333 w23 ho24 hb hg_ hnew_; clear hg_ hnew_; (first | rw [← Ny332.out] at ho24 | (simp only [Int.reduceToNat] at ho24; rw [← Ny332.out] at ho24)); have HO334 := Ad.mk (Kd.R_lower (Kd.R_newB (Kd.R_newB ho24 (g := gb330) (o := .cells #[.int .i64 a0_0, .int .i64 a0_1, .int .i64 a0_2, .int .i64 a0_3] 27 (0, 0)) (by (with_reducible repeat (first | apply qkn | apply qkd | apply qka)); exact BK330.out)) (g := gb331) (o := .cells #[.int .i64 a1_0, .int .i64 a1_1, .int .i64 a1_2, .int .i64 a1_3] 27 (0, 0)) (by (with_reducible repeat (first | apply qkn | apply qkd | apply qka)); exact BK331.out)) (qbz (by repeat (first | (with_reducible first | exact HB.out | apply qba | apply qbn | apply qb1 | refine qbs ?_ GE330.out | refine qbs ?_ GE331.out) | exact HB.out)))); replace BK330 := Ad.mk (qkb (g := gb330) (o := .cells #[.int .i64 a0_0, .int .i64 a0_1, .int .i64 a0_2, .int .i64 a0_3] 27 (0, 0)) (by (with_reducible repeat (first | apply qkn | apply qkd | apply qka)); exact BK330.out) hb); replace BK331 := Ad.mk (qkb (g := gb331) (o := .cells #[.int .i64 a1_0, .int .i64 a1_1, .int .i64 a1_2, .int .i64 a1_3] 27 (0, 0)) (by (with_reducible repeat (first | apply qkn | apply qkd | apply qka)); exact BK331.out) hb); replace HB := Ad.mk (qbt (by repeat (first | (with_reducible first | exact HB.out | apply qba | apply qbn | apply qb1 | refine qbs ?_ GE330.out | refine qbs ?_ GE331.out) | exact HB.out)) hb); clear hb ho24; obtain ⟨Ao25, co25, eo25⟩ := Kd.R_slice HO334.out; subst eo25) | ((with_reducible refine qgc (f := 82) rfl ?_); refine goesL_ (some 10) rfl rfl Tryd.func82 (by kernel_rfl) rfl #[.slice Ao25 y332.length co25] rfl (by (try simp only [List.map_toArray, List.map_cons, List.map_nil]); first | done | rfl | (simp only [List.length_drop, List.length_take]; rfl)) ?_; (with_reducible refine (tune_checkAll.calls k _ _ y332 t335 _ ?side1 ?side2 A3.out).mono ?_); (case side1 => repeat (first | exact (Kd.R_reads' HO334.out).2.2 | (with_reducible refine Kd.C_alloc ?_ _) | (with_reducible refine Kd.C_drewN ?_ _) | (with_reducible refine Kd.C_drew ?_))); (case side2 => exact (Kd.R_reads' HO334.out).2.1); rintro e w26 ⟨rfl, hb⟩; refine ⟨_, rfl, ?_⟩; replace HO334 := Ad.mk (Kd.R_below (by (with_reducible repeat (first | apply Kd.R_alloc | apply Kd.R_drewN | apply Kd.R_drew)); exact HO334.out) hb); replace BK330 := Ad.mk (qkb (g := gb330) (o := .cells #[.int .i64 a0_0, .int .i64 a0_1, .int .i64 a0_2, .int .i64 a0_3] 27 (0, 0)) (by (with_reducible repeat (first | apply qkn | apply qkd | apply qka)); exact BK330.out) hb); replace BK331 := Ad.mk (qkb (g := gb331) (o := .cells #[.int .i64 a1_0, .int .i64 a1_1, .int .i64 a1_2, .int .i64 a1_3] 27 (0, 0)) (by (with_reducible repeat (first | apply qkn | apply qkd | apply qka)); exact BK331.out) hb); replace HB := Ad.mk (qbt (by repeat (first | (with_reducible first | exact HB.out | apply qba | apply qbn | apply qb1 | refine qbs ?_ GE330.out | refine qbs ?_ GE331.out) | exact HB.out)) hb); (try clear hb)))
  go_ret2
  exact ⟨by first | rfl | (simp [errW_none, errW_some] <;> rfl) | (simp [*, errW_none, errW_some] <;> rfl), by repeat (first | (with_reducible first | exact HB.out | apply qba | apply qbn | apply qb1 | refine qbs ?_ GE330.out | refine qbs ?_ GE331.out) | exact HB.out)⟩

/-! ### strconv_Itoa: function 99 -/
def strconv_Itoa.f (a0 : Int) : Option (ByteArray) := if 0 ≤ a0 ∧ a0 < 100 then some ⟨(Lib.decDigits a0.toNat).toArray⟩ else none
theorem strconv_Itoa.calls (a0 : Int) (r : ByteArray) (w : World) (h : strconv_Itoa.f a0 = some r) :
    Calls Tryd.prog 99 #[.int .i64 a0] w fun e w' => e = .returned (.string r) ∧ Drawn0 w w' := by
  unfold strconv_Itoa.f at h
  split at h
  · rename_i hc
    obtain ⟨n, rfl⟩ := Int.eq_ofNat_of_zero_le hc.1
    simp only [Int.toNat_natCast, Option.some.injEq] at h
    subst h
    exact (Tryd.strconv_Itoa_small n (by omega) w).mono fun e w' ⟨he, hw⟩ => ⟨he, hw ▸ Drawn0.refl _⟩
  · cases h

/-! ### tune_Name: function 66 -/
def nameL : List ByteArray := [⟨#[99]⟩, ⟨#[99, 35]⟩, ⟨#[100]⟩, ⟨#[100, 35]⟩, ⟨#[101]⟩, ⟨#[102]⟩, ⟨#[102, 35]⟩, ⟨#[103]⟩, ⟨#[103, 35]⟩, ⟨#[97]⟩, ⟨#[97, 35]⟩, ⟨#[98]⟩]
theorem nm_any (w : World) : Calls Tryd.prog 124 #[] w fun e w' => ∃ g, e = .returned (.slice (some ⟨g, 0, none⟩) 12 12) ∧ Below w.heap.size w w' ∧ ∀ j : Nat, j < 12 → w'.cell? ⟨g, j, none⟩ = some (.string (nameL.getD j ByteArray.empty)) := by
  go_enter Tryd.func124, Tryd.ntmps124
  go_wp2
  go_ret
  refine ⟨_, rfl, (Below.refl _ _).alloc (Nat.le_refl _) _, ?_⟩
  intro j hj
  have hc : j = 0 ∨ j = 1 ∨ j = 2 ∨ j = 3 ∨ j = 4 ∨ j = 5 ∨ j = 6 ∨ j = 7 ∨ j = 8 ∨ j = 9 ∨ j = 10 ∨ j = 11 := by omega
  rcases hc with rfl | rfl | rfl | rfl | rfl | rfl | rfl | rfl | rfl | rfl | rfl | rfl <;> simp [nameL]
theorem nm_size (j : Nat) : (nameL.getD j ByteArray.empty).size ≤ 2 := by
  by_cases h : j < 12
  · have hc : j = 0 ∨ j = 1 ∨ j = 2 ∨ j = 3 ∨ j = 4 ∨ j = 5 ∨ j = 6 ∨ j = 7 ∨ j = 8 ∨ j = 9 ∨ j = 10 ∨ j = 11 := by omega
    rcases hc with rfl | rfl | rfl | rfl | rfl | rfl | rfl | rfl | rfl | rfl | rfl | rfl <;> decide
  · rw [List.getD_eq_getElem?_getD, List.getElem?_eq_none (by simp [nameL]; omega)]
    decide
set_option maxHeartbeats 1000000 in
theorem nm_walk (a : Int) (s : ByteArray) (w : World) (h0 : 0 ≤ a) (h1 : a ≤ 127) (hs : strconv_Itoa.f (a / 12 - 1) = some s) (hz : s.size ≤ 1000) :
    Calls Tryd.prog 66 #[.int .i64 a] w fun e w' => e = .returned (.tuple #[.string (nameL.getD (a % 12).toNat ByteArray.empty ++ s), .int .i64 0]) ∧ Below w.heap.size w w' := by
  have HS := Lib.hid hs
  clear hs
  go_enter Tryd.func66, Tryd.ntmps66
  go_wp2_with (go_at_call 74; refine (kit_Outside.calls a 0 127 false _ (by unfold kit_Outside.f; rw [if_neg (by omega), decide_eq_false (by omega)])).mono ?_; rintro e w' ⟨rfl, ⟨n, rfl⟩⟩)
  have q0 : 0 ≤ Int.tmod a 12 := Int.tmod_nonneg _ h0
  have q1 : Int.tmod a 12 < 12 := Int.tmod_lt_of_pos _ (by decide)
  have e1 : Int.tmod a 12 = a % 12 := Int.tmod_eq_emod_of_nonneg h0
  have E1 := Lib.hid e1
  clear e1
  have t1 : Int.tdiv a 12 = a / 12 := Int.tdiv_eq_ediv_of_nonneg h0
  have ew : IntKind.i64.wrap (IntKind.i64.wrap (Int.tdiv a 12) - 1) = a / 12 - 1 := by
    rw [t1, IntWalk.i64_in (a / 12) (by omega), IntWalk.i64_in _ (by omega)]
  have EW := Lib.hid ew
  clear ew t1
  have hnm : nameL.getD (Int.tmod a 12).toNat ByteArray.empty = nameL.getD (a % 12).toNat ByteArray.empty := by rw [E1.out]
  have hsz := nm_size (a % 12).toNat
  obtain ⟨nm, hd⟩ : ∃ nm, nameL.getD (a % 12).toNat ByteArray.empty = nm := ⟨_, rfl⟩
  rw [hd] at hnm hsz
  have HD := Lib.hid hd
  clear hd
  have HNM := Lib.hid hnm
  clear hnm
  have hsz2 : nm.size + s.size ≤ 9223372036854775807 := by omega
  go_region_with (first
    | (go_at_call 124; refine (nm_any _).mono ?_; rintro e w' ⟨g, rfl, hb, hcells⟩; have hc := hcells (Int.tmod a 12).toNat (by omega); rw [HNM.out] at hc; clear hcells)
    | (go_at_call 99; rw [EW.out]; refine (strconv_Itoa.calls _ s _ HS.out).mono ?_; rintro e w' ⟨rfl, ⟨m, rfl⟩⟩))
  all_goals (go_wp2; go_ret2; refine ⟨?_, ?_⟩)
  all_goals (try (rw [HD.out]; rfl))
  all_goals (apply qbn; exact qbt (qbn (Below.refl _ _) _) hb)
def tune_Name.f (a0 : Int) : Option (ByteArray × Int) :=
  if 0 ≤ a0 then (if a0 ≤ 127 then ((strconv_Itoa.f (a0 / 12 - 1)).bind fun t => if t.size ≤ 1000 then some (nameL.getD (a0 % 12).toNat ByteArray.empty ++ t, 0) else none) else some (⟨#[]⟩, 1)) else some (⟨#[]⟩, 1)
theorem nm_out (a : Int) (w : World) (ho : kit_Outside.f a 0 127 = some true) :
    Calls Tryd.prog 66 #[.int .i64 a] w fun e w' => e = .returned (.tuple #[.string ⟨#[]⟩, .int .i64 1]) ∧ Below w.heap.size w w' := by
  go_enter Tryd.func66, Tryd.ntmps66
  go_wp2_with (go_at_call 74; refine (kit_Outside.calls a 0 127 true _ ho).mono ?_; rintro e w' ⟨rfl, ⟨n, rfl⟩⟩)
  go_ret2
  exact ⟨rfl, qbn (Below.refl _ _) _⟩
theorem tune_Name.calls (a0 : Int) (r1 : ByteArray) (r2 : Int) (w : World) (h : tune_Name.f a0 = some (r1, r2)) :
    Calls Tryd.prog 66 #[.int .i64 a0] w fun e w' => e = .returned (.tuple #[.string r1, .int .i64 r2]) ∧ Below w.heap.size w w' := by
  unfold tune_Name.f at h
  split at h
  · rename_i h0
    split at h
    · rename_i h1
      obtain ⟨s, hs, h⟩ := Option.bind_eq_some_iff.mp h
      split at h
      · simp only [Option.some.injEq, Prod.mk.injEq] at h
        obtain ⟨rfl, rfl⟩ := h
        exact nm_walk a0 s w h0 h1 hs (by assumption)
      · cases h
    · simp only [Option.some.injEq, Prod.mk.injEq] at h
      obtain ⟨rfl, rfl⟩ := h
      exact nm_out a0 w (by unfold kit_Outside.f; rw [if_neg (by omega), decide_eq_true (by omega)])
  · simp only [Option.some.injEq, Prod.mk.injEq] at h
    obtain ⟨rfl, rfl⟩ := h
    exact nm_out a0 w (by unfold kit_Outside.f; rw [if_pos (by omega)])

/-! ### gleelaw1_tuned: function 26 -/
def gleelaw1_tuned.f  : Option (Bool) := (tune_Name.f 61).bind fun bt337 => (if bt337.2 = 0 then (some (bt337.1.toList == ([99, 35, 52] : List UInt8))) else (some false))
set_option maxHeartbeats 8000000 in
set_option maxRecDepth 100000 in
theorem gleelaw1_tuned.calls  (r : Bool) (w : World) (h : gleelaw1_tuned.f  = some r) :
  Calls Tryd.prog 26 #[] w fun e w' => e = .returned (.bool r) ∧ Below w.heap.size w w' := by
 have HB := Ad.mk (Below.refl w.heap.size w)
 have H : ((tune_Name.f 61).bind fun bt337 => (if bt337.2 = 0 then (some (bt337.1.toList == ([99, 35, 52] : List UInt8))) else (some false))) = some r := h
 clear h
 replace H := Option.bind_eq_some_iff.mp H
 obtain ⟨⟨t337, t338⟩, A10, H⟩ := H
 replace H : (if t338 = 0 then (some (t337.toList == ([99, 35, 52] : List UInt8))) else (some false)) = some r := H
 have A1 := Ad.mk A10
 clear A10
 by_cases c2 : t338 = 0
 ·
  rw [if_pos c2] at H
  have c2b0 : (t338 == 0) = true := beq_iff_eq.mpr c2
  have c2b1 : (t338 != 0) = false := bne_eq_false_iff_eq.mpr c2
  clear c2
  obtain rfl := Option.some.inj H
  go_enter Tryd.func26, Tryd.ntmps26
  go_wp2_with (first | ((with_reducible refine qgc (f := 66) rfl ?_); refine goesL_ (some 4) rfl rfl Tryd.func66 (by kernel_rfl) rfl #[.int .i64 61] rfl (by (try simp only [List.map_toArray, List.map_cons, List.map_nil]); first | done | rfl) ?_; (with_reducible refine (tune_Name.calls 61 t337 t338 _ A1.out).mono ?_); rintro e w3 ⟨rfl, hb⟩; refine ⟨_, rfl, ?_⟩; replace HB := Ad.mk (qbt (by repeat (first | (with_reducible first | exact HB.out | apply qba | apply qbn | apply qb1) | exact HB.out)) hb); (try clear hb)))
  go_ret
  exact ⟨by first | rfl | (simp [errW_none, errW_some] <;> rfl) | (simp [*, errW_none, errW_some] <;> rfl), by repeat (first | (with_reducible first | exact HB.out | apply qba | apply qbn | apply qb1) | exact HB.out)⟩
 ·
  rw [if_neg c2] at H
  have c2b0 : (t338 == 0) = false := beq_eq_false_iff_ne.mpr c2
  have c2b1 : (t338 != 0) = true := bne_iff_ne.mpr c2
  obtain rfl := Option.some.inj H
  go_enter Tryd.func26, Tryd.ntmps26
  go_wp2_with (first | ((with_reducible refine qgc (f := 66) rfl ?_); refine goesL_ (some 4) rfl rfl Tryd.func66 (by kernel_rfl) rfl #[.int .i64 61] rfl (by (try simp only [List.map_toArray, List.map_cons, List.map_nil]); first | done | rfl) ?_; (with_reducible refine (tune_Name.calls 61 t337 t338 _ A1.out).mono ?_); rintro e w4 ⟨rfl, hb⟩; refine ⟨_, rfl, ?_⟩; replace HB := Ad.mk (qbt (by repeat (first | (with_reducible first | exact HB.out | apply qba | apply qbn | apply qb1) | exact HB.out)) hb); (try clear hb)))
  go_ret
  exact ⟨by first | rfl | (simp [errW_none, errW_some] <;> rfl) | (simp [*, errW_none, errW_some] <;> rfl), by repeat (first | (with_reducible first | exact HB.out | apply qba | apply qbn | apply qb1) | exact HB.out)⟩

/-! ### gleeref1_plus: function 87 -/
def gleeref1_plus.f (a0_0 : Int) (a0_1 : Int) (a0_2 : Int) (a0_3 : Int) (a1_0 : Int) (a1_1 : Int) (a1_2 : Int) (a1_3 : Int) (a2 : Int) : Option (Int × Int × Int × Int) := some (wrap64 (a0_0 + (wrap64 (a2 * a1_0))), wrap64 (a0_1 + (wrap64 (a2 * a1_1))), wrap64 (a0_2 + (wrap64 (a2 * a1_2))), wrap64 (a0_3 + (wrap64 (a2 * a1_3))))
set_option maxHeartbeats 8000000 in
set_option maxRecDepth 100000 in
theorem gleeref1_plus.calls (a0_0 : Int) (a0_1 : Int) (a0_2 : Int) (a0_3 : Int) (a1_0 : Int) (a1_1 : Int) (a1_2 : Int) (a1_3 : Int) (a2 : Int) (r1 : Int) (r2 : Int) (r3 : Int) (r4 : Int) (w : World) (h : gleeref1_plus.f a0_0 a0_1 a0_2 a0_3 a1_0 a1_1 a1_2 a1_3 a2 = some (r1, r2, r3, r4)) :
  Calls Tryd.prog 87 #[.agg #[.int .i64 a0_0, .int .i64 a0_1, .int .i64 a0_2, .int .i64 a0_3], .agg #[.int .i64 a1_0, .int .i64 a1_1, .int .i64 a1_2, .int .i64 a1_3], .int .i64 a2] w fun e w' => e = .returned (.agg #[.int .i64 r1, .int .i64 r2, .int .i64 r3, .int .i64 r4]) ∧ Below w.heap.size w w' := by
 have hu27 := Tryd.underlying27
 have HB := Ad.mk (Below.refl w.heap.size w)
 have H : (some (wrap64 (a0_0 + (wrap64 (a2 * a1_0))), wrap64 (a0_1 + (wrap64 (a2 * a1_1))), wrap64 (a0_2 + (wrap64 (a2 * a1_2))), wrap64 (a0_3 + (wrap64 (a2 * a1_3))))) = some (r1, r2, r3, r4) := h
 clear h
 simp only [Option.some.injEq, Prod.mk.injEq] at H
 obtain ⟨rfl, rfl, rfl, rfl⟩ := H
 go_enter Tryd.func87, Tryd.ntmps87
 go_wp2_with (first | ((with_reducible refine qgd (N := 3) rfl ?_); refine qbe ?hg (N := 3) ?hd (cs := #[.int .i64 a0_0, .int .i64 a0_1, .int .i64 a0_2, .int .i64 a0_3]) (t := 27) ?hr ?_; (case hd => rfl); (case hg => rfl); (case hr => first | (go_simp; done) | (go_simp; rfl)); intro gb339 hg w4 hbox hb; have BK339 := Ad.mk (hbox); have GW339 := Ad.mk ((by rw [hg]; exact (qbz (by repeat (first | (with_reducible first | exact HB.out | apply qba | apply qbn | apply qb1) | exact HB.out))) : w.heap.size ≤ gb339)); have GE339 := Ad.mk ((by rw [hg]; exact (qbz (by repeat (first | (with_reducible first | exact HB.out | apply qba | apply qbn | apply qb1) | exact HB.out))) : w.heap.size ≤ gb339)); replace HB := Ad.mk (qbt (by repeat (first | (with_reducible first | exact HB.out | apply qba | apply qbn | apply qb1) | exact HB.out)) hb); clear hb hbox hg) | ((with_reducible refine qgd (N := 4) rfl ?_); refine qbe ?hg (N := 4) ?hd (cs := #[.int .i64 a1_0, .int .i64 a1_1, .int .i64 a1_2, .int .i64 a1_3]) (t := 27) ?hr ?_; (case hd => rfl); (case hg => rfl); (case hr => first | (go_simp; done) | (go_simp; rfl)); intro gb340 hg w5 hbox hb; have BK340 := Ad.mk (hbox); have GW340 := Ad.mk ((by rw [hg]; exact (qbz (by repeat (first | (with_reducible first | exact HB.out | apply qba | apply qbn | apply qb1 | refine qbs ?_ GE339.out) | exact HB.out))) : w.heap.size ≤ gb340)); have GE340 := Ad.mk ((by rw [hg]; exact (qbz (by repeat (first | (with_reducible first | exact HB.out | apply qba | apply qbn | apply qb1 | refine qbs ?_ GE339.out) | exact HB.out))) : w.heap.size ≤ gb340)); have NB339_340 := Ad.mk ((by rw [hg]; exact Nat.ne_of_lt (qkl (g := gb339) (o := .cells #[.int .i64 a0_0, .int .i64 a0_1, .int .i64 a0_2, .int .i64 a0_3] 27 (0, 0)) (by (with_reducible repeat (first | apply qkn | apply qkd | apply qka)); exact BK339.out)) : gb339 ≠ gb340)); have NB340_339 := Ad.mk ((by rw [hg]; exact Nat.ne_of_gt (qkl (g := gb339) (o := .cells #[.int .i64 a0_0, .int .i64 a0_1, .int .i64 a0_2, .int .i64 a0_3] 27 (0, 0)) (by (with_reducible repeat (first | apply qkn | apply qkd | apply qka)); exact BK339.out)) : gb340 ≠ gb339)); replace BK339 := Ad.mk (qkb (g := gb339) (o := .cells #[.int .i64 a0_0, .int .i64 a0_1, .int .i64 a0_2, .int .i64 a0_3] 27 (0, 0)) (by (with_reducible repeat (first | apply qkn | apply qkd | apply qka)); exact BK339.out) hb); replace HB := Ad.mk (qbt (by repeat (first | (with_reducible first | exact HB.out | apply qba | apply qbn | apply qb1 | refine qbs ?_ GE339.out) | exact HB.out)) hb); clear hb hbox hg) | ((with_reducible refine qgd (N := 6) rfl ?_); refine qbe ?hg (N := 6) ?hd (cs := #[.int .i64 0, .int .i64 0, .int .i64 0, .int .i64 0]) (t := 27) ?hr ?_; (case hd => rfl); (case hg => rfl); (case hr => first | (go_simp; done) | (go_simp; rfl)); intro gb341 hg w6 hbox hb; have BK341 := Ad.mk (hbox); have GW341 := Ad.mk ((by rw [hg]; exact (qbz (by repeat (first | (with_reducible first | exact HB.out | apply qba | apply qbn | apply qb1 | refine qbs ?_ GE339.out | refine qbs ?_ GE340.out) | exact HB.out))) : w.heap.size ≤ gb341)); have GE341 := Ad.mk ((by rw [hg]; exact (qbz (by repeat (first | (with_reducible first | exact HB.out | apply qba | apply qbn | apply qb1 | refine qbs ?_ GE339.out | refine qbs ?_ GE340.out) | exact HB.out))) : w.heap.size ≤ gb341)); have NB339_341 := Ad.mk ((by rw [hg]; exact Nat.ne_of_lt (qkl (g := gb339) (o := .cells #[.int .i64 a0_0, .int .i64 a0_1, .int .i64 a0_2, .int .i64 a0_3] 27 (0, 0)) (by (with_reducible repeat (first | apply qkn | apply qkd | apply qka)); exact BK339.out)) : gb339 ≠ gb341)); have NB341_339 := Ad.mk ((by rw [hg]; exact Nat.ne_of_gt (qkl (g := gb339) (o := .cells #[.int .i64 a0_0, .int .i64 a0_1, .int .i64 a0_2, .int .i64 a0_3] 27 (0, 0)) (by (with_reducible repeat (first | apply qkn | apply qkd | apply qka)); exact BK339.out)) : gb341 ≠ gb339)); have NB340_341 := Ad.mk ((by rw [hg]; exact Nat.ne_of_lt (qkl (g := gb340) (o := .cells #[.int .i64 a1_0, .int .i64 a1_1, .int .i64 a1_2, .int .i64 a1_3] 27 (0, 0)) (by (with_reducible repeat (first | apply qkn | apply qkd | apply qka)); exact BK340.out)) : gb340 ≠ gb341)); have NB341_340 := Ad.mk ((by rw [hg]; exact Nat.ne_of_gt (qkl (g := gb340) (o := .cells #[.int .i64 a1_0, .int .i64 a1_1, .int .i64 a1_2, .int .i64 a1_3] 27 (0, 0)) (by (with_reducible repeat (first | apply qkn | apply qkd | apply qka)); exact BK340.out)) : gb341 ≠ gb340)); replace BK339 := Ad.mk (qkb (g := gb339) (o := .cells #[.int .i64 a0_0, .int .i64 a0_1, .int .i64 a0_2, .int .i64 a0_3] 27 (0, 0)) (by (with_reducible repeat (first | apply qkn | apply qkd | apply qka)); exact BK339.out) hb); replace BK340 := Ad.mk (qkb (g := gb340) (o := .cells #[.int .i64 a1_0, .int .i64 a1_1, .int .i64 a1_2, .int .i64 a1_3] 27 (0, 0)) (by (with_reducible repeat (first | apply qkn | apply qkd | apply qka)); exact BK340.out) hb); replace HB := Ad.mk (qbt (by repeat (first | (with_reducible first | exact HB.out | apply qba | apply qbn | apply qb1 | refine qbs ?_ GE339.out | refine qbs ?_ GE340.out) | exact HB.out)) hb); clear hb hbox hg; have hnb7 := NB339_340.out; have hnc7 := NB340_339.out; have hnb8 := NB339_341.out; have hnc8 := NB341_339.out; have hcz9_0 : w6.cell? ⟨gb339, 0, none⟩ = some (.int .i64 a0_0) := (qkc BK339.out 0).trans rfl; have hcz9_1 : w6.cell? ⟨gb339, 1, none⟩ = some (.int .i64 a0_1) := (qkc BK339.out 1).trans rfl; have hcz9_2 : w6.cell? ⟨gb339, 2, none⟩ = some (.int .i64 a0_2) := (qkc BK339.out 2).trans rfl; have hcz9_3 : w6.cell? ⟨gb339, 3, none⟩ = some (.int .i64 a0_3) := (qkc BK339.out 3).trans rfl; have hfz9_0 := qkz BK339.out 0; have hfz9_1 := qkz BK339.out 1; have hfz9_2 := qkz BK339.out 2; have hfz9_3 := qkz BK339.out 3; have hnb10 := NB340_341.out; have hnc10 := NB341_340.out; have hcz11_0 : w6.cell? ⟨gb340, 0, none⟩ = some (.int .i64 a1_0) := (qkc BK340.out 0).trans rfl; have hcz11_1 : w6.cell? ⟨gb340, 1, none⟩ = some (.int .i64 a1_1) := (qkc BK340.out 1).trans rfl; have hcz11_2 : w6.cell? ⟨gb340, 2, none⟩ = some (.int .i64 a1_2) := (qkc BK340.out 2).trans rfl; have hcz11_3 : w6.cell? ⟨gb340, 3, none⟩ = some (.int .i64 a1_3) := (qkc BK340.out 3).trans rfl; have hfz11_0 := qkz BK340.out 0; have hfz11_1 := qkz BK340.out 1; have hfz11_2 := qkz BK340.out 2; have hfz11_3 := qkz BK340.out 3; have hcz12_0 : w6.cell? ⟨gb341, 0, none⟩ = some (.int .i64 0) := (qkc BK341.out 0).trans rfl; have hcz12_1 : w6.cell? ⟨gb341, 1, none⟩ = some (.int .i64 0) := (qkc BK341.out 1).trans rfl; have hcz12_2 : w6.cell? ⟨gb341, 2, none⟩ = some (.int .i64 0) := (qkc BK341.out 2).trans rfl; have hcz12_3 : w6.cell? ⟨gb341, 3, none⟩ = some (.int .i64 0) := (qkc BK341.out 3).trans rfl; have hfz12_0 := qkz BK341.out 0; have hfz12_1 := qkz BK341.out 1; have hfz12_2 := qkz BK341.out 2; have hfz12_3 := qkz BK341.out 3))
 refine bodyPost_ret (results_cell_row rfl _ _ gb341 27 #[.int .i64 (wrap64 (a0_0 + (wrap64 (a2 * a1_0)))), .int .i64 (wrap64 (a0_1 + (wrap64 (a2 * a1_1)))), .int .i64 (wrap64 (a0_2 + (wrap64 (a2 * a1_2)))), .int .i64 (wrap64 (a0_3 + (wrap64 (a2 * a1_3))))] (0, 0) _ rfl (by (with_reducible repeat (first | apply qkn | apply qkd | apply qka)); refine qkp (cs := #[.int .i64 (wrap64 (a0_0 + (wrap64 (a2 * a1_0)))), .int .i64 (wrap64 (a0_1 + (wrap64 (a2 * a1_1)))), .int .i64 (wrap64 (a0_2 + (wrap64 (a2 * a1_2)))), .int .i64 0]) ?_ 3 _ rfl; (with_reducible repeat (first | apply qkn | apply qkd | apply qka)); refine qkp (cs := #[.int .i64 (wrap64 (a0_0 + (wrap64 (a2 * a1_0)))), .int .i64 (wrap64 (a0_1 + (wrap64 (a2 * a1_1)))), .int .i64 0, .int .i64 0]) ?_ 2 _ rfl; (with_reducible repeat (first | apply qkn | apply qkd | apply qka)); refine qkp (cs := #[.int .i64 (wrap64 (a0_0 + (wrap64 (a2 * a1_0)))), .int .i64 0, .int .i64 0, .int .i64 0]) ?_ 1 _ rfl; (with_reducible repeat (first | apply qkn | apply qkd | apply qka)); refine qkp (cs := #[.int .i64 0, .int .i64 0, .int .i64 0, .int .i64 0]) ?_ 0 _ rfl; (with_reducible repeat (first | apply qkn | apply qkd | apply qka)); exact BK341.out) Tryd.underlying27 rfl (by kernel_rfl)) rfl ?_
 exact ⟨by first | rfl | (simp [errW_none, errW_some] <;> rfl) | (simp [*, errW_none, errW_some] <;> rfl), by repeat (first | (with_reducible first | exact HB.out | apply qba | apply qbn | apply qb1 | refine qbs ?_ GE339.out | refine qbs ?_ GE340.out | refine qbs ?_ GE341.out) | exact HB.out)⟩

end Go.Proofs.YtdagocpgefjmdaaDoor.PIntervalsCounted
