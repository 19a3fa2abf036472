/-
  The machine M, part 2: symbolic runs of the given code over data, and that they are what the code does. No condition.
-/
import Derived.Test.YtdagocpgefjmdaaGreatDoorInM0
set_option linter.unusedVariables false
set_option linter.unusedSectionVars false
set_option linter.unusedSimpArgs false
namespace Go.M
set_option linter.unusedVariables false
set_option linter.unusedSectionVars false
open Uni
variable {El : Nat → Type} [Uni El] [UniOK El] {R : Type}
def nthN : List Nat → Nat → Nat
  | [], _ => 0
  | x :: _, 0 => x
  | _ :: r, n + 1 => nthN r n
theorem nthN_get : ∀ {l : List Nat} {i o : Nat}, l[i]? = some o → nthN l i = o
  | [], i, o, h => by simp at h
  | x :: r, 0, o, h => by simp at h; exact h
  | x :: r, i + 1, o, h => by simp at h; exact nthN_get (l := r) h
def reimp (σ : Nat → Nat) (objs : List (Nat × MObj El)) : Nat → Option (List (Nat × MObj El))
  | 0 => some []
  | n + 1 =>
    match renO (fun o => some (σ o)) (look objs n), reimp σ objs n with
    | some x, some l => some ((σ n, x) :: l)
    | _, _ => none
theorem reimp_look {σ : Nat → Nat} {objs : List (Nat × MObj El)} (t : List (Nat × MObj El)) : ∀ {n : Nat} {l : List (Nat × MObj El)}, (∀ i j, i < n → j < n → σ i = σ j → i = j) → reimp σ objs n = some l →
    (∀ i, i < n → renO (fun o => some (σ o)) (look objs i) = some (look (l ++ t) (σ i))) ∧ (∀ o, (∀ i, i < n → σ i ≠ o) → look (l ++ t) o = look t o)
  | 0, l, hi, h => by simp [reimp] at h; subst h; exact ⟨fun i h => by omega, fun o _ => rfl⟩
  | n + 1, l, hi, h => by
    unfold reimp at h
    split at h
    · rename_i x l' hx hl
      cases h
      obtain ⟨a1, a2⟩ := reimp_look t (fun i j p q e => hi i j (by omega) (by omega) e) hl
      refine ⟨fun i hlt => ?_, fun o ho => ?_⟩
      · rw [List.cons_append, look_cons]
        by_cases e : i = n
        · subst e
          rw [if_pos rfl]
          exact hx
        · rw [if_neg (fun q => e (hi i n hlt (by omega) q.symm))]
          exact a1 i (by omega)
      · rw [List.cons_append, look_cons, if_neg (ho n (by omega))]
        exact a2 o (fun i hlt => ho i (by omega))
    · cases h
def gones : List Nat → List (Nat × MObj El) → List (Nat × MObj El)
  | [], t => t
  | o :: r, t => (o, .gone) :: gones r t
theorem gones_look (t : List (Nat × MObj El)) (o : Nat) : ∀ {l : List Nat}, (o ∈ l → look (gones l t) o = .gone) ∧ (o ∉ l → look (gones l t) o = look t o)
  | [] => ⟨fun h => by simp at h, fun _ => rfl⟩
  | x :: r => by
    obtain ⟨a1, a2⟩ := gones_look t o (l := r)
    unfold gones
    rw [look_cons]
    refine ⟨fun h => ?_, fun h => ?_⟩
    · by_cases e : x = o
      · rw [if_pos e]
      · rw [if_neg e]
        exact a1 (by simpa [Ne.symm e] using h)
    · rw [if_neg (fun e => h (by simp [e]))]
      exact a2 (fun q => h (by simp [q]))
def sig (ord : List Nat) (q base i : Nat) : Nat := cond (Nat.blt i q) (nthN ord i) (base + i)
def callWith (ord : List Nat) (q : Nat) (spec : Spec El) (st : St El) (ds : List (D El)) (K : St El → D El → Option R) : Option R :=
  cond (nodupN ord && Nat.ble q ord.length)
    (match reobj (idxIn ord 0) st.objs ord 0, rens1 (idxIn ord 0) ds with
    | some objs, some ds' => spec R ds' objs ord.length fun out =>
      match reimp (sig ord q st.next) out.objs out.next, ren2 (fun o => some (sig ord q st.next o)) out.res with
      | some imp, some res => K ⟨st.tmps, imp ++ gones ord st.objs, st.next + out.next⟩ res
      | _, _ => none
    | _, _ => none) none
theorem callWith_sound {P : Program} {f q : Nat} {spec : Spec El} (hspec : FnOK P f q spec) {ord : List Nat} {st : St El} {ds : List (D El)} {K : St El → D El → Option R} {r : R} (h : callWith ord q spec st ds K = some r) :
    ∃ st' d, K st' d = some r ∧ ∀ {X : Ctx El} {S β a w} {vs : Array Value}, Rel X st S β a w → PtL w S β vs.toList ds → (∀ o ∈ ord, ∃ v, β o = some v) →
      Calls P f vs w fun e w' => ∃ v S' β', e = .returned v ∧ Rel X st' S' β' a w' ∧ VRel w' S' β' v d ∧ (ord = [] → Stay w w') := by
  unfold callWith at h
  obtain ⟨hc, h0⟩ := cond_some h
  clear h
  obtain ⟨hn, hql⟩ := Bool.and_eq_true_iff.1 hc
  have hql := Nat.le_of_ble_eq_true hql
  split at h0
  · rename_i objs ds' hobjs hds
    obtain ⟨out, h1, s1⟩ := hspec R ds' objs ord.length _ r h0
    split at h1
    · rename_i imp res himp hres
      refine ⟨_, _, h1, fun {X S β a w vs} hr hp hall => ?_⟩
      have hf : ∀ o o', idxIn ord 0 o = some o' → betaOf β ord o' = β o := fun o o' ho => by
        obtain ⟨_, k⟩ := idxIn_get ho
        simp only [Nat.sub_zero] at k
        unfold betaOf
        rw [k]
        rfl
      have lk : ∀ i o, ord[i]? = some o → renO (idxIn ord 0) (look st.objs o) = some (look objs i) := fun i o ho => (reobj_look hobjs i).2 o (Nat.zero_le _) (by simpa using ho)
      have nil : ∀ i, ord[i]? = none → look objs i = .gone := fun i hi => (reobj_look hobjs i).1 (.inr (by simpa using hi))
      have obj : ∀ i, ORel w S (betaOf β ord) i (look objs i) := fun i => by
        cases ho : ord[i]? with
        | none => rw [nil i ho]; trivial
        | some o => exact (renO_rel hf (by unfold betaOf; rw [ho]; rfl) (lk i o ho) (hr.objs o)).1
      have back : ∀ i, (look objs i).live = true → ∃ o, ord[i]? = some o ∧ (look st.objs o).live = true := fun i hl => by
        cases ho : ord[i]? with
        | none => rw [nil i ho] at hl; cases hl
        | some o => exact ⟨o, rfl, by rw [← (renO_rel hf (by unfold betaOf; rw [ho]; rfl) (lk i o ho) (hr.objs o)).2.1]; exact hl⟩
      have fwd : ∀ i o, ord[i]? = some o → (look st.objs o).live = true → (look objs i).live = true := fun i o ho hl => by
        rw [(renO_rel hf (by unfold betaOf; rw [ho]; rfl) (lk i o ho) (hr.objs o)).2.1]; exact hl
      have bo : ∀ i o, ord[i]? = some o → betaOf β ord i = β o := fun i o ho => by unfold betaOf; rw [ho]; rfl
      have mine : ∀ r, Mine (betaOf β ord) objs r → ∃ o, o ∈ ord ∧ (look st.objs o).live = true ∧ at_ β o r := by
        rintro r ⟨i, l, v, b, k⟩
        obtain ⟨o, e1, e2⟩ := back i l
        rw [bo i o e1] at b
        exact ⟨o, List.mem_of_getElem? e1, e2, v, b, k⟩
      have hhok : HOK w S (betaOf β ord) objs ord.length := by
        refine ⟨obj, ?_, ?_, ?_, hr.inside, hr.laid⟩
        · intro i1 i2 v1 v2 r l1 l2 b1 b2 k1 k2
          obtain ⟨o1, e1, e2⟩ := back i1 l1
          obtain ⟨o2, f1, f2⟩ := back i2 l2
          rw [bo i1 o1 e1] at b1
          rw [bo i2 o2 f1] at b2
          have := hr.inj o1 o2 v1 v2 r e2 f2 b1 b2 k1 k2
          subst this
          exact nodupN_iff hn i1 i2 o1 e1 f1
        · intro i v r l b k
          obtain ⟨o, e1, e2⟩ := back i l
          rw [bo i o e1] at b
          exact (hr.away o v r e2 b k).1
        · intro i hi
          unfold betaOf
          rw [List.getElem?_eq_none hi]
          rfl
      have hp' : PtL w S (betaOf β ord) vs.toList ds' := by
        obtain ⟨r1, r2⟩ := rens1_get hds
        refine ⟨by rw [r1]; exact hp.1, fun i v d p q' => ?_⟩
        obtain ⟨e, c1, c2⟩ := r2 i d q'
        exact ren1_rel hf c2 (hp.2 i v e p c1)
      have hroots : ∀ i, i < q → ∃ v, betaOf β ord i = some v := fun i hi => by
        have hlt : i < ord.length := by omega
        rw [bo i ord[i] (by simp [hlt])]
        exact hall _ (List.getElem_mem _)
      refine (s1 w S (betaOf β ord) vs hp' hhok hroots).mono ?_
      rintro e w' ⟨v, S', γ, rfl, g1, g2, g3, g4, g5, g6, g7⟩
      let β2 : Beta := fun o => if o < st.next then β o else γ (o - st.next)
      have hlt : ∀ o v, β o = some v → o < st.next := fun o v hv => by
        rcases Nat.lt_or_ge o st.next with hl | hl
        · exact hl
        · rw [hr.fresh o hl] at hv; cases hv
      have hb : ∀ o x, β o = some x → β2 o = some x := fun o x hx => by
        show (if o < st.next then β o else γ (o - st.next)) = some x
        rw [if_pos (hlt o x hx)]
        exact hx
      have hord : ∀ i o, ord[i]? = some o → o < st.next := fun i o ho => by
        obtain ⟨v, hv⟩ := hall o (List.mem_of_getElem? ho)
        exact hlt o v hv
      have hsig : ∀ i, β2 (sig ord q st.next i) = γ i := fun i => by
        unfold sig
        cases hb : Nat.blt i q with
        | true =>
          have hi : i < q := Nat.le_of_ble_eq_true hb
          have hil : i < ord.length := by omega
          have ho : ord[i]? = some ord[i] := by simp [hil]
          show β2 (nthN ord i) = γ i
          rw [nthN_get ho]
          show (if ord[i] < st.next then β ord[i] else γ (ord[i] - st.next)) = γ i
          rw [if_pos (hord i _ ho), g6 i hi, bo i _ ho]
        | false =>
          show (if st.next + i < st.next then β (st.next + i) else γ (st.next + i - st.next)) = γ i
          rw [if_neg (by omega)]
          congr 1
          omega
      have hinj : ∀ i j, i < out.next → j < out.next → sig ord q st.next i = sig ord q st.next j → i = j := by
        intro i j _ _ he
        unfold sig at he
        cases hb1 : Nat.blt i q with
        | true =>
          have hi : i < q := Nat.le_of_ble_eq_true hb1
          have hil : i < ord.length := by omega
          have ho : ord[i]? = some ord[i] := by simp [hil]
          rw [hb1] at he
          cases hb2 : Nat.blt j q with
          | true =>
            have hj : j < q := Nat.le_of_ble_eq_true hb2
            have hjl : j < ord.length := by omega
            have ho2 : ord[j]? = some ord[j] := by simp [hjl]
            rw [hb2] at he
            simp only [cond_true] at he
            rw [nthN_get ho, nthN_get ho2] at he
            exact nodupN_iff hn i j _ ho (by rw [he]; exact ho2)
          | false =>
            rw [hb2] at he
            simp only [cond_true, cond_false] at he
            rw [nthN_get ho] at he
            have := hord i _ ho
            omega
        | false =>
          rw [hb1] at he
          cases hb2 : Nat.blt j q with
          | true =>
            have hj : j < q := Nat.le_of_ble_eq_true hb2
            have hjl : j < ord.length := by omega
            have ho2 : ord[j]? = some ord[j] := by simp [hjl]
            rw [hb2] at he
            simp only [cond_true, cond_false] at he
            rw [nthN_get ho2] at he
            have := hord j _ ho2
            omega
          | false =>
            rw [hb2] at he
            simp only [cond_false] at he
            omega
      obtain ⟨m1, m2⟩ := reimp_look (gones ord st.objs) hinj himp
      have hfs : ∀ o o', (fun o => some (sig ord q st.next o)) o = some o' → β2 o' = γ o := fun o o' ho => by cases ho; exact hsig o
      have hSM : ∀ r, S r → ¬ Mine (betaOf β ord) objs r := fun r hs hm => by
        obtain ⟨o, _, o2, v2, o3, o4⟩ := mine r hm
        exact (hr.away o v2 r o2 o3 o4).1 hs
      -- what each number leads to now
      have whose : ∀ o, (∃ i, i < out.next ∧ sig ord q st.next i = o ∧ renO (fun o => some (sig ord q st.next o)) (look out.objs i) = some (look (imp ++ gones ord st.objs) o)) ∨
          (look (imp ++ gones ord st.objs) o = .gone) ∨ (o ∉ ord ∧ look (imp ++ gones ord st.objs) o = look st.objs o) := fun o => by
        by_cases hex : ∃ i, i < out.next ∧ sig ord q st.next i = o
        · obtain ⟨i, hi, he⟩ := hex
          left
          exact ⟨i, hi, he, by rw [← he]; exact m1 i hi⟩
        · right
          have hno : ∀ i, i < out.next → sig ord q st.next i ≠ o := fun i hi he => hex ⟨i, hi, he⟩
          rw [m2 o hno]
          by_cases hm : o ∈ ord
          · exact .inl ((gones_look st.objs o).1 hm)
          · exact .inr ⟨hm, (gones_look st.objs o).2 hm⟩
      have own : ∀ o v r, (look (imp ++ gones ord st.objs) o).live = true → β2 o = some v → blkOf v = some r →
          (∃ i, i < out.next ∧ sig ord q st.next i = o ∧ (look out.objs i).live = true ∧ γ i = some v) ∨ (o ∉ ord ∧ (look st.objs o).live = true ∧ β o = some v ∧ r < w.heap.size ∧ ¬ Mine (betaOf β ord) objs r ∧ ¬ S r) := by
        intro o v r hl hv hk
        rcases whose o with ⟨i, hi, he, hx⟩ | hg | ⟨hm, hx⟩
        · left
          have hl2 := (renO_rel hfs (o := i) (o' := o) (by rw [← he]; exact hsig i) hx (g2.rel i)).2.1
          exact ⟨i, hi, he, by rw [← hl2]; exact hl, by rw [← hsig i, he]; exact hv⟩
        · rw [hg] at hl; cases hl
        · right
          rw [hx] at hl
          have hob : β o = some v := by
            cases hbo : β o with
            | none =>
              have ho := hr.objs o
              cases hlo : look st.objs o with
              | box ty cells => rw [hlo] at ho; obtain ⟨r', C, q1, _⟩ := ho; rw [hbo] at q1; cases q1
              | arr t l => rw [hlo] at ho; obtain ⟨v', vs', q1, _⟩ := ho; rw [hbo] at q1; cases q1
              | ice t l => rw [hlo] at hl; cases hl
              | gone => rw [hlo] at hl; cases hl
            | some v' => rw [hb o v' hbo] at hv; exact hv
          refine ⟨hm, hl, hob, (hr.objs o).lt hl ⟨v, hob, hk⟩, fun hmi => ?_, (hr.away o v r hl hob hk).1⟩
          obtain ⟨o', p1, p2, v2, p3, p4⟩ := mine r hmi
          exact hm (hr.inj o o' v v2 r hl p2 hob p3 hk p4 ▸ p1)
      have hv2 : ∀ v (d : D El), VRel w S β v d → VRel w' S' β2 v d := fun v d k => k.mono (fun r hs => g3.block r (hr.inside r hs) (hSM r hs)) g4 hb
      refine ⟨v, S', β2, rfl, ⟨hr.size, fun i => hv2 _ _ (hr.tmps i), hr.defers, ?_, ?_, ?_, ?_, g2.inside, fun r hs => g4 r (hr.stay r hs), g3.os.trans hr.os, g3.tape.trans hr.tape, g3.output.trans hr.output, Nat.le_trans hr.grown g3.size, ?_, ?_, ?_⟩, ren2_rel hfs hres g1, fun he r hr2 => g3.block r hr2 (fun hm => by obtain ⟨o', p1, _⟩ := mine r hm; rw [he] at p1; cases p1)⟩
      · intro o
        rcases whose o with ⟨i, hi, he, hx⟩ | hg | ⟨hm, hx⟩
        · exact (renO_rel hfs (by rw [← he]; exact hsig i) hx (g2.rel i)).1
        · show ORel w' S' β2 o (look (imp ++ gones ord st.objs) o)
          rw [hg]; trivial
        · show ORel w' S' β2 o (look (imp ++ gones ord st.objs) o)
          rw [hx]
          refine (hr.objs o).kept g3 hSM hr.inside (fun r hat hl hmi => ?_) g4 hb
          obtain ⟨v1, b1, k1⟩ := hat
          obtain ⟨o', p1, p2, v2, p3, p4⟩ := mine r hmi
          exact hm (hr.inj o o' v1 v2 r hl p2 b1 p3 k1 p4 ▸ p1)
      · intro o1 o2 v1 v2 r l1 l2 b1 b2 k1 k2
        rcases own o1 v1 r l1 b1 k1 with ⟨i1, a1, a2, a3, a4⟩ | ⟨a1, a2, a3, a4, a5, a6⟩
        · rcases own o2 v2 r l2 b2 k2 with ⟨i2, c1, c2, c3, c4⟩ | ⟨c1, c2, c3, c4, c5, c6⟩
          · have := g2.inj i1 i2 v1 v2 r a3 c3 a4 c4 k1 k2
            subst this
            rw [← a2, ← c2]
          · exact absurd (g7 r ⟨i1, a3, v1, a4, k1⟩ c4) c5
        · rcases own o2 v2 r l2 b2 k2 with ⟨i2, c1, c2, c3, c4⟩ | ⟨c1, c2, c3, c4, c5, c6⟩
          · exact absurd (g7 r ⟨i2, c3, v2, c4, k2⟩ a4) a5
          · exact hr.inj o1 o2 v1 v2 r a2 c2 a3 c3 k1 k2
      · intro o v r l b k
        rcases own o v r l b k with ⟨i1, a1, a2, a3, a4⟩ | ⟨a1, a2, a3, a4, a5, a6⟩
        · refine ⟨g2.away i1 v r a3 a4 k, fun hlt0 => ?_⟩
          obtain ⟨o', _, p2, v2, p3, p4⟩ := mine r (g7 r ⟨i1, a3, v, a4, k⟩ (Nat.lt_of_lt_of_le hlt0 hr.grown))
          exact (hr.away o' v2 r p2 p3 p4).2 hlt0
        · refine ⟨fun hs => ?_, (hr.away o v r a2 a3 k).2⟩
          rcases g5 r hs a4 with h1 | h1
          · exact a6 h1
          · exact a5 h1
      · intro o ho
        have ho' : st.next + out.next ≤ o := ho
        show (if o < st.next then β o else γ (o - st.next)) = none
        rw [if_neg (by omega)]
        exact g2.fresh _ (by omega)
      · intro r hlt0 hB
        have hnm : ¬ Mine (betaOf β ord) objs r := fun hm => by
          obtain ⟨o', _, p2, v2, p3, p4⟩ := mine r hm
          exact hB ((hr.away o' v2 r p2 p3 p4).2 hlt0)
        rw [g3.block r (Nat.lt_of_lt_of_le hlt0 hr.grown) hnm]
        exact hr.frame r hlt0 hB
      · intro r hs hlt0
        rcases g5 r hs (Nat.lt_of_lt_of_le hlt0 hr.grown) with h1 | h1
        · exact hr.old r h1 hlt0
        · obtain ⟨o', _, p2, v2, p3, p4⟩ := mine r h1
          exact .inr ((hr.away o' v2 r p2 p3 p4).2 hlt0)
      · intro i hi
        obtain ⟨v, c1, c2⟩ := hr.root i hi
        exact ⟨v, c1, hb i v c2⟩
    · cases h1
  · cases h0
end Go.M
namespace Go.M
set_option linter.unusedVariables false
set_option linter.unusedSectionVars false
open Uni
variable {El : Nat → Type} [Uni El] [UniOK El] {R : Type}
inductive PM where
  | ref
  | any
  | frz (t : Nat)
def mpass (st : St El) (m : PM) (d : D El) (K : St El → D El → Option R) : Option R :=
  match m with
  | .ref => K st d
  | .any => mfz st d K
  | .frz t => match d with | .nilsl => K st (.frz t []) | d => mfreeze st d K
theorem mpass_sound {st : St El} {m : PM} {d : D El} {K : St El → D El → Option R} {r : R} (h : mpass st m d K = some r) : ∃ st' d', K st' d' = some r ∧
    ∀ {X : Ctx El} {S β a w v}, Rel X st S β a w → VRel w S β v d → ∃ S', (∀ r, S r → S' r) ∧ Rel X st' S' β a w ∧ VRel w S' β v d' := by
  unfold mpass at h
  split at h
  · exact ⟨_, _, h, fun {X S β a w v} hr hv => ⟨S, fun _ h => h, hr, hv⟩⟩
  · exact mfz_sound h
  · split at h
    · exact ⟨_, _, h, fun {X S β a w v} hr hv => ⟨S, fun _ h => h, hr, by cases hv; exact .frz0 _ _ _⟩⟩
    · exact mfreeze_sound h
def passArgs (st : St El) : List PM → List (D El) → (St El → List (D El) → Option R) → Option R
  | _, [], K => K st []
  | [], d :: ds, K => mfz st d fun st1 d1 => passArgs st1 [] ds fun st2 r => K st2 (d1 :: r)
  | b :: bs, d :: ds, K => mpass st b d fun st1 d1 => passArgs st1 bs ds fun st2 r => K st2 (d1 :: r)
theorem passArgs_sound : ∀ {ds : List (D El)} {bs : List PM} {st : St El} {K : St El → List (D El) → Option R} {r : R}, passArgs st bs ds K = some r → ∃ st' ds', K st' ds' = some r ∧
    ∀ {X : Ctx El} {S β a w vs}, Rel X st S β a w → PtL w S β vs ds → ∃ S', (∀ r, S r → S' r) ∧ Rel X st' S' β a w ∧ PtL w S' β vs ds' := by
  intro ds
  induction ds with
  | nil =>
    intro bs st K r h
    cases bs <;> exact ⟨_, _, h, fun {X S β a w vs} hr hp => ⟨S, fun _ h => h, hr, hp⟩⟩
  | cons d ds ih =>
    have go : ∀ {bs : List PM} {m : PM} {st : St El} {K : St El → List (D El) → Option R} {r : R}, (mpass st m d fun st1 d1 => passArgs st1 bs ds fun st2 r => K st2 (d1 :: r)) = some r → ∃ st' ds', K st' ds' = some r ∧
        ∀ {X : Ctx El} {S β a w vs}, Rel X st S β a w → PtL w S β vs (d :: ds) → ∃ S', (∀ r, S r → S' r) ∧ Rel X st' S' β a w ∧ PtL w S' β vs ds' := by
      intro bs m st K r h
      obtain ⟨st1, d1, h1, s1⟩ := mpass_sound h
      obtain ⟨st2, ds2, h2, s2⟩ := ih h1
      refine ⟨_, _, h2, fun {X S β a w vs} hr hp => ?_⟩
      obtain ⟨v, vs', rfl, hv, hp'⟩ := hp.head
      obtain ⟨S1, a1, a2, a3⟩ := s1 hr hv
      obtain ⟨S2, b1, b2, b3⟩ := s2 a2 (hp'.mono (fun _ _ => rfl) a1 (fun _ _ h => h))
      exact ⟨S2, fun r hr => b1 r (a1 r hr), b2, PtL.cons (a3.mono (fun _ _ => rfl) b1 (fun _ _ h => h)) b3⟩
    intro bs st K r h
    cases bs with
    | nil => exact go (m := .any) h
    | cons b bs => exact go h
def MObj.thing : MObj El → Bool
  | .gone => false
  | _ => true
structure Entry (El : Nat → Type) where
  refs : List PM
  q : Nat
  spec : Spec El
abbrev Tab (El : Nat → Type) := List (Nat × Entry El)
def tabLook : Tab El → Nat → Option (Entry El)
  | [], _ => none
  | (g, e) :: r, f => cond (Nat.beq g f) (some e) (tabLook r f)
def callIn (ord : List Nat) (e : Entry El) (st : St El) (ds : List (D El)) (K : St El → D El → Option R) : Option R :=
  cond (ord.all fun o => (look st.objs o).thing) (callWith ord e.q e.spec st ds K) none
def mcall (tab : Tab El) (st : St El) (f : Nat) (ds : List (D El)) (K : St El → D El → Option R) : Option R :=
  match tabLook tab f with
  | some e => passArgs st e.refs ds fun st1 ds1 => callIn (reach st1.objs 1000 (ds1.flatMap refs1) []) e st1 ds1 K
  | none => none
def TabOK (P : Program) (tab : Tab El) : Prop := ∀ f e, tabLook tab f = some e → FnOK P f e.q e.spec ∧ ∀ args w, (callFunc f args).run P w = .ok (.enter f args) w
theorem TabOK.nil {P : Program} : TabOK P ([] : Tab El) := fun f e h => by cases h
theorem TabOK.cons {P : Program} {tab : Tab El} {f : Nat} {e : Entry El} (h : FnOK P f e.q e.spec) (h2 : ∀ args w, (callFunc f args).run P w = .ok (.enter f args) w) (ht : TabOK P tab) : TabOK P ((f, e) :: tab) := by
  intro g e' hg
  unfold tabLook at hg
  cases hb : Nat.beq f g with
  | true =>
    rw [hb] at hg
    cases hg
    have := beq_true hb
    subst this
    exact ⟨h, h2⟩
  | false =>
    rw [hb] at hg
    exact ht g e' hg
theorem ORel.some {w : World} {S : Nat → Prop} {β : Beta} {o : Nat} {x : MObj El} (h : ORel w S β o x) (ht : x.thing = true) : ∃ v, β o = some v := by
  cases x with
  | box ty cells => obtain ⟨r, C, h1, _⟩ := h; exact ⟨_, h1⟩
  | arr t l => obtain ⟨v, vs, h1, _⟩ := h; exact ⟨_, h1⟩
  | ice t l => obtain ⟨v, vs, h1, _⟩ := h; exact ⟨_, h1⟩
  | gone => cases ht
theorem mcall_ok {P : Program} {tab : Tab El} (ht : TabOK P tab) : CallOK P (mcall (R := R) tab) := by
  refine ⟨fun {st f ds K r} h => ?_⟩
  unfold mcall at h
  split at h
  · rename_i e he
    obtain ⟨hf, hen⟩ := ht f e he
    obtain ⟨st1, ds1, h1, s1⟩ := passArgs_sound h
    unfold callIn at h1
    obtain ⟨hall, h2⟩ := cond_some h1
    obtain ⟨st', d, h3, s3⟩ := callWith_sound hf h2
    refine ⟨st', d, h3, hen, fun {X S β a w vs} hr hp => ?_⟩
    obtain ⟨S', a1, a2, a3⟩ := s1 hr hp
    exact (s3 a2 a3 (fun o ho => (a2.objs o).some (List.all_eq_true.1 hall o ho))).mono fun e w' ⟨v, S1, β1, k1, k2, k3, _⟩ => ⟨v, S1, β1, k1, k2, k3⟩
  · cases h
def mcalmCall (tab : Tab El) (st : St El) (f : Nat) (ds : List (D El)) (K : St El → D El → Option R) : Option R :=
  match tabLook tab f with
  | some e => passArgs st e.refs ds fun st1 ds1 =>
    match reach st1.objs 1000 (ds1.flatMap refs1) [] with
    | [] => callWith [] e.q e.spec st1 ds1 K
    | _ => none
  | none => none
structure CalmOK (P : Program) (C : St El → Nat → List (D El) → (St El → D El → Option R) → Option R) : Prop where
  sound : ∀ {st : St El} {f : Nat} {ds : List (D El)} {K : St El → D El → Option R} {r : R}, C st f ds K = some r → ∃ st' d, K st' d = some r ∧ (∀ args w, (callFunc f args).run P w = .ok (.enter f args) w) ∧
    ∀ {X : Ctx El} {S β a w} {vs : Array Value}, Rel X st S β a w → PtL w S β vs.toList ds → Calls P f vs w fun e w' => ∃ v S' β', e = .returned v ∧ Rel X st' S' β' a w' ∧ VRel w' S' β' v d ∧ Stay w w'
theorem mcalmCall_ok {P : Program} {tab : Tab El} (ht : TabOK P tab) : CalmOK P (mcalmCall (R := R) tab) := by
  refine ⟨fun {st f ds K r} h => ?_⟩
  unfold mcalmCall at h
  split at h
  · rename_i e he
    obtain ⟨hf, hen⟩ := ht f e he
    obtain ⟨st1, ds1, h1, s1⟩ := passArgs_sound h
    split at h1
    · obtain ⟨st', d, h3, s3⟩ := callWith_sound hf h1
      refine ⟨st', d, h3, hen, fun {X S β a w vs} hr hp => ?_⟩
      obtain ⟨S', a1, a2, a3⟩ := s1 hr hp
      exact (s3 a2 a3 (fun o ho => by cases ho)).mono fun e w' ⟨v, S1, β1, k1, k2, k3, k4⟩ => ⟨v, S1, β1, k1, k2, k3, k4 rfl⟩
    · cases h1
  · cases h
end Go.M
namespace Go.M
set_option linter.unusedVariables false
set_option linter.unusedSectionVars false
open Uni
variable {El : Nat → Type} [Uni El] [UniOK El] {R : Type}
def turns : List (Nat × RM) → St El → Option (St El)
  | [], st => some st
  | (i, m) :: r, st => mmode st m (nth st.tmps i) fun st1 d => turns r (st1.put (some i) d)
theorem turns_ok {q : Nat} : ∀ (l : List (Nat × RM)), WOK (El := El) q (turns l) := by
  intro l
  induction l with
  | nil => intro st st' h X S β a w hq hr; cases h; exact ⟨S, β, hr⟩
  | cons p l ih =>
    intro st st' h X S β a w hq hr
    obtain ⟨st1, d, h1, s1⟩ := mmode_sound h
    obtain ⟨S1, β1, a1, a2, a3, a4⟩ := s1 hr (hr.tmps p.1)
    refine ih _ _ h1 hq (a := a) (w := w) (S := S1) (β := β1) ?_
    have hput := a3.put (some p.1) a4
    by_cases hlt : p.1 < a.tmps.size
    · have e : a.put (some p.1) (a.tmps.getD p.1 undef) = a := by
        simp only [Act.put]
        have : a.tmps.setIfInBounds p.1 (a.tmps.getD p.1 undef) = a.tmps := by
          apply Array.ext
          · simp
          · intro i h1 h2
            rw [Array.getElem_setIfInBounds h2]
            split
            · rename_i hi
              subst hi
              simp [Array.getD, hlt]
            · rfl
        rw [this]
      rw [e] at hput
      exact hput
    · have e : a.put (some p.1) (a.tmps.getD p.1 undef) = a := by
        simp only [Act.put]
        rw [Array.setIfInBounds_eq_of_size_le (by omega)]
      rw [e] at hput
      exact hput
def kept (l : List Nat) : Nat → Nat → List Bool
  | _, 0 => []
  | i, n + 1 => memN i l :: kept l (i + 1) n
def word (q : Nat) (ms : List (Nat × RM)) (keep : List Bool) (st : St El) : Option (St El) :=
  match turns ms st with
  | some st1 => canon q keep st1
  | none => none
theorem word_ok (q : Nat) (ms : List (Nat × RM)) (keep : List Bool) : WOK (El := El) q (word q ms keep) := by
  intro st st' h X S β a w hq hr
  unfold word at h
  split at h
  · rename_i st1 h1
    obtain ⟨S1, β1, hr1⟩ := turns_ok ms st st1 h1 hq hr
    exact ⟨_, _, canonWith_rel h hr1 hq⟩
  · cases h
theorem none_ok (q : Nat) : WOK (El := El) q (fun _ => none) := by
  intro st st' h
  cases h
def ell {A : Type} (E : Env El R) (k b : Nat) (view : St El → Option A) (lk : (MX → St El → Option R) → Nat → A → Option R) (x : Code) (K : MX → St El → Option R) (st : St El) : Option R :=
  match E.W b st with
  | some st1 =>
    match view st1 with
    | some p => lk K k p
    | none => mloop (E.W b) (mexec E k b x) (fun e s => match E.X b e s with | some s1 => K e s1 | none => none) k st1
  | none => none
def round (E : Env El R) (k b : Nat) (x : Code) (K : MX → St El → Option R) (G : St El → Option R) (st : St El) : Option R :=
  mexec E k b x (fun e st' => match e with | .norm => (match E.W b st' with | some st1 => G st1 | none => none) | e => (match E.X b e st' with | some s1 => K e s1 | none => none)) st
def roundG (L : LE El R) (E : Env El R) (b : Nat) (x : Code) (K : MX → St El → Option R) (G : St El → Option R) (st : St El) : Option R :=
  mexecG L E b x (fun e st' => match e with | .norm => (match E.W b st' with | some st1 => G st1 | none => none) | e => (match E.X b e st' with | some s1 => K e s1 | none => none)) st
theorem round_eq {L : LE El R} {E : Env El R} {k b : Nat} {x : Code} (h : AllOf (Told L E k b x)) (K : MX → St El → Option R) (G : St El → Option R) (st : St El) : round E k b x K G st = roundG L E b x K G st := mexecG_eq x h _ st
def loopAt (b : Nat) : Code → Nat → Option Code
  | .seq x y, i => match loopAt b x i with | some r => some r | none => loopAt b y i
  | .cond _ x y, i => match loopAt b x i with | some r => some r | none => loopAt b y i
  | .block j x, _ => loopAt b x j
  | .loop x, i => cond (Nat.beq i b) (some x) (loopAt b x i)
  | _, _ => none
def loopIn (f : Func) (b : Nat) : Code := ((f.body).bind fun c => loopAt b c 0).getD .skip
theorem ell_eq {A : Type} {E : Env El R} {k b : Nat} {view : St El → Option A} {lk : (MX → St El → Option R) → Nat → A → Option R} {x : Code} (stc : A → St El) (hv : ∀ st p, view st = some p → st = stc p)
    (T : (MX → St El → Option R) → (A → Option R) → A → Option R) (h0 : ∀ K p, lk K 0 p = none) (hs : ∀ K n p, lk K (n + 1) p = T K (lk K n) p)
    (hA : ∀ (K : MX → St El → Option R) (G : St El → Option R) p, round E k b x K G (stc p) = T K (fun p' => G (stc p')) p)
    (K : MX → St El → Option R) (st : St El) : mexec E k b (.loop x) K st = ell E k b view lk x K st := by
  simp only [mexec, ell]
  cases E.W b st with
  | none => rfl
  | some st1 =>
    dsimp only
    cases hp : view st1 with
    | none => rfl
    | some p =>
      dsimp only
      rw [hv _ _ hp]
      refine mloop_eq stc (T K) (lk K) (h0 K) (hs K) (fun G p => ?_) k p
      exact hA K G p
def vword {A : Type} (view : St El → Option A) (W : St El → Option (St El)) (st : St El) : Option (St El) :=
  match W st with
  | some st1 => match view st1 with
    | some _ => some st1
    | none => none
  | none => none
theorem vword_ok {q : Nat} {A : Type} {view : St El → Option A} {W : St El → Option (St El)} (h : WOK q W) : WOK q (vword view W) := by
  intro st st' e X S β a w hq hr
  unfold vword at e
  split at e
  · rename_i st1 h1
    split at e
    · cases e
      exact h st _ h1 hq hr
    · cases e
  · cases e
def jell {A : Type} (E : Env El R) (k b j : Nat) (view : St El → Option A) (lk : (MX → St El → Option R) → A → Option R) (x : Code) (K : MX → St El → Option R) (st : St El) : Option R :=
  match view st with
  | some p => lk K p
  | none => mexec E k b x (E.wrap j K) st
def joinAt (r : Nat) : Code → Option Code
  | .seq x y => match firstReg y with
    | some i => cond (Nat.beq i r) (some y) (match joinAt r x with | some c => some c | none => joinAt r y)
    | none => match joinAt r x with | some c => some c | none => joinAt r y
  | .cond _ x y => match joinAt r x with | some c => some c | none => joinAt r y
  | .block _ x => joinAt r x
  | .loop x => joinAt r x
  | _ => none
def joinIn (f : Func) (r : Nat) : Code := ((f.body).bind fun c => joinAt r c).getD .skip
theorem jell_eq {A : Type} {E : Env El R} {k b j : Nat} {view : St El → Option A} {lk : (MX → St El → Option R) → A → Option R} {x : Code} (stc : A → St El) (hv : ∀ st p, view st = some p → st = stc p)
    (hA : ∀ (K : MX → St El → Option R) p, mexec E k b x (E.wrap j K) (stc p) = lk K p)
    (K : MX → St El → Option R) (st : St El) : mexec E k b x (E.wrap j K) st = jell E k b j view lk x K st := by
  unfold jell
  cases hp : view st with
  | none => rfl
  | some p =>
    dsimp only
    rw [hv _ _ hp]
    exact hA K p
end Go.M
namespace Go.M
set_option linter.unusedVariables false
set_option linter.unusedSectionVars false
open Uni
variable {El : Nat → Type} [Uni El] [UniOK El] {R : Type}
theorem fnOK_plain {P : Program} {f : Nat} {A T : Type} (decA : List (D El) → List (Nat × MObj El) → Nat → Option A) (F : A → Option T) (outOf : T → Out El) (argsOf : A → List Value) (valOf : T → Value)
    (hA : ∀ ds objs next a, decA ds objs next = some a → objs = [] ∧ toVals ds = some (argsOf a))
    (hout : ∀ y, (outOf y).objs = [] ∧ (outOf y).next = 0 ∧ ∀ w S β, VRel w S β (valOf y) (outOf y).res)
    (hcalls : ∀ a y w, holds El w → F a = some y → Calls P f (argsOf a).toArray w fun e w' => e = .returned (valOf y) ∧ RowKit.Below w.heap.size w w') : FnOK P f 0 (specOf decA F outOf) := by
  intro R ds objs next K r h
  unfold specOf at h
  split at h
  · rename_i a ha
    obtain ⟨y, hy, hk⟩ := bind_some' h
    refine ⟨_, hk, fun w S β vs hp hh hq => ?_⟩
    obtain ⟨rfl, hv⟩ := hA _ _ _ _ ha
    have e : vs.toList = argsOf a := toVals_rel hv hp
    have e2 : vs = (argsOf a).toArray := by rw [← e, Array.toArray_toList]
    subst e2
    refine (hcalls a y w hh.laid.holds hy).mono ?_
    rintro e w' ⟨rfl, hb⟩
    obtain ⟨h1, h2, h3⟩ := hout y
    refine ⟨_, S, fun _ => none, rfl, h3 _ _ _, ?_, ⟨hb.os, hb.tape, hb.output, hb.size, fun k hk _ => hb.block k hk⟩, fun r hr => hr, fun r hr _ => .inl hr, fun i hi => by omega, ?_⟩
    · rw [h1, h2]
      exact ⟨fun o => trivial, fun o1 o2 v1 v2 r l1 => (by cases l1), fun o v r l => (by cases l), fun o _ => rfl, fun r hr => Nat.lt_of_lt_of_le (hh.inside r hr) hb.size, ⟨Uni.dep w w' (fun r hr => hb.block r (hh.laid.stays r hr).2) hh.laid.holds, fun r hr => ⟨(hh.laid.stays r hr).1, Nat.lt_of_lt_of_le (hh.laid.stays r hr).2 hb.size⟩⟩⟩
    · rw [h1]
      rintro r ⟨o, l, _⟩
      cases l
  · cases h
theorem fnOK_plainL {P : Program} {f : Nat} {A T : Type} (decA : List (D El) → List (Nat × MObj El) → Nat → Option A) (F : A → Option T) (outOf : T → Out El) (argsOf : A → List Value) (valOf : T → Value)
    (hA : ∀ ds objs next a, decA ds objs next = some a → objs = [] ∧ toVals ds = some (argsOf a))
    (hout : ∀ y, (outOf y).objs = [] ∧ (outOf y).next = 0 ∧ ∀ w S β, VRel w S β (valOf y) (outOf y).res)
    (hcalls : ∀ a y w, LaidAt El w (fun r => r < w.heap.size) → F a = some y → Calls P f (argsOf a).toArray w fun e w' => e = .returned (valOf y) ∧ RowKit.Below w.heap.size w w') : FnOK P f 0 (specOf decA F outOf) := by
  intro R ds objs next K r h
  unfold specOf at h
  split at h
  · rename_i a ha
    obtain ⟨y, hy, hk⟩ := bind_some' h
    refine ⟨_, hk, fun w S β vs hp hh hq => ?_⟩
    obtain ⟨rfl, hv⟩ := hA _ _ _ _ ha
    have e : vs.toList = argsOf a := toVals_rel hv hp
    have e2 : vs = (argsOf a).toArray := by rw [← e, Array.toArray_toList]
    subst e2
    refine (hcalls a y w ⟨hh.laid.holds, fun r hr => ⟨(hh.laid.stays r hr).2, (hh.laid.stays r hr).2⟩⟩ hy).mono ?_
    rintro e w' ⟨rfl, hb⟩
    obtain ⟨h1, h2, h3⟩ := hout y
    refine ⟨_, S, fun _ => none, rfl, h3 _ _ _, ?_, ⟨hb.os, hb.tape, hb.output, hb.size, fun k hk _ => hb.block k hk⟩, fun r hr => hr, fun r hr _ => .inl hr, fun i hi => by omega, ?_⟩
    · rw [h1, h2]
      exact ⟨fun o => trivial, fun o1 o2 v1 v2 r l1 => (by cases l1), fun o v r l => (by cases l), fun o _ => rfl, fun r hr => Nat.lt_of_lt_of_le (hh.inside r hr) hb.size, ⟨Uni.dep w w' (fun r hr => hb.block r (hh.laid.stays r hr).2) hh.laid.holds, fun r hr => ⟨(hh.laid.stays r hr).1, Nat.lt_of_lt_of_le (hh.laid.stays r hr).2 hb.size⟩⟩⟩
    · rw [h1]
      rintro r ⟨o, l, _⟩
      cases l
  · cases h
end Go.M
namespace Go.M
set_option linter.unusedVariables false
set_option linter.unusedSectionVars false
open Uni
variable {El : Nat → Type} [Uni El] [UniOK El] {R : Type}
def mquietCall (P : Program) (st : St El) (c : Call) (ty : Nat) (K : D El → Option R) : Option R :=
  match c.callee with
  | .builtin .len =>
    match c.args.toList, c.argTypes.toList with
    | [x], [t] => mlen P st t (ev st x) K
    | _, _ => none
  | .builtin .max =>
    match toVals (evs st c.args.toList) with
    | some vs => match prun P (Builtin.max_ c.argTypes ty vs.toArray) with | some v => K (ofVal v) | none => none
    | none => none
  | .builtin .min =>
    match toVals (evs st c.args.toList) with
    | some vs => match prun P (Builtin.min_ c.argTypes ty vs.toArray) with | some v => K (ofVal v) | none => none
    | none => none
  | _ => none
def mquiet (P : Program) (o : Oper) (K : St El → Option R) (st : St El) : Option R :=
  match o.op with
  | .move x => K (st.put o.dst (ev st x))
  | .assign x => K (st.put o.dst (ev st x))
  | .pick c x y =>
    match ev st c with
    | .bool b => mpick b (ev st x) (ev st y) fun d => K (st.put o.dst d)
    | _ => none
  | .build t parts => mbuild P t (parts.toList.map fun p => (p.1, ev st p.2)) fun d => K (st.put o.dst d)
  | .load t x => mderef st (ev st x) fun row c => mpart P t row c fun d => K (st.put o.dst d)
  | .binOp op t x y _ => mbin P op t x y (ev st x) (ev st y) fun d => K (st.put o.dst d)
  | .unOp op _ x =>
    match toVal0 (ev st x) with
    | some v => match prun P (Op.unary op v) with | some u => K (st.put o.dst (ofVal u)) | none => none
    | none => none
  | .convert s t x =>
    match toVal0 (ev st x) with
    | some v => match prun P (convert s t v) with | some u => K (st.put o.dst (ofVal u)) | none => none
    | none => none
  | .slice t x lo hi none => mslice P st t (ev st x) (evo st lo) (evo st hi) fun d => K (st.put o.dst d)
  | .fieldAddr s x f => mfield P s f (ev st x) fun d => K (st.put o.dst d)
  | .indexAddr t x ix => midx P st t (ev st x) (ev st ix) fun d => K (st.put o.dst d)
  | .index t x ix => mindex P t (ev st x) (ev st ix) fun d => K (st.put o.dst d)
  | .extract x i =>
    match ev st x with
    | .tup l => match l[i]? with | some d => K (st.put o.dst d) | none => none
    | _ => none
  | .nilCheck x =>
    match ev st x with
    | .ptr a b c d => K (st.put o.dst (.ptr a b c d))
    | .fptr a b c d => K (st.put o.dst (.fptr a b c d))
    | _ => none
  | .makeFunc fn first caps =>
    match isFunc fn, first.toList with
    | some f, [] => K (st.put o.dst (.fn f (evs st caps.toList)))
    | _, _ => none
  | .call c => mquietCall P st c o.type fun d => K (st.put o.dst d)
  | _ => none
def GoesQ (P : Program) (X : Ctx El) (o : Oper) (st' : St El) (a : Act) (w : World) : Prop :=
  ∃ v, (∀ w', Stay w w' → (execOp a.eval o).run P w' = .ok (.value v) w') ∧ ∃ S' β', Rel X st' S' β' (a.put o.dst v) w
theorem goesq {P : Program} {X : Ctx El} {o : Oper} {st : St El} {d : D El} {v : Value} {S : Nat → Prop} {β : Beta} {a : Act} {w : World}
    (h : ∀ w', Stay w w' → (execOp a.eval o).run P w' = .ok (.value v) w') (hr : Rel X st S β a w) (hv : VRel w S β v d) : GoesQ P X o (st.put o.dst d) a w :=
  ⟨v, h, S, β, hr.put o.dst hv⟩
theorem mquietCall_sound {P : Program} {st : St El} {c : Call} {ty : Nat} {K : D El → Option R} {r : R} (h : mquietCall P st c ty K = some r) : ∃ d, K d = some r ∧
    ∀ {X : Ctx El} {S β a w} {o : Oper}, o.op = .call c → o.type = ty → Rel X st S β a w → GoesQ P X o (st.put o.dst d) a w := by
  unfold mquietCall at h
  split at h
  · rename_i hcal
    split at h
    · rename_i x t hx ht
      obtain ⟨d, h', s⟩ := mlen_sound h
      refine ⟨_, h', fun {X S β a w o} ho hty hr => ?_⟩
      obtain ⟨u, h1, h2⟩ := s (ty := o.type) hr (ev_rel hr x)
      have ha : c.args = #[x] := by rw [← Array.toArray_toList (xs := c.args), hx]
      have hb : c.argTypes = #[t] := by rw [← Array.toArray_toList (xs := c.argTypes), ht]
      refine goesq (S := S) (β := β) (fun w' _ => ?_) hr h2
      simp only [execOp, ho, resolve, hcal, invoke, builtin, ha, hb, Sem.run_bind, Sem.run_pure, Result.andThen_ok, List.map_toArray, List.map_cons, List.map_nil, h1]
    · cases h
  · rename_i hcal
    split at h
    · rename_i us hus
      split at h
      · rename_i v hv
        refine ⟨_, h, fun {X S β a w o} ho hty hr => ?_⟩
        have e := toVals_rel hus (evs_rel hr c.args.toList)
        have e2 : c.args.map a.eval = us.toArray := by rw [← e, ← Array.toList_map, Array.toArray_toList]
        refine goesq (S := S) (β := β) (fun w' _ => ?_) hr (ofVal_rel w S β v)
        simp only [execOp, ho, resolve, hcal, invoke, builtin, e2, hty, Sem.run_bind, Sem.run_pure, Result.andThen_ok, prun_run hv w']
      · cases h
    · cases h
  · rename_i hcal
    split at h
    · rename_i us hus
      split at h
      · rename_i v hv
        refine ⟨_, h, fun {X S β a w o} ho hty hr => ?_⟩
        have e := toVals_rel hus (evs_rel hr c.args.toList)
        have e2 : c.args.map a.eval = us.toArray := by rw [← e, ← Array.toList_map, Array.toArray_toList]
        refine goesq (S := S) (β := β) (fun w' _ => ?_) hr (ofVal_rel w S β v)
        simp only [execOp, ho, resolve, hcal, invoke, builtin, e2, hty, Sem.run_bind, Sem.run_pure, Result.andThen_ok, prun_run hv w']
      · cases h
    · cases h
  · cases h
theorem mquiet_sound {P : Program} {o : Oper} {K : St El → Option R} {st : St El} {r : R} (h : mquiet P o K st = some r) : ∃ st', K st' = some r ∧
    ∀ {X : Ctx El} {S β a w}, Rel X st S β a w → GoesQ P X o st' a w := by
  unfold mquiet at h
  split at h
  · rename_i x ho
    exact ⟨_, h, fun {X S β a w} hr => goesq (fun w' _ => by simp [execOp, ho]) hr (ev_rel hr x)⟩
  · rename_i x ho
    exact ⟨_, h, fun {X S β a w} hr => goesq (fun w' _ => by simp [execOp, ho]) hr (ev_rel hr x)⟩
  · rename_i c x y ho
    split at h
    · rename_i b hb
      obtain ⟨d, h', s⟩ := mpick_sound h
      refine ⟨_, h', fun {X S β a w} hr => ?_⟩
      have hc := ev_rel hr c
      rw [hb] at hc
      generalize hv : a.eval c = v at hc
      cases hc
      exact goesq (fun w' _ => by simp [execOp, ho, hv, asBool]) hr (s w S β _ _ (ev_rel hr x) (ev_rel hr y))
    · cases h
  · rename_i t parts ho
    obtain ⟨d, h', s⟩ := mbuild_sound h
    refine ⟨_, h', fun {X S β a w} hr => ?_⟩
    obtain ⟨v, h1, h2⟩ := s (w := w) (S := S) (β := β) (parts.map fun p => (p.1, a.eval p.2)) (by simp) (fun i p q g1 g2 => parts_rel hr parts.toList i p q (by simpa using g1) g2)
    exact goesq (fun w' _ => by simp [execOp, ho, h1 w']) hr h2
  · rename_i t x ho
    obtain ⟨row, c, h1, s1⟩ := mderef_sound h
    obtain ⟨d, h2, s2⟩ := mpart_sound h1
    refine ⟨_, h2, fun {X S β a w} hr => ?_⟩
    obtain ⟨u, k1, k2⟩ := s2 (s1 hr (ev_rel hr x))
    exact goesq (fun w' hw => by simp [execOp, ho, k1 w' hw]) hr k2
  · rename_i op t x y yt ho
    obtain ⟨d, h', s⟩ := mbin_sound h
    refine ⟨_, h', fun {X S β a w} hr => ?_⟩
    obtain ⟨z, k1, k2⟩ := s w S β _ _ (ev_rel hr x) (ev_rel hr y)
    exact goesq (fun w' _ => by simp only [execOp, ho, Sem.run_bind, k1 w', Result.andThen_ok, Sem.run_pure]) hr k2
  · rename_i op t x ho
    split at h
    · rename_i v hv
      split at h
      · rename_i u hu
        refine ⟨_, h, fun {X S β a w} hr => ?_⟩
        have e := toVal0_rel hv (ev_rel hr x)
        exact goesq (fun w' _ => by simp only [execOp, ho, Sem.run_bind, e, prun_run hu w', Result.andThen_ok, Sem.run_pure]) hr (ofVal_rel w S β u)
      · cases h
    · cases h
  · rename_i s t x ho
    split at h
    · rename_i v hv
      split at h
      · rename_i u hu
        refine ⟨_, h, fun {X S β a w} hr => ?_⟩
        have e := toVal0_rel hv (ev_rel hr x)
        exact goesq (fun w' _ => by simp only [execOp, ho, Sem.run_bind, e, prun_run hu w', Result.andThen_ok, Sem.run_pure]) hr (ofVal_rel w S β u)
      · cases h
    · cases h
  · rename_i t x lo hi ho
    obtain ⟨e, h', s⟩ := mslice_sound h
    refine ⟨_, h', fun {X S β a w} hr => ?_⟩
    obtain ⟨u, k1, k2⟩ := s hr (ev_rel hr x) (evo_rel hr lo) (evo_rel hr hi)
    exact goesq (fun w' _ => by simp only [execOp, ho, Sem.run_bind, Option.map_none, k1 w', Result.andThen_ok, Sem.run_pure]) hr k2
  · rename_i s x f ho
    obtain ⟨e, h', s⟩ := mfield_sound h
    refine ⟨_, h', fun {X S β a w} hr => ?_⟩
    obtain ⟨u, k1, k2⟩ := s (ev_rel hr x)
    exact goesq (fun w' _ => by simp only [execOp, ho, Sem.run_bind, k1 w', Result.andThen_ok, Sem.run_pure]) hr k2
  · rename_i t x ix ho
    obtain ⟨e, h', s⟩ := midx_sound h
    refine ⟨_, h', fun {X S β a w} hr => ?_⟩
    obtain ⟨u, k1, k2⟩ := s hr (ev_rel hr x) (ev_rel hr ix)
    exact goesq (fun w' _ => by simp only [execOp, ho, Sem.run_bind, k1 w', Result.andThen_ok, Sem.run_pure]) hr k2
  · rename_i t x ix ho
    obtain ⟨e, h', s⟩ := mindex_sound h
    refine ⟨_, h', fun {X S β a w} hr => ?_⟩
    obtain ⟨u, k1, k2⟩ := s (ev_rel hr x) (ev_rel hr ix)
    exact goesq (fun w' _ => by simp only [execOp, ho, Sem.run_bind, k1 w', Result.andThen_ok, Sem.run_pure]) hr k2
  · rename_i x i ho
    split at h
    · rename_i l hx
      split at h
      · rename_i d hd
        refine ⟨_, h, fun {X S β a w} hr => ?_⟩
        have hv := ev_rel hr x
        rw [hx] at hv
        generalize hv2 : a.eval x = v at hv
        cases hv with
        | tup vs _ b1 b2 =>
          have hi : i < vs.size := by rw [b1]; exact (List.getElem?_eq_some_iff.1 hd).1
          have hg : vs[i]? = some vs[i] := by simp [hi]
          exact goesq (fun w' _ => by simp only [execOp, ho, hv2, Instr.extract, hg, Sem.run_bind, Result.andThen_ok, Sem.run_pure]) hr (b2 i _ d hg hd)
      · cases h
    · cases h
  · rename_i x ho
    split at h
    · rename_i o' k i c hx
      refine ⟨_, h, fun {X S β a w} hr => ?_⟩
      have hv := ev_rel hr x
      rw [hx] at hv
      generalize hv2 : a.eval x = v at hv
      cases hv with
      | ptr _ _ _ _ g base b1 b2 => exact goesq (fun w' _ => by simp [execOp, ho, hv2]) hr (.ptr _ _ _ _ g base b1 b2)
    · rename_i t l i c hx
      refine ⟨_, h, fun {X S β a w} hr => ?_⟩
      have hv := ev_rel hr x
      rw [hx] at hv
      generalize hv2 : a.eval x = v at hv
      have hv3 := hv
      cases hv with
      | fptr g off _ _ _ _ C ty fr vs b1 b2 b3 b4 => exact goesq (fun w' _ => by simp [execOp, ho, hv2]) hr hv3
    · cases h
  · rename_i fn first caps ho
    split at h
    · rename_i f hf hfirst
      refine ⟨_, h, fun {X S β a w} hr => ?_⟩
      have hfn : fn = .func f := by
        unfold isFunc at hf
        split at hf
        · cases hf; rfl
        · cases hf
      have hf0 : first = #[] := by rw [← Array.toArray_toList (xs := first), hfirst]
      have e := evs_rel hr caps.toList
      refine goesq (v := .func (.func f) #[] (caps.map a.eval)) (fun w' _ => ?_) hr (.fn f _ _ (by simp [evs]) (fun i v d p q => e.2 i v d (by rw [← Array.toList_map, Array.getElem?_toList]; exact p) q))
      simp only [execOp, ho, hfn, hf0, Instr.makeFunc, Sem.run_bind, Result.andThen_ok, Sem.run_pure]
      simp
    · cases h
  · rename_i c ho
    obtain ⟨d, h', s⟩ := mquietCall_sound h
    exact ⟨_, h', fun {X S β a w} hr => s ho rfl hr⟩
  · cases h
end Go.M
namespace Go.M
set_option linter.unusedVariables false
set_option linter.unusedSectionVars false
open Uni
variable {El : Nat → Type} [Uni El] [UniOK El] {R : Type}
def Grows {α : Type} (ok : α → Prop) : Sem α → Prop
  | .pure a => ok a
  | .program k => ∀ p, Grows ok (k p)
  | .mark _ k => Grows ok k
  | .halt _ => True
  | .load _ _ k => ∀ v, Grows ok (k v)
  | .new _ k => ∀ r, Grows ok (k r)
  | .shape _ k => ∀ s, Grows ok (k s)
  | .frozen _ k => ∀ b, Grows ok (k b)
  | .choose _ k => ∀ n, Grows ok (k n)
  | _ => False
theorem Stay.trans {a b c : World} (h : Stay a b) (k : Stay b c) : Stay a c := fun r hr => by
  have h1 := h r hr
  have hlt : r < b.heap.size := by
    rw [Array.getElem?_eq_getElem hr] at h1
    exact (Array.getElem?_eq_some_iff.1 h1).1
  exact (k r hlt).trans h1
theorem Grows.run {α : Type} {ok : α → Prop} {P : Program} {s : Sem α} (h : Grows ok s) : ∀ {w w1 : World} {x : α}, s.run P w = .ok x w1 → Stay w w1 ∧ ok x := by
  induction s with
  | pure a => intro w w1 x e; simp only [Sem.run] at e; cases e; exact ⟨Stay.refl _, h⟩
  | program k ih => intro w w1 x e; exact ih P (h P) e
  | mark m k ih => intro w w1 x e; exact ih h e
  | halt x => intro w w1 x e; simp only [Sem.run] at e; cases e
  | load m a k ih =>
    intro w w1 x e
    simp only [Sem.run] at e
    split at e
    · exact ih _ (h _) e
    · split at e
      · exact ih _ (h _) e
      · cases e
  | new o k ih =>
    intro w w1 x e
    simp only [Sem.run] at e
    obtain ⟨h1, h2⟩ := ih _ (h _) e
    refine ⟨Stay.trans (fun r hr => ?_) h1, h2⟩
    show (w.heap.push o)[r]? = _
    rw [Array.getElem?_push, if_neg (by omega)]
  | shape r k ih => intro w w1 x e; exact ih _ (h _) e
  | frozen a k ih => intro w w1 x e; exact ih _ (h _) e
  | choose q k ih =>
    intro w w1 x e
    simp only [Sem.run] at e
    split at e
    · exact ih _ (h _) e
    · obtain ⟨h1, h2⟩ := ih _ (h _) e
      exact ⟨fun r hr => h1 r hr, h2⟩
  | _ => exact h.elim
theorem Grows.bind {α γ : Type} {ok : α → Prop} {ok' : γ → Prop} {s : Sem α} {f : α → Sem γ} (h : Grows ok s) (hf : ∀ x, ok x → Grows ok' (f x)) : Grows ok' (s >>= f) := by
  show Grows ok' (s.bind f)
  induction s with
  | pure a => exact hf a h
  | program k ih => exact fun p => ih p (h p)
  | mark m k ih => exact ih h
  | halt x => trivial
  | load m a k ih => exact fun v => ih v (h v)
  | new o k ih => exact fun v => ih v (h v)
  | shape o k ih => exact fun v => ih v (h v)
  | frozen o k ih => exact fun v => ih v (h v)
  | choose o k ih => exact fun v => ih v (h v)
  | _ => exact h.elim
def tt {α : Type} (_ : α) : Prop := True
theorem grows_pure {α : Type} (a : α) : Grows tt (pure a : Sem α) := trivial
theorem grows_typeInfo (t : TypeId) : Grows tt (typeInfo t) := fun p => by
  show Grows tt (match p.info? t with | some i => pure i | none => stuck "no such type")
  split <;> trivial
theorem grows_underlying (t : TypeId) : Grows tt (underlying t) := fun p => by
  show Grows tt (match p.underlying t with | some i => pure i | none => stuck "no such type")
  split <;> trivial
theorem grows_sizeOf (t : TypeId) : Grows tt (sizeOf t) := (grows_typeInfo t).bind fun _ _ => trivial
theorem grows_zero (t : TypeId) : Grows tt (zeroValue t) := (grows_typeInfo t).bind fun i _ => by
  split <;> trivial
theorem grows_newVar (t : TypeId) (v : Value) : Grows tt (newVar t v) := fun _ => trivial
theorem grows_alloc (t : TypeId) : Grows tt (Instr.alloc t true (.tuple #[])) := (grows_zero t).bind fun z _ => (grows_newVar t z).bind fun _ _ => trivial
theorem grows_box (t : TypeId) (v : Value) : Grows tt (Instr.box t v) := (grows_newVar t v).bind fun _ _ => trivial
theorem grows_buildSlice (t : TypeId) (n : Nat) (ps : Array (Nat × Value)) : Grows tt (Instr.buildSlice t n ps) := by
  unfold Instr.buildSlice
  refine (grows_underlying t).bind fun d _ => ?_
  split
  · refine (grows_sizeOf _).bind fun z _ => ?_
    dsimp only
    have tail : ∀ (c : Option (Array Value)) (e : Nat), Grows tt (match c with | some cells => (do pure (Value.slice (some (← newRow e cells)) n n) : Sem Value) | x => stuck "buildSlice: a part of the wrong size") := by
      intro c e
      cases c with
      | none => trivial
      | some cells => exact Grows.bind (ok := tt) (fun _ => trivial) fun _ _ => trivial
    split
    · trivial
    · split
      · exact tail _ _
      · exact (grows_zero _).bind fun _ _ => tail _ _
  · trivial
def isVal (n : Next) : Prop := ∃ v, n = .value v
theorem grows_val {s : Sem Value} (h : Grows tt s) : Grows isVal (do pure (Next.value (← s))) := h.bind fun v _ => ⟨v, rfl⟩
end Go.M
namespace Go.M
set_option linter.unusedVariables false
set_option linter.unusedSectionVars false
open Uni
variable {El : Nat → Type} [Uni El] [UniOK El] {R : Type}
def GoesC (P : Program) (X : Ctx El) (o : Oper) (st' : St El) (a : Act) (w : World) : Prop :=
  ∀ Q, o.wp P a w (fun a' w' => (∃ S' β', Rel X st' S' β' a' w') ∧ Stay w w') Q
theorem GoesC.of_grows {P : Program} {X : Ctx El} {o : Oper} {st' : St El} {a : Act} {w : World} (h : Goes P X o st' a w) (hg : Grows isVal (execOp a.eval o)) : GoesC P X o st' a w := by
  intro Q
  have h := h (fun _ _ _ => False)
  unfold Oper.wp at *
  cases hr : (execOp a.eval o).run P w with
  | ok n w1 =>
    obtain ⟨h1, v, rfl⟩ := hg.run hr
    rw [hr] at h
    exact ⟨h, h1⟩
  | halt x w1 =>
    rw [hr] at h
    cases x <;> exact h.elim
def noCall (st : St El) (f : Nat) (ds : List (D El)) (K : St El → D El → Option R) : Option R := none
theorem noCall_ok {P : Program} : CallOK P (noCall (El := El) (R := R)) := ⟨fun {st f ds K r} h => by cases h⟩
def mcalm (P : Program) (Cc : St El → Nat → List (D El) → (St El → D El → Option R) → Option R) (o : Oper) (K : St El → Option R) (st : St El) : Option R :=
  match o.op with
  | .alloc t => mop P noCall o K st
  | .box t x => mop P noCall o K st
  | .buildSlice t n ps => mop P noCall o K st
  | .call c =>
    match c.callee with
    | .value f =>
      match ev st f with
      | .fn g caps => Cc st g (evs st c.args.toList ++ caps) fun st' d => K (st'.put o.dst d)
      | _ => none
    | _ => none
  | _ => none
theorem mcalm_sound {P : Program} {Cc : St El → Nat → List (D El) → (St El → D El → Option R) → Option R} (hC : CalmOK P Cc) {o : Oper} {K : St El → Option R} {st : St El} {r : R} (h : mcalm P Cc o K st = some r) : ∃ st', K st' = some r ∧
    ∀ {X : Ctx El} {S β a w}, Rel X st S β a w → GoesC P X o st' a w := by
  unfold mcalm at h
  split at h
  · rename_i t ho
    obtain ⟨st', h1, s1⟩ := mop_sound noCall_ok h
    exact ⟨st', h1, fun {X S β a w} hr => GoesC.of_grows (s1 hr) (by simp only [execOp, ho]; exact grows_val (grows_alloc t))⟩
  · rename_i t x ho
    obtain ⟨st', h1, s1⟩ := mop_sound noCall_ok h
    exact ⟨st', h1, fun {X S β a w} hr => GoesC.of_grows (s1 hr) (by simp only [execOp, ho]; exact grows_val (grows_box t _))⟩
  · rename_i t n ps ho
    obtain ⟨st', h1, s1⟩ := mop_sound noCall_ok h
    exact ⟨st', h1, fun {X S β a w} hr => GoesC.of_grows (s1 hr) (by simp only [execOp, ho]; exact grows_val (grows_buildSlice t n _))⟩
  · rename_i c ho
    split at h
    · rename_i f hcal
      split at h
      · rename_i g caps hf
        obtain ⟨st', d, h', hen, s⟩ := hC.sound h
        refine ⟨_, h', fun {X S β a w} hr => ?_⟩
        have hfv := ev_rel hr f
        rw [hf] at hfv
        generalize hv : a.eval f = v at hfv
        cases hfv with
        | fn _ _ vs h1 h2 =>
          have hp : PtL w S β (c.args.map a.eval ++ vs).toList (evs st c.args.toList ++ caps) := by
            refine ⟨?_, ?_⟩
            · simp [evs, h1]
            · intro i v d p q
              simp only [Array.toList_append, Array.toList_map] at p
              rw [List.getElem?_append] at p q
              have e := evs_rel hr c.args.toList
              rw [List.length_map] at p
              have el : (evs st c.args.toList).length = c.args.toList.length := by simp [evs]
              rw [el] at q
              split at p
              · rename_i hi
                rw [if_pos hi] at q
                exact e.2 i v d p q
              · rename_i hi
                rw [if_neg hi] at q
                exact h2 _ v d (by simpa using p) q
          have hrun : (execOp a.eval o).run P w = .ok (.enter g (c.args.map a.eval ++ vs)) w := by
            simp only [execOp, ho, resolve, hcal, hv, Deferred.ofValue, invoke, Sem.run_bind, Sem.run_pure, Result.andThen_ok, hen, Array.empty_append]
          intro Q
          unfold Oper.wp
          rw [hrun]
          show Calls P g _ w _
          refine (s hr hp).mono ?_
          rintro e w' ⟨v, S', β', rfl, k1, k2, k3⟩
          exact ⟨⟨S', β', k1.put o.dst k2⟩, k3⟩
      · cases h
    · cases h
  · cases h
end Go.M
namespace Go.M
set_option linter.unusedVariables false
set_option linter.unusedSectionVars false
open Uni
variable {El : Nat → Type} [Uni El] [UniOK El] {R : Type}
def kindOf (o : Oper) : Nat :=
  match o.op with
  | .move _ | .assign _ | .pick _ _ _ | .build _ _ | .load _ _ | .binOp _ _ _ _ _ | .unOp _ _ _ | .convert _ _ _ | .slice _ _ _ _ _ | .fieldAddr _ _ _ | .indexAddr _ _ _ | .index _ _ _ | .extract _ _ | .nilCheck _ | .makeFunc _ _ _ => 0
  | .alloc _ | .box _ _ | .buildSlice _ _ _ => 1
  | .call c => match c.callee with
    | .builtin .len | .builtin .max | .builtin .min => 0
    | .value _ => 1
    | _ => 2
  | _ => 2
section
variable {P : Program} {ops : Array Oper} {Q : Exit → Act → World → Prop} {md : Region.Mode}
def wpG (P : Program) (md : Region.Mode) (ops : Array Oper) (Q : Exit → Act → World → Prop) (S : Array Bool → World → Prop) : Nat → Array Bool → Act → World → Prop
  | 0, L, a, w => Region.ready md ops L = [] ∧ Q .normal a w
  | n + 1, L, a, w => (Region.ready md ops L = [] → Q .normal a w) ∧
    ∀ i ∈ Region.ready md ops L, wpOp P ops Q i (fun a' w' => S (L.setIfInBounds i true) w' ∧ wpG P md ops Q S n (L.setIfInBounds i true) a' w') a w
theorem wpG_any {S : Array Bool → World → Prop} : ∀ (n : Nat) (L : Array Bool) (a : Act) (w : World), wpG P md ops Q S n L a w → wpAny P md ops Q n L a w
  | 0, _, _, _, h => h
  | n + 1, L, a, w, h => ⟨h.1, fun i hi => wpOp_mono (fun a' w' h' => wpG_any n _ a' w' h'.2) (h.2 i hi)⟩
def Ext (L L' : Array Bool) : Prop := ∀ j, L.getD j false = true → L'.getD j false = true
theorem Ext.set {L : Array Bool} {i : Nat} : Ext L (L.setIfInBounds i true) := fun j hj => getD_set_true hj
theorem Ext.trans {a b c : Array Bool} (h : Ext a b) (k : Ext b c) : Ext a c := fun j hj => k j (h j hj)
theorem wpG_mono {S S' : Array Bool → World → Prop} : ∀ (n : Nat) (L : Array Bool) (a : Act) (w : World), (∀ L' w', Ext L L' → S L' w' → S' L' w') → wpG P md ops Q S n L a w → wpG P md ops Q S' n L a w
  | 0, _, _, _, _, h => h
  | n + 1, L, a, w, hs, h => ⟨h.1, fun i hi => wpOp_mono (fun a' w' h' => ⟨hs _ _ Ext.set h'.1, wpG_mono n _ a' w' (fun L' w'' he k => hs L' w'' (Ext.set.trans he) k) h'.2⟩) (h.2 i hi)⟩
def Broke (ops : Array Oper) (L : Array Bool) : Prop := ∃ (s : Nat) (o : Oper), ops[s]? = some o ∧ kindOf o = 2 ∧ L.getD s false = true
def SB (ops : Array Oper) (w0 : World) (L : Array Bool) (w : World) : Prop := Broke ops L ∨ Stay w0 w
theorem ready_lt {i : Nat} {L : Array Bool} (h : i ∈ Region.ready md ops L) : L.getD i false = false ∧ i < L.size := by
  have := (mem_ready.1 h).1
  rcases Nat.lt_or_ge i L.size with h' | h'
  · simp [h'] at this ⊢
    exact this
  · simp [Array.getElem?_eq_none h'] at this
theorem broke_set {L : Array Bool} {i : Nat} {o : Oper} (hi : ops[i]? = some o) (hk : kindOf o ≠ 2) (h : Broke ops (L.setIfInBounds i true)) : Broke ops L := by
  obtain ⟨s, os, h1, h2, h3⟩ := h
  have hne : i ≠ s := fun e => by subst e; rw [hi] at h1; cases h1; exact hk h2
  exact ⟨s, os, h1, h2, by rw [getD_set_ne false hne] at h3; exact h3⟩
def Closed (md : Region.Mode) (ops : Array Oper) (L : Array Bool) : Prop := ∀ (s : Nat) (os : Oper), ops[s]? = some os → L.getD s false = true → ∀ e ∈ os.after, Region.binds md e = true → L.getD e.on false = true
theorem Closed.step {L : Array Bool} {j : Nat} (h : Closed md ops L) (hj : j ∈ Region.ready md ops L) : Closed md ops (L.setIfInBounds j true) := by
  intro s os hs hd e he hb
  obtain ⟨_, oj, hoj, hall⟩ := mem_ready.1 hj
  by_cases hsj : s = j
  · subst hsj
    rw [hoj] at hs
    cases hs
    exact getD_set_true (hall e he hb)
  · rw [getD_set_ne false (fun q => hsj q.symm)] at hd
    exact getD_set_true (h s os hs hd e he hb)
theorem wpG_first {i : Nat} {oi : Oper} {v : Value} {w0 : World} (hi : ops[i]? = some oi) (hki : kindOf oi ≠ 2) (hsel : ∀ (j : Nat) (o : Oper) cs b, ops[j]? = some o → o.op ≠ .select cs b)
    (hQ : ∀ c a w, ¬ Q (.panic c) a w) (hbrk : ∀ (L : Array Bool), Closed md ops L → ∀ (s : Nat) (os : Oper), ops[s]? = some os → kindOf os = 2 → s ∈ Region.ready md ops L → L.getD i false = true) :
    ∀ (n : Nat) (L : Array Bool) (a : Act) (w : World), Closed md ops L →
      (∀ (j : Nat) (oj : Oper), ops[j]? = some oj → j ≠ i → L.getD j true = false → (∀ e ∈ oj.after, Region.binds md e = true → e.on ≠ i) → oi.apart ops oj = true) →
      i ∈ Region.ready md ops L → ¬ Broke ops L → YieldsIf P ops (Stay w0) oi v a → Stay w0 w →
      wpG P md ops Q (SB ops w0) n (L.setIfInBounds i true) (a.put oi.dst v) w → wpG P md ops Q (SB ops w0) (n + 1) L a w := by
  intro n
  induction n with
  | zero =>
    intro L a w _ _ hr hb hy hS H
    refine ⟨fun h => (by rw [h] at hr; cases hr), fun j hj => ?_⟩
    by_cases hji : j = i
    · subst hji; exact hy.wpOp hi hS ⟨.inr hS, H⟩
    · have := ready_mono hj hji
      rw [H.1] at this
      cases this
  | succ n ih =>
    intro L a w hcl hfree hr hb hy hS H
    refine ⟨fun h => (by rw [h] at hr; cases hr), fun j hj => ?_⟩
    by_cases hji : j = i
    · subst hji; exact hy.wpOp hi hS ⟨.inr hS, H⟩
    · have h1 := H.2 j (ready_mono hj hji)
      obtain ⟨hjun, oj, hoj, hall⟩ := mem_ready.1 hj
      have hiun := (ready_lt hr).1
      have hnot : ∀ e ∈ oj.after, Region.binds md e = true → e.on ≠ i := fun e he hb heq => by
        have h1 := hall e he hb
        rw [heq, hiun] at h1
        cases h1
      have hkj : kindOf oj ≠ 2 := fun hk => by
        have := hbrk L hcl j oj hoj hk hj
        rw [hiun] at this
        cases this
      have h2 := wpOp_putIf hoj (hfree j oj hoj hji hjun hnot) (fun cs b => hsel i oi cs b hi) (fun cs b => hsel j oj cs b hoj) (fun c a w h => (hQ c _ _ h).elim) hy h1
      have hfree' : ∀ (k : Nat) (ok : Oper), ops[k]? = some ok → k ≠ i → (L.setIfInBounds j true).getD k true = false →
          (∀ e ∈ ok.after, Region.binds md e = true → e.on ≠ i) → oi.apart ops ok = true := fun k ok hk hki hun hno => by
        refine hfree k ok hk hki ?_ hno
        by_cases hjk : j = k
        · subst hjk; exact hjun
        · rw [getD_set_ne true hjk] at hun; exact hun
      refine wpOp_mono (fun a' w' h3 => ?_) h2
      have hst : Stay w0 w' := by
        rcases h3.2.1 with hbr | hst
        · exact absurd (broke_set hi hki (broke_set hoj hkj hbr)) hb
        · exact hst
      refine ⟨.inr hst, ih (L.setIfInBounds j true) a' w' (hcl.step hj) hfree' (ready_mono hr (Ne.symm hji)) (fun hbr => hb (broke_set hoj hkj hbr)) h3.1 hst ?_⟩
      rw [Array.setIfInBounds_comm _ _ hji]
      exact h3.2.2
theorem wpG_all {S : Array Bool → World → Prop} {i n : Nat} {L : Array Bool} {a : Act} {w : World} (hr : Region.ready md ops L = [i])
    (h : wpOp P ops Q i (fun a' w' => S (L.setIfInBounds i true) w' ∧ wpG P md ops Q S n (L.setIfInBounds i true) a' w') a w) : wpG P md ops Q S (n + 1) L a w :=
  ⟨fun h0 => (by rw [hr] at h0; cases h0), fun j hj => (by rw [hr] at hj; simp at hj; subst hj; exact h)⟩
theorem wpG_done {S : Array Bool → World → Prop} {L : Array Bool} {a : Act} {w : World} (hr : Region.ready md ops L = []) (h : Q .normal a w) :
    ∀ n, wpG P md ops Q S n L a w
  | 0 => ⟨hr, h⟩
  | _ + 1 => ⟨fun _ => h, by rw [hr]; simp⟩
end
end Go.M
namespace Go.M
set_option linter.unusedVariables false
set_option linter.unusedSectionVars false
open Uni
variable {El : Nat → Type} [Uni El] [UniOK El] {R : Type}
theorem Oper.wp_put {P : Program} {o : Oper} {a : Act} {w : World} {K : Act → World → Prop} {Q : Exit → Act → World → Prop} (h : o.wp P a w K Q) :
    o.wp P a w (fun a' w' => K a' w' ∧ ∃ v, a'.tmps = (a.put o.dst v).tmps) Q := by
  unfold Oper.wp at *
  generalize (execOp a.eval o).run P w = x at *
  have e : ∀ (d : Deferred) v, ({ a with defers := d :: a.defers }.put o.dst v).tmps = (a.put o.dst v).tmps := by
    intro d v
    cases o.dst <;> rfl
  cases x with
  | ok n w1 =>
    cases n with
    | value v => exact ⟨h, v, rfl⟩
    | skip => exact ⟨h, _, rfl⟩
    | defer d => exact ⟨h, _, e d _⟩
    | enter f args =>
      refine Calls.mono h ?_
      intro en w2 h2
      cases en with
      | returned v => exact ⟨h2, v, rfl⟩
      | panicked c => exact h2
      | outgrown => exact h2
    | row r args => exact Rows.mono h (fun v w2 h2 => ⟨h2, v, rfl⟩)
    | _ => exact h.elim
  | halt y w1 => cases y <;> first | exact h | exact h.elim
def Off (st : St El) (β : Beta) (r : Nat) : Prop := ∀ o', (look st.objs o').live = true → ¬ at_ β o' r
theorem chain_step {P : Program} {o : Oper} {st st' : St El} {E : World → World → Prop}
    (hs : ∀ {X : Ctx El} {S β a w}, Rel X st S β a w → ∀ Q, o.wp P a w (fun a' w' => (∃ S' β', Rel X st' S' β' a' w') ∧ E w w') Q)
    {X : Ctx El} {S : Nat → Prop} {β : Beta} {a : Act} {w : World} (hr : Rel X st S β a w) (Q : Exit → Act → World → Prop) :
    o.wp P a w (fun a' w' => (∃ S' β', Rel X st' S' β' a' w' ∧ ∀ r, r < w.heap.size → ¬ S r → Off st β r → w'.heap[r]? = w.heap[r]? ∧ ¬ S' r ∧ Off st' β' r) ∧ E w w' ∧ w.heap.size ≤ w'.heap.size ∧ ∃ v, a'.tmps = (a.put o.dst v).tmps) Q := by
  let X' : Ctx El := { w0 := w, B := fun r => ∃ o', (look st.objs o').live = true ∧ at_ β o' r, S0 := S, q := X.q, β0 := X.β0, ok := ⟨hr.laid, fun r hS ⟨o', l, v, b, k⟩ => (hr.away o' v r l b k).1 hS⟩ }
  have hr' : Rel X' st S β a w := by
    refine ⟨hr.size, hr.tmps, hr.defers, hr.objs, hr.inj, fun o v r l b k => ⟨(hr.away o v r l b k).1, fun _ => ⟨o, l, v, b, k⟩⟩, hr.fresh, hr.inside, fun r h => h, rfl, rfl, rfl, Nat.le_refl _, fun _ _ _ => rfl, fun r h _ => .inl h, hr.root⟩
  refine Oper.wp_mono ?_ (Oper.wp_put (hs hr' Q))
  rintro a' w' ⟨⟨⟨S', β', k⟩, he⟩, hv⟩
  have hB : ∀ r, X'.B r → r < X.w0.heap.size → X.B r := by
    rintro r ⟨o', l, v, b, q⟩ hlt
    exact (hr.away o' v r l b q).2 hlt
  refine ⟨⟨S', β', ?_, ?_⟩, he, k.grown, hv⟩
  · refine ⟨k.size, k.tmps, k.defers, k.objs, k.inj, fun o v r l b q => ⟨(k.away o v r l b q).1, fun hlt => hB r ((k.away o v r l b q).2 (Nat.lt_of_lt_of_le hlt hr.grown)) hlt⟩, k.fresh, k.inside, fun r h => k.stay r (hr.stay r h), k.os.trans hr.os, k.tape.trans hr.tape, k.output.trans hr.output, Nat.le_trans hr.grown k.grown, ?_, ?_, k.root⟩
    · intro r hlt hn
      rw [← hr.frame r hlt hn]
      exact k.frame r (Nat.lt_of_lt_of_le hlt hr.grown) (fun hb => hn (hB r hb hlt))
    · intro r hS hlt
      rcases k.old r hS (Nat.lt_of_lt_of_le hlt hr.grown) with h | h
      · exact hr.old r h hlt
      · exact .inr (hB r h hlt)
  · intro r hlt hnS hoff
    have hnB : ¬ X'.B r := fun ⟨o', l, h⟩ => hoff o' l h
    refine ⟨k.frame r hlt hnB, fun hS => ?_, fun o' l hat => ?_⟩
    · rcases k.old r hS hlt with h | h
      · exact hnS h
      · exact hnB h
    · obtain ⟨v, b, q⟩ := hat
      exact hnB ((k.away o' v r l b q).2 hlt)
structure Flo (X : Ctx El) (P : Program) (st : St El) (S : Nat → Prop) (β : Beta) (a : Act) (w : World) (dst t r : Nat) : Prop where
  tmp : a.tmps.getD dst undef = .pointer (some ⟨r, 0, none⟩)
  lt : dst < a.tmps.size
  heap : ∃ i z, P.info? t = some i ∧ i.zero = some z ∧ w.heap[r]? = some (.cells z.cells t (0, 0))
  out : ¬ S r
  big : X.w0.heap.size ≤ r
  off : Off st β r
theorem Flo.ltw {X : Ctx El} {P : Program} {st : St El} {S : Nat → Prop} {β : Beta} {a : Act} {w : World} {dst t r : Nat} (h : Flo X P st S β a w dst t r) : r < w.heap.size := by
  obtain ⟨i, z, _, _, hh⟩ := h.heap
  exact (Array.getElem?_eq_some_iff.1 hh).1
theorem setNth_nth' (l : List (D El)) (t : Nat) : setNth l t (nth l t) = l := by
  induction l generalizing t with
  | nil => rfl
  | cons d r ih => cases t <;> simp [setNth, nth, ih]
theorem put_getD {a : Act} {d : Option Nat} {v : Value} {i : Nat} (h : d ≠ some i) : (a.put d v).tmps.getD i undef = a.tmps.getD i undef := by
  cases d with
  | none => rfl
  | some j =>
    have hne : j ≠ i := fun e => h (by rw [e])
    simp only [Act.put, Array.getD_eq_getD_getElem?, Array.getElem?_setIfInBounds]
    rw [if_neg hne]
theorem put_size {a : Act} {d : Option Nat} {v : Value} : (a.put d v).tmps.size = a.tmps.size := by
  cases d <;> simp [Act.put]
theorem Flo.step {X : Ctx El} {P : Program} {st st' : St El} {S S' : Nat → Prop} {β β' : Beta} {a a' : Act} {w w' : World} {dst t r : Nat} {d : Option Nat} {v : Value} (h : Flo X P st S β a w dst t r)
    (hk : r < w.heap.size → ¬ S r → Off st β r → w'.heap[r]? = w.heap[r]? ∧ ¬ S' r ∧ Off st' β' r) (hd : d ≠ some dst) (ha : a'.tmps = (a.put d v).tmps) : Flo X P st' S' β' a' w' dst t r := by
  obtain ⟨k1, k2, k3⟩ := hk h.ltw h.out h.off
  obtain ⟨i, z, h1, h2, h3⟩ := h.heap
  exact ⟨by rw [ha, put_getD hd]; exact h.tmp, by rw [ha, put_size]; exact h.lt, ⟨i, z, h1, h2, k1.trans h3⟩, k2, h.big, k3⟩
theorem float_step {P : Program} {o : Oper} {t dst : Nat} (ho : o.op = .alloc t) (hd : o.dst = some dst) {st : St El} {ds : List (D El)} (hz : mzero P t = some ds) (hdead : nth st.tmps dst = .dead) {X : Ctx El} {S : Nat → Prop} {β : Beta} {a : Act} {w : World} (hr : Rel X st S β a w) (hlt : dst < st.tmps.length) (Q : Exit → Act → World → Prop) :
    o.wp P a w (fun a' w' => Rel X st S β a' w' ∧ Flo X P st S β a' w' dst t w.heap.size ∧ (∀ r, r < w.heap.size → w'.heap[r]? = w.heap[r]?) ∧ w'.heap.size = w.heap.size + 1 ∧ a'.tmps = (a.put (some dst) (.pointer (some ⟨w.heap.size, 0, none⟩))).tmps) Q := by
  obtain ⟨i, z, hi, hz1, hs, hrun, hc⟩ := mzero_sound hz
  have e : (execOp a.eval o).run P w = .ok (.value (.pointer (some ⟨w.heap.size, 0, none⟩))) (w.alloc (.cells z.cells t)) := by
    simp [execOp, ho, Instr.alloc, hrun, newVar, newRow, newObj]
    rfl
  unfold Oper.wp
  rw [e]
  show _ ∧ _
  rw [hd]
  have h1 : Rel X st S β a (w.alloc (.cells z.cells t)) := hr.on (T := fun _ => False) (Grew.alloc w _) (fun r h => h.elim) rfl (fun o x h => h) hr.fresh (fun o _ => .inr rfl) (fun o _ => .inl ⟨rfl, rfl, fun r _ h => h⟩)
  have h2 := h1.put (some dst) (v := .pointer (some ⟨w.heap.size, 0, none⟩)) (d := .dead) (.dead _)
  have h3 : st.put (some dst) .dead = st := by
    show ({ st with tmps := setNth st.tmps dst .dead } : St El) = st
    rw [← hdead, setNth_nth']
  rw [h3] at h2
  refine ⟨h2, ⟨?_, ?_, ⟨i, z, hi, hz1, heap_alloc_new w _⟩, fun hS => absurd (hr.inside _ hS) (Nat.lt_irrefl _), hr.grown, ?_⟩, fun r hl => heap_alloc_old w _ r hl, by show (w.heap.push _).size = _; simp, rfl⟩
  · have : dst < a.tmps.size := by rw [hr.size]; exact hlt
    simp [Act.put, Array.getD, this]
  · rw [put_size, hr.size]; exact hlt
  · intro o' l hat
    have := (hr.objs o').lt l hat
    omega
theorem float_in {P : Program} {st : St El} {t dst : Nat} {ds : List (D El)} (hz : mzero P t = some ds) {X : Ctx El} {S : Nat → Prop} {β : Beta} {a : Act} {w : World} (hr : Rel X st S β a w) {r : Nat} (hf : Flo X P st S β a w dst t r) :
    ∃ β', Rel X ((st.new (.box t ds)).put (some dst) (.ptr st.next 0 0 0)) S β' a w ∧ ∀ r', r' ≠ r → Off st β r' → Off ((st.new (.box t ds)).put (some dst) (.ptr st.next 0 0 0)) β' r' := by
  obtain ⟨i, z, hi, hz1, hs, hrun, hc⟩ := mzero_sound hz
  obtain ⟨i', z', hi', hz1', hheap⟩ := hf.heap
  rw [hi] at hi'
  cases hi'
  rw [hz1] at hz1'
  cases hz1'
  have hno := hr.fresh st.next (Nat.le_refl _)
  let v : Value := .pointer (some ⟨r, 0, none⟩)
  have hu : upB β st.next v st.next = some v := by unfold upB; rw [if_pos rfl]
  have hb : ∀ o x, β o = some x → upB β st.next v o = some x := fun o x hx => by
    unfold upB
    rw [if_neg (fun e => by rw [e, hno] at hx; cases hx)]
    exact hx
  have hl : ∀ o, o ≠ st.next → look (st.new (.box t ds)).objs o = look st.objs o := fun o ho => by
    show look (_ :: _) _ = _
    rw [look_cons, if_neg (fun q => ho q.symm)]
  have hn : ∀ o, o ≠ st.next → upB β st.next v o = β o := fun o ho => by unfold upB; rw [if_neg ho]
  have h1 : Rel X (st.new (.box t ds)) S (upB β st.next v) a w := by
    refine hr.on (T := fun k => k = r) (Grew.refl w _) (fun k hk => by subst hk; exact ⟨hf.out, fun hlt => absurd hf.big (by omega)⟩) rfl hb ?_ ?_ ?_
    · intro o ho
      have : st.next + 1 ≤ o := ho
      rw [hn o (by omega)]
      exact hr.fresh o (by omega)
    · intro o hlv
      by_cases ho : o = st.next
      · subst ho
        have e : look (st.new (.box t ds)).objs st.next = .box t ds := by show look (_ :: _) _ = _; rw [look_cons, if_pos rfl]
        rw [e] at hlv
        cases hlv
      · exact .inr (hl o ho)
    · intro o hlv
      by_cases ho : o = st.next
      · subst ho
        refine .inr ⟨?_, ?_⟩
        · have e : look (st.new (.box t ds)).objs st.next = .box t ds := by show look (_ :: _) _ = _; rw [look_cons, if_pos rfl]
          rw [e]
          exact ⟨r, z.cells, hu, hheap, hs, fun j u d p q => hc w S _ j u d p q⟩
        · rintro k ⟨v', hv', hk⟩
          rw [hu] at hv'
          cases hv'
          have hk : some r = some k := hk
          cases hk
          refine ⟨.inr rfl, fun o2 hne l2 hat => ?_⟩
          rw [hl o2 hne] at l2
          refine hf.off o2 l2 ?_
          obtain ⟨v2, b2, k2⟩ := hat
          rw [hn o2 hne] at b2
          exact ⟨v2, b2, k2⟩
      · rw [hl o ho] at hlv
        refine .inl ⟨hl o ho, hn o ho, fun k hat hk => ?_⟩
        subst hk
        exact hf.off o hlv hat
  have h2 := h1.put (some dst) (v := a.tmps.getD dst undef) (d := .ptr st.next 0 0 0) (by
    rw [hf.tmp]
    have := VRel.ptr (w := w) (S := S) (El := El) st.next 0 0 0 r _ hu rfl
    simpa using this)
  have e : a.put (some dst) (a.tmps.getD dst undef) = a := by
    simp only [Act.put]
    have : a.tmps.setIfInBounds dst (a.tmps.getD dst undef) = a.tmps := by
      apply Array.ext
      · simp
      · intro i h1 h2
        rw [Array.getElem_setIfInBounds h2]
        split
        · rename_i hi
          subst hi
          simp [Array.getD, hf.lt]
        · rfl
    rw [this]
  rw [e] at h2
  refine ⟨_, h2, fun r' hne hoff o' l hat => ?_⟩
  have l : (look (st.new (.box t ds)).objs o').live = true := l
  obtain ⟨v', b, k⟩ := hat
  by_cases ho : o' = st.next
  · subst ho
    rw [hu] at b
    cases b
    have k : some r = some r' := k
    cases k
    exact hne rfl
  · rw [hl o' ho] at l
    rw [hn o' ho] at b
    exact hoff o' l ⟨v', b, k⟩
end Go.M
namespace Go.M
set_option linter.unusedVariables false
set_option linter.unusedSectionVars false
open Uni
variable {El : Nat → Type} [Uni El] [UniOK El] {R : Type}
def isFlo (ops : Array Oper) (f : Nat) : Bool :=
  match ops[f]? with
  | some o => match o.op, o.dst, o.guard with
    | .alloc _, some _, none => true
    | _, _, _ => false
  | none => false
def dstF (ops : Array Oper) (f : Nat) : Nat := ((ops[f]?).bind (·.dst)).getD 0
def tyF (ops : Array Oper) (f : Nat) : Nat :=
  match ops[f]? with
  | some o => match o.op with
    | .alloc t => t
    | _ => 0
  | none => 0
theorem isFlo_spec {ops : Array Oper} {f : Nat} (h : isFlo ops f = true) : ∃ o, ops[f]? = some o ∧ o.op = .alloc (tyF ops f) ∧ o.dst = some (dstF ops f) ∧ o.guard = none := by
  unfold isFlo at h
  split at h
  · rename_i o ho
    split at h
    · rename_i t d h1 h2 h3
      refine ⟨o, ho, ?_, ?_, h3⟩
      · simp [tyF, ho, h1]
      · simp [dstF, ho, h2]
    · cases h
  · cases h
def subN (l m : List Nat) : Bool := l.all fun x => memN' x m
where memN' (o : Nat) : List Nat → Bool
  | [] => false
  | x :: r => cond (Nat.beq x o) true (memN' o r)
theorem memN'_iff {o : Nat} : ∀ {l : List Nat}, subN.memN' o l = true ↔ o ∈ l
  | [] => by simp [subN.memN']
  | x :: r => by
    unfold subN.memN'
    cases hb : Nat.beq x o with
    | true => have := beq_true hb; subst this; simp
    | false => have := beq_false hb; simp [memN'_iff (l := r), Ne.symm this]
def eqB : List Bool → List Bool → Bool
  | [], [] => true
  | true :: l, true :: m => eqB l m
  | false :: l, false :: m => eqB l m
  | _, _ => false
theorem eqB_eq : ∀ {l m : List Bool}, eqB l m = true → l = m
  | [], [], _ => rfl
  | true :: l, true :: m, h => by rw [eqB_eq (show eqB l m = true from h)]
  | false :: l, false :: m, h => by rw [eqB_eq (show eqB l m = true from h)]
  | [], _ :: _, h => by cases h
  | true :: l, [], h => by cases h
  | false :: l, [], h => by cases h
  | true :: l, false :: m, h => by cases h
  | false :: l, true :: m, h => by cases h
def rmN (x : Nat) : List Nat → List Nat
  | [] => []
  | y :: r => cond (Nat.beq y x) (rmN x r) (y :: rmN x r)
theorem rmN_mem {x y : Nat} : ∀ {l : List Nat}, y ∈ rmN x l ↔ y ∈ l ∧ y ≠ x
  | [] => by simp [rmN]
  | z :: r => by
    unfold rmN
    cases hb : Nat.beq z x with
    | true =>
      have := beq_true hb
      subst this
      simp only [cond_true, rmN_mem (l := r), List.mem_cons]
      constructor
      · rintro ⟨h, hn⟩; exact ⟨.inr h, hn⟩
      · rintro ⟨h | h, hn⟩
        · exact absurd h hn
        · exact ⟨h, hn⟩
    | false =>
      have := beq_false hb
      simp only [cond_false, List.mem_cons, rmN_mem (l := r)]
      constructor
      · rintro (h | h)
        · subst h; exact ⟨.inl rfl, this⟩
        · exact ⟨.inr h.1, h.2⟩
      · rintro ⟨h | h, hn⟩
        · exact .inl h
        · exact .inr ⟨h, hn⟩
theorem wpOp_yes' {P : Program} {ops : Array Oper} {Q : Exit → Act → World → Prop} {i : Nat} {o : Oper} (hi : ops[i]? = some o) {K : Act → World → Prop} {a : Act} {w : World} (hw : Region.wanted o (yielded ops a.tmps) = true) (h : o.wp P a w K Q) : wpOp P ops Q i K a w := by
  unfold wpOp
  simp only [hi, hw, if_true]
  exact .inl h
theorem wpOp_no' {P : Program} {ops : Array Oper} {Q : Exit → Act → World → Prop} {i : Nat} {o : Oper} (hi : ops[i]? = some o) {K : Act → World → Prop} {a : Act} {w : World} (hw : Region.wanted o (yielded ops a.tmps) = false) (h : K (a.put o.dst undef) w) : wpOp P ops Q i K a w := by
  unfold wpOp
  simp only [hi, hw]
  exact h
def okGroup (ops : Array Oper) (Lend : List Bool) : Nat → Array Bool → List (Nat × Nat) → List Nat → Bool
  | 0, L, cs, F => match cs, F with
    | [], [] => eqB L.toList Lend
    | _, _ => false
  | n + 1, L, cs, F =>
    match Region.ready .any ops L with
    | [] => false
    | rd => match cs with
      | [] => subN rd F && F.all fun f => okGroup ops Lend n (L.setIfInBounds f true) [] (rmN f F)
      | (c, t) :: r => subN rd (c :: F) && (okGroup ops Lend n (L.setIfInBounds c true) r F && F.all fun f => okGroup ops Lend n (L.setIfInBounds f true) ((c, t) :: r) (rmN f F))
def StepOK (P : Program) (ops : Array Oper) (o : Oper) (calm : Bool) (st st1 : St El) : Prop :=
  ((∀ {X : Ctx El} {S β a w}, Rel X st S β a w → Region.wanted o (yielded ops a.tmps) = true) ∧
    ∀ {X : Ctx El} {S β a w}, Rel X st S β a w → ∀ Q, o.wp P a w (fun a' w' => (∃ S' β', Rel X st1 S' β' a' w') ∧ (calm = true → Stay w w')) Q) ∨
  ((∀ {X : Ctx El} {S β a w}, Rel X st S β a w → Region.wanted o (yielded ops a.tmps) = false) ∧ st1 = st.put o.dst (.tup []))
def deads (ops : Array Oper) : List Nat → St El → St El
  | [], st => st
  | f :: r, st => deads ops r (st.put (some (dstF ops f)) .dead)
theorem deads_objs (ops : Array Oper) : ∀ (F : List Nat) (st : St El), (deads ops F st).objs = st.objs
  | [], st => rfl
  | f :: r, st => (deads_objs ops r _).trans rfl
theorem deads_len (ops : Array Oper) : ∀ (F : List Nat) (st : St El), (deads ops F st).tmps.length = st.tmps.length
  | [], st => rfl
  | f :: r, st => (deads_len ops r _).trans (by simp [St.put, length_setNth])
theorem deads_keep (ops : Array Oper) : ∀ (F : List Nat) (st : St El) (i : Nat), nth st.tmps i = .dead → nth (deads ops F st).tmps i = .dead
  | [], st, i, h => h
  | f :: r, st, i, h => deads_keep ops r _ i (by
    show nth (setNth _ _ _) _ = _
    rw [nth_setNth]
    split
    · rfl
    · exact h)
theorem deads_dead (ops : Array Oper) : ∀ (F : List Nat) (st : St El) (f : Nat), f ∈ F → dstF ops f < st.tmps.length → nth (deads ops F st).tmps (dstF ops f) = .dead
  | [], st, f, h, _ => by cases h
  | g :: r, st, f, h, hl => by
    rcases List.mem_cons.1 h with rfl | h
    · refine deads_keep ops r _ _ ?_
      show nth (setNth _ _ _) _ = _
      rw [nth_setNth, if_pos ⟨rfl, hl⟩]
    · exact deads_dead ops r _ f h (by show _ < (setNth _ _ _).length; rw [length_setNth]; exact hl)
theorem Rel.forget {X : Ctx El} {st : St El} {S : Nat → Prop} {β : Beta} {a : Act} {w : World} (h : Rel X st S β a w) (d : Nat) : Rel X (st.put (some d) .dead) S β a w := by
  refine ⟨by show _ = (setNth _ _ _).length; rw [length_setNth]; exact h.size, fun i => ?_, h.defers, h.objs, h.inj, h.away, h.fresh, h.inside, h.stay, h.os, h.tape, h.output, h.grown, h.frame, h.old, h.root⟩
  show VRel w S β _ (nth (setNth _ _ _) _)
  rw [nth_setNth]
  split
  · exact .dead _
  · exact h.tmps i
theorem Rel.deads {X : Ctx El} {ops : Array Oper} {S : Nat → Prop} {β : Beta} {a : Act} {w : World} : ∀ (F : List Nat) {st : St El}, Rel X st S β a w → Rel X (deads ops F st) S β a w
  | [], st, h => h
  | f :: r, st, h => Rel.deads r (h.forget _)
inductive Run (P : Program) (ops : Array Oper) (calm : Bool) (F : List Nat) : List (Nat × Nat) → St El → St El → Prop where
  | nil (st) : Run P ops calm F [] st st
  | cons (c t cs o st st1 stm) : ops[c]? = some o → (∀ f ∈ F, o.dst ≠ some (dstF ops f)) → (calm = true → kindOf o ≠ 2) → StepOK P ops o calm st st1 → Run P ops calm F cs (deads ops F st1) stm → Run P ops calm F ((c, t) :: cs) st stm
def Flos (X : Ctx El) (P : Program) (ops : Array Oper) (st : St El) (S : Nat → Prop) (β : Beta) (a : Act) (w : World) (D : Nat → Prop) (ρ : Nat → Nat) : Prop :=
  (∀ f, D f → Flo X P st S β a w (dstF ops f) (tyF ops f) (ρ f)) ∧ ∀ f g, D f → D g → ρ f = ρ g → f = g
theorem Flo.congr {X : Ctx El} {P : Program} {st st' : St El} {S : Nat → Prop} {β : Beta} {a : Act} {w : World} {dst t r : Nat} (h : Flo X P st S β a w dst t r) (ho : st'.objs = st.objs) : Flo X P st' S β a w dst t r :=
  ⟨h.tmp, h.lt, h.heap, h.out, h.big, by intro o l; rw [ho] at l; exact h.off o l⟩
theorem group_wp {P : Program} {ops : Array Oper} {Q : Exit → Act → World → Prop} {X : Ctx El} {w0 : World} {calm : Bool} {Lend : Array Bool} {stm : St El} {m : Nat} {F0 : List Nat}
    (hF : ∀ f ∈ F0, isFlo ops f = true) (hdd : ∀ f ∈ F0, ∀ g ∈ F0, dstF ops f = dstF ops g → f = g) (hz : ∀ f ∈ F0, ∃ ds : List (D El), mzero P (tyF ops f) = some ds)
    (hend : ∀ {S β a w ρ}, Closed .any ops Lend → Rel X stm S β a w → Flos X P ops stm S β a w (· ∈ F0) ρ → (calm = false → Broke ops Lend) → (calm = true → ¬ Broke ops Lend ∧ Stay w0 w) → wpG P .any ops Q (SB ops w0) m Lend a w) :
    ∀ (n : Nat) (L : Array Bool) (cs : List (Nat × Nat)) (F : List Nat) (st : St El) (S : Nat → Prop) (β : Beta) (a : Act) (w : World) (ρ : Nat → Nat), Closed .any ops L →
      okGroup ops Lend.toList n L cs F = true → Run P ops calm F0 cs st stm → (∀ f ∈ F, f ∈ F0) → (∀ f ∈ F0, nth st.tmps (dstF ops f) = .dead ∧ dstF ops f < st.tmps.length) →
      Rel X st S β a w → Flos X P ops st S β a w (fun f => f ∈ F0 ∧ f ∉ F) ρ → (calm = false → Broke ops L) → (calm = true → ¬ Broke ops L ∧ Stay w0 w) → wpG P .any ops Q (SB ops w0) (n + m) L a w := by
  intro n
  induction n with
  | zero =>
    intro L cs F st S β a w ρ hcl hok hrun hsub hdead hr hfl hb1 hb2
    unfold okGroup at hok
    split at hok
    · have := Array.toList_inj.1 (eqB_eq hok)
      subst this
      cases hrun
      rw [Nat.zero_add]
      exact hend hcl hr ⟨fun f hf => hfl.1 f ⟨hf, by simp⟩, fun f g hf hg => hfl.2 f g ⟨hf, by simp⟩ ⟨hg, by simp⟩⟩ hb1 hb2
    · cases hok
  | succ n ih =>
    intro L cs F st S β a w ρ hcl hok hrun hsub hdead hr hfl hb1 hb2
    have e : n + 1 + m = (n + m) + 1 := by omega
    rw [e]
    -- a float's step
    have flo : ∀ f ∈ F, f ∈ Region.ready .any ops L → okGroup ops Lend.toList n (L.setIfInBounds f true) cs (rmN f F) = true → wpOp P ops Q f (fun a' w' => SB ops w0 (L.setIfInBounds f true) w' ∧ wpG P .any ops Q (SB ops w0) (n + m) (L.setIfInBounds f true) a' w') a w := by
      intro f hf hrd hk
      obtain ⟨o, ho, hop, hdst, hg⟩ := isFlo_spec (hF f (hsub f hf))
      obtain ⟨ds, hzf⟩ := hz f (hsub f hf)
      obtain ⟨hd1, hd2⟩ := hdead f (hsub f hf)
      refine wpOp_yes' ho (by simp [Region.wanted, hg]) ?_
      refine Oper.wp_mono ?_ (float_step hop hdst hzf hd1 hr hd2 Q)
      rintro a' w' ⟨k1, k2, k3, k4, k5⟩
      have hst : Stay w w' := fun r hl => k3 r hl
      have hkind : kindOf o ≠ 2 := by simp [kindOf, hop]
      have b1 : calm = false → Broke ops (L.setIfInBounds f true) := fun hc => by
        obtain ⟨s, os, h1, h2, h3⟩ := hb1 hc
        exact ⟨s, os, h1, h2, getD_set_true h3⟩
      have b2 : calm = true → ¬ Broke ops (L.setIfInBounds f true) ∧ Stay w0 w' := fun hc => ⟨fun hb => (hb2 hc).1 (broke_set ho hkind hb), (hb2 hc).2.trans hst⟩
      refine ⟨?_, ih _ cs (rmN f F) st S β a' w' (fun g => if g = f then w.heap.size else ρ g) (hcl.step hrd) hk hrun (fun g hg => hsub g (rmN_mem.1 hg).1) hdead k1 ⟨?_, ?_⟩ b1 b2⟩
      · cases hcalm : calm with
        | false => exact .inl (b1 hcalm)
        | true => exact .inr (b2 hcalm).2
      · rintro g ⟨hg0, hgn⟩
        dsimp only
        by_cases he : g = f
        · subst he
          rw [if_pos rfl]
          exact k2
        · rw [if_neg he]
          have hgF : g ∉ F := fun h => hgn (rmN_mem.2 ⟨h, he⟩)
          refine (hfl.1 g ⟨hg0, hgF⟩).step (d := some (dstF ops f)) (v := .pointer (some ⟨w.heap.size, 0, none⟩)) (fun h1 h2 h3 => ⟨k3 _ h1, h2, h3⟩) ?_ k5
          intro hq
          exact he (hdd g hg0 f (hsub f hf) (Option.some.inj hq).symm)
      · rintro g1 g2 ⟨h1, h1n⟩ ⟨h2, h2n⟩ heq
        dsimp only at heq
        by_cases e1 : g1 = f
        · by_cases e2 : g2 = f
          · rw [e1, e2]
          · rw [if_pos e1, if_neg e2] at heq
            have := (hfl.1 g2 ⟨h2, fun h => h2n (rmN_mem.2 ⟨h, e2⟩)⟩).ltw
            omega
        · by_cases e2 : g2 = f
          · rw [if_neg e1, if_pos e2] at heq
            have := (hfl.1 g1 ⟨h1, fun h => h1n (rmN_mem.2 ⟨h, e1⟩)⟩).ltw
            omega
          · rw [if_neg e1, if_neg e2] at heq
            exact hfl.2 g1 g2 ⟨h1, fun h => h1n (rmN_mem.2 ⟨h, e1⟩)⟩ ⟨h2, fun h => h2n (rmN_mem.2 ⟨h, e2⟩)⟩ heq
    unfold okGroup at hok
    split at hok
    · cases hok
    · rename_i rd hne hrd
      split at hok
      · obtain ⟨hs, ha⟩ := Bool.and_eq_true_iff.1 hok
        refine ⟨fun h0 => absurd h0 (by intro h; exact hrd h), fun i hi => ?_⟩
        have hiF : i ∈ F := memN'_iff.1 (List.all_eq_true.1 hs i hi)
        exact flo i hiF hi (List.all_eq_true.1 ha i hiF)
      · rename_i c t r
        obtain ⟨hs, ha⟩ := Bool.and_eq_true_iff.1 hok
        obtain ⟨hc, ha⟩ := Bool.and_eq_true_iff.1 ha
        refine ⟨fun h0 => absurd h0 (by intro h; exact hrd h), fun i hi => ?_⟩
        have him := memN'_iff.1 (List.all_eq_true.1 hs i hi)
        by_cases hic : i = c
        · subst hic
          cases hrun with
          | cons _ _ _ o _ st1 _ ho hdst hkind hstep hrest =>
            have b1 : calm = false → Broke ops (L.setIfInBounds i true) := fun hc => by
              obtain ⟨s, os, h1, h2, h3⟩ := hb1 hc
              exact ⟨s, os, h1, h2, getD_set_true h3⟩
            have fin : ∀ (a' : Act) (w' : World) (S' : Nat → Prop) (β' : Beta) v, Rel X st1 S' β' a' w' → (∀ r, r < w.heap.size → ¬ S r → Off st β r → w'.heap[r]? = w.heap[r]? ∧ ¬ S' r ∧ Off st1 β' r) → (calm = true → Stay w w') → a'.tmps = (a.put o.dst v).tmps →
                SB ops w0 (L.setIfInBounds i true) w' ∧ wpG P .any ops Q (SB ops w0) (n + m) (L.setIfInBounds i true) a' w' := by
              intro a' w' S' β' v hr1 hk hst hv
              have b2 : calm = true → ¬ Broke ops (L.setIfInBounds i true) ∧ Stay w0 w' := fun hc => ⟨fun hb => (hb2 hc).1 (broke_set ho (hkind hc) hb), (hb2 hc).2.trans (hst hc)⟩
              have hlen : st1.tmps.length = st.tmps.length := by rw [← hr1.size, ← hr.size, hv, put_size]
              refine ⟨?_, ih _ r F (deads ops F0 st1) S' β' a' w' ρ (hcl.step hi) hc hrest hsub (fun f hf => ⟨deads_dead ops F0 st1 f hf (by rw [hlen]; exact (hdead f hf).2), by rw [deads_len, hlen]; exact (hdead f hf).2⟩) (hr1.deads F0) ⟨?_, hfl.2⟩ b1 b2⟩
              · cases hcalm : calm with
                | false => exact .inl (b1 hcalm)
                | true => exact .inr (b2 hcalm).2
              · rintro f ⟨hf0, hfn⟩
                exact ((hfl.1 f ⟨hf0, hfn⟩).step (hk (ρ f)) (hdst f hf0) hv).congr (deads_objs ops F0 st1)
            rcases hstep with ⟨hw, hg⟩ | ⟨hw, rfl⟩
            · refine wpOp_yes' ho (hw hr) (Oper.wp_mono ?_ (chain_step (fun {X S β a w} hr Q => hg hr Q) hr Q))
              rintro a' w' ⟨⟨S', β', k1, k2⟩, k3, _, v, k4⟩
              exact fin a' w' S' β' v k1 k2 k3 k4
            · refine wpOp_no' ho (hw hr) ?_
              exact fin _ w S β undef (hr.put o.dst .undef) (fun r h1 h2 h3 => ⟨rfl, h2, fun o' l => h3 o' (by cases hd : o.dst <;> rw [hd] at l <;> exact l)⟩) (fun _ => Stay.refl w) rfl
        · have hiF : i ∈ F := by
            rcases List.mem_cons.1 him with h | h
            · exact absurd h hic
            · exact h
          exact flo i hiF hi (List.all_eq_true.1 ha i hiF)
end Go.M
namespace Go.M
set_option linter.unusedVariables false
set_option linter.unusedSectionVars false
open Uni
variable {El : Nat → Type} [Uni El] [UniOK El] {R : Type}
def waitsOn (ops : Array Oper) : Nat → Oper → Nat → Bool
  | 0, _, _ => false
  | n + 1, o, i => o.after.toList.any fun e => Region.binds .any e && (Nat.beq e.on i || match ops[e.on]? with
    | some o' => waitsOn ops n o' i
    | none => false)
theorem waitsOn_done {ops : Array Oper} {L : Array Bool} (hcl : Closed .any ops L) {i : Nat} : ∀ (n : Nat) (o : Oper), waitsOn ops n o i = true → (∀ e ∈ o.after, Region.binds .any e = true → L.getD e.on false = true) → L.getD i false = true
  | 0, o, h, _ => by cases h
  | n + 1, o, h, ha => by
    unfold waitsOn at h
    obtain ⟨e, he, hx⟩ := List.any_eq_true.1 h
    obtain ⟨x1, x2⟩ := Bool.and_eq_true_iff.1 hx
    have hd := ha e (Array.mem_toList_iff.1 he) x1
    rcases Bool.or_eq_true_iff.1 x2 with h1 | h1
    · rw [← beq_true h1]
      exact hd
    · split at h1
      · rename_i o' ho'
        exact waitsOn_done hcl n o' h1 (hcl e.on o' ho' hd)
      · cases h1
def waitsFor (ops : Array Oper) (i : Nat) : Bool :=
  ops.toList.all fun o => cond (Nat.beq (kindOf o) 2) (waitsOn ops 4 o i) true
def takeable (ops : Array Oper) (L : Array Bool) (i : Nat) : Bool :=
  match ops[i]? with
  | some o => Nat.beq (kindOf o) 0 && (Region.free .any ops L i && waitsFor ops i)
  | none => false
def chainOf (ops : Array Oper) (F : List Nat) (broke : Bool) : Nat → Array Bool → Option (List (Nat × Nat) × Array Bool)
  | 0, _ => none
  | k + 1, L =>
    match (Region.ready .any ops L).filter (fun i => !subN.memN' i F) with
    | [] => some ([], L)
    | [c] =>
      match ops[c]? with
      | some o => (chainOf ops F broke k (L.setIfInBounds c true)).map fun p => ((c, cond broke 2 (cond (Nat.beq (kindOf o) 0) 3 1)) :: p.1, p.2)
      | none => none
    | _ => none
def okStat (ops : Array Oper) (broke : Bool) (F : List Nat) (cs : List (Nat × Nat)) : Bool :=
  F.all (isFlo ops) && ((F.all fun f => F.all fun g => cond (Nat.beq (dstF ops f) (dstF ops g)) (Nat.beq f g) true) && ((cs.all fun p => match ops[p.1]? with
    | some o => (match o.dst with | some d => F.all fun f => !(Nat.beq d (dstF ops f)) | none => true) && cond broke (Nat.beq p.2 2) ((Nat.beq p.2 1 || Nat.beq p.2 3) && !(Nat.beq (kindOf o) 2))
    | none => false) && nodupF F))
where nodupF : List Nat → Bool
  | [] => true
  | f :: r => !(subN.memN' f r) && nodupF r
def mgroup (ops : Array Oper) (L : Array Bool) (broke : Bool) : Option (List (Nat × Nat) × List Nat × Array Bool) :=
  match (Region.ready .any ops L).filter (isFlo ops) with
  | [] => none
  | f :: F =>
    match chainOf ops (f :: F) broke (ops.size + 1) L with
    | some (cs, L1) =>
      cond (okStat ops broke (f :: F) cs && okGroup ops ((f :: F).foldl (fun L f => L.setIfInBounds f true) L1).toList (cs.length + (f :: F).length) L cs (f :: F)) (some (cs, f :: F, (f :: F).foldl (fun L f => L.setIfInBounds f true) L1)) none
    | none => none
theorem mgroup_spec {ops : Array Oper} {L : Array Bool} {broke : Bool} {cs : List (Nat × Nat)} {F : List Nat} {Le : Array Bool} (h : mgroup ops L broke = some (cs, F, Le)) : okStat ops broke F cs = true ∧ okGroup ops Le.toList (cs.length + F.length) L cs F = true := by
  unfold mgroup at h
  split at h
  · cases h
  · split at h
    · obtain ⟨hc, h1⟩ := cond_some h
      cases h1
      exact Bool.and_eq_true_iff.1 hc
    · cases h
def groupPlan (F : List Nat) (cs : List (Nat × Nat)) : List (Nat × Nat) := F.map (fun f => (f, 4)) ++ ((cs.flatMap fun p => p :: F.map (fun f => (f, 4))) ++ F.map (fun f => (f, 1)))
def mplan (ops : Array Oper) : Nat → Nat → Array Bool → Bool → Option (List (Nat × Nat))
  | 0, _, _, _ => none
  | k + 1, n, L, broke =>
    match Region.ready .any ops L with
    | [] => some []
    | j :: rd =>
      match n with
      | 0 => none
      | n + 1 =>
        match cond broke none ((j :: rd).find? (takeable ops L)) with
        | some i => (mplan ops k n (L.setIfInBounds i true) broke).map ((i, 0) :: ·)
        | none =>
          match rd, ops[j]? with
          | [], some o =>
            match broke, kindOf o with
            | false, 0 => (mplan ops k n (L.setIfInBounds j true) false).map ((j, 3) :: ·)
            | false, 1 => (mplan ops k n (L.setIfInBounds j true) false).map ((j, 1) :: ·)
            | false, 2 => (mplan ops k n (L.setIfInBounds j true) true).map ((j, 2) :: ·)
            | true, _ => (mplan ops k n (L.setIfInBounds j true) true).map ((j, 2) :: ·)
            | _, _ => none
          | _, _ =>
            match mgroup ops L broke with
            | some (cs, F, Le) => cond (Nat.ble (cs.length + F.length) (n + 1)) ((mplan ops k (n + 1 - (cs.length + F.length)) Le broke).map (groupPlan F cs ++ ·)) none
            | none => none
def mgd (ops : Array Oper) (o : Oper) (yes no : St El → Option R) (st : St El) : Option R :=
  match o.guard with
  | none => yes st
  | some (j, want) =>
    match (ops[j]?).bind (·.dst) with
    | some t =>
      match nth st.tmps t with
      | .bool b => cond b (cond want (yes (st.know t true)) (no (st.know t true))) (cond want (no (st.know t false)) (yes (st.know t false)))
      | .tup [] => no st
      | _ => none
    | none => none
def mstep (P : Program) (C Cc : St El → Nat → List (D El) → (St El → D El → Option R) → Option R) (tag : Nat) (o : Oper) (K : St El → Option R) (st : St El) : Option R :=
  match tag with
  | 0 => mquiet P o K st
  | 3 => mquiet P o K st
  | 1 => mcalm P Cc o K st
  | 4 => match o.dst with
    | some d => cond (Nat.blt d st.tmps.length) (K (st.put (some d) .dead)) none
    | none => none
  | _ => mop P C o K st
def mdrawL (P : Program) (C Cc : St El → Nat → List (D El) → (St El → D El → Option R) → Option R) (ops : Array Oper) : List (Nat × Nat) → (St El → Option R) → St El → Option R
  | [], K, st => K st
  | (i, tag) :: r, K, st =>
    match ops[i]? with
    | some o => mgd ops o (mstep P C Cc tag o (mdrawL P C Cc ops r K)) (fun st => mdrawL P C Cc ops r K (st.put o.dst (.tup []))) st
    | none => none
theorem mgd_sound {ops : Array Oper} {o : Oper} {yes no : St El → Option R} {st : St El} {r : R} (h : mgd ops o yes no st = some r) :
    (yes st = some r ∧ ∀ {X : Ctx El} {S β a w}, Rel X st S β a w → Region.wanted o (yielded ops a.tmps) = true) ∨
    (no st = some r ∧ ∀ {X : Ctx El} {S β a w}, Rel X st S β a w → Region.wanted o (yielded ops a.tmps) = false) := by
  unfold mgd at h
  split at h
  · rename_i hg
    exact .inl ⟨h, fun {X S β a w} hr => by simp [Region.wanted, hg]⟩
  · rename_i j want hg
    split at h
    · rename_i t ht
      split at h
      · rename_i b hb
        have hy : ∀ {X : Ctx El} {S β a w}, Rel X st S β a w → yielded ops a.tmps j = some b := by
          intro X S β a w hr
          have hv := hr.tmps t
          rw [hb] at hv
          unfold yielded
          rw [ht]
          simp only [Option.bind_some]
          have hlt : t < a.tmps.size := by
            rcases Nat.lt_or_ge t a.tmps.size with hl | hl
            · exact hl
            · have e : a.tmps.getD t undef = undef := by simp [Array.getD, Nat.not_lt.2 hl]
              rw [e] at hv
              cases hv
          have e : a.tmps[t]? = some (a.tmps.getD t undef) := by simp [Array.getD, hlt]
          rw [e]
          generalize a.tmps.getD t undef = v at hv
          cases hv
          rfl
        have hk : st.know t b = st := St.know_eq hb
        cases b with
        | true =>
          simp only [cond_true, hk] at h
          cases want with
          | true => exact .inl ⟨h, fun {X S β a w} hr => by simp [Region.wanted, hg, hy hr]⟩
          | false => exact .inr ⟨h, fun {X S β a w} hr => by simp [Region.wanted, hg, hy hr]⟩
        | false =>
          simp only [cond_false, hk] at h
          cases want with
          | true => exact .inr ⟨h, fun {X S β a w} hr => by simp [Region.wanted, hg, hy hr]⟩
          | false => exact .inl ⟨h, fun {X S β a w} hr => by simp [Region.wanted, hg, hy hr]⟩
      · rename_i hb
        refine .inr ⟨h, fun {X S β a w} hr => ?_⟩
        have hy : yielded ops a.tmps j = none := by
          have hv := hr.tmps t
          rw [hb] at hv
          unfold yielded
          rw [ht]
          simp only [Option.bind_some]
          cases ha : a.tmps[t]? with
          | none => rfl
          | some v =>
            have e : a.tmps.getD t undef = v := by simp [Array.getD_eq_getD_getElem?, ha]
            rw [e] at hv
            cases hv
            rfl
        simp [Region.wanted, hg, hy]
      · cases h
    · cases h
theorem wpOp_yes {P : Program} {ops : Array Oper} {Q : Exit → Act → World → Prop} {i : Nat} {o : Oper} (hi : ops[i]? = some o) {K : Act → World → Prop} {a : Act} {w : World} (hw : Region.wanted o (yielded ops a.tmps) = true) (h : o.wp P a w K Q) : wpOp P ops Q i K a w := by
  unfold wpOp
  simp only [hi, hw, if_true]
  exact .inl h
theorem wpOp_no {P : Program} {ops : Array Oper} {Q : Exit → Act → World → Prop} {i : Nat} {o : Oper} (hi : ops[i]? = some o) {K : Act → World → Prop} {a : Act} {w : World} (hw : Region.wanted o (yielded ops a.tmps) = false) (h : K (a.put o.dst undef) w) : wpOp P ops Q i K a w := by
  unfold wpOp
  simp only [hi, hw]
  exact h
theorem map_some {α β : Type} {f : α → β} {x : Option α} {y : β} (h : x.map f = some y) : ∃ z, x = some z ∧ y = f z := by
  cases x with
  | none => cases h
  | some z => cases h; exact ⟨z, rfl, rfl⟩
def Good (P : Program) (ops : Array Oper) (n : Nat) (L : Array Bool) (broke : Bool) (st st' : St El) : Prop :=
  ∀ {X : Ctx El} {S β a w} {Q : Exit → Act → World → Prop}, Closed .any ops L → Rel X st S β a w → After P X st' Q → (∀ c a w, ¬ Q (.panic c) a w) → (broke = true → Broke ops L) → (broke = false → ¬ Broke ops L) → wpG P .any ops Q (SB ops w) n L a w
section
variable {P : Program} {C Cc : St El → Nat → List (D El) → (St El → D El → Option R) → Option R} {ops : Array Oper}
theorem deads_run : ∀ {F : List Nat} {rest : List (Nat × Nat)} {K : St El → Option R} {st : St El} {r : R}, (∀ f ∈ F, isFlo ops f = true) → mdrawL P C Cc ops (F.map (fun f => (f, 4)) ++ rest) K st = some r →
    mdrawL P C Cc ops rest K (deads ops F st) = some r ∧ ∀ f ∈ F, dstF ops f < st.tmps.length := by
  intro F
  induction F with
  | nil => intro rest K st r _ h; exact ⟨h, fun f hf => by cases hf⟩
  | cons f F ih =>
    intro rest K st r hF h
    obtain ⟨o, ho, hop, hd, hg⟩ := isFlo_spec (hF f (List.mem_cons_self ..))
    simp only [List.map_cons, List.cons_append, mdrawL, ho, mgd, hg, mstep, hd] at h
    obtain ⟨hlt, h⟩ := cond_some h
    obtain ⟨h1, h2⟩ := ih (fun g hg => hF g (List.mem_cons_of_mem _ hg)) h
    have hlt : dstF ops f < st.tmps.length := by rw [Nat.blt_eq] at hlt; exact hlt
    refine ⟨h1, fun g hg => ?_⟩
    rcases List.mem_cons.1 hg with rfl | hg
    · exact hlt
    · have := h2 g hg
      simpa [St.put, length_setNth] using this
theorem chain_run (hC : CallOK P C) (hCc : CalmOK P Cc) {broke : Bool} {F : List Nat} (hF : ∀ f ∈ F, isFlo ops f = true) : ∀ {cs : List (Nat × Nat)} {rest : List (Nat × Nat)} {K : St El → Option R} {st : St El} {r : R},
    (∀ p ∈ cs, ∃ o, ops[p.1]? = some o ∧ (∀ f ∈ F, o.dst ≠ some (dstF ops f)) ∧ (broke = true → p.2 = 2) ∧ (broke = false → (p.2 = 1 ∨ p.2 = 3) ∧ kindOf o ≠ 2)) →
    mdrawL P C Cc ops ((cs.flatMap fun p => p :: F.map (fun f => (f, 4))) ++ rest) K st = some r → ∃ stm, mdrawL P C Cc ops rest K stm = some r ∧ Run P ops (!broke) F cs st stm := by
  intro cs
  induction cs with
  | nil => intro rest K st r _ h; exact ⟨st, h, .nil st⟩
  | cons p cs ih =>
    intro rest K st r hcs h
    obtain ⟨c, t⟩ := p
    obtain ⟨o, ho, hd, hb1, hb2⟩ := hcs (c, t) (List.mem_cons_self ..)
    simp only [List.flatMap_cons, List.cons_append, List.append_assoc, mdrawL, ho] at h
    have go : ∀ {st1 : St El}, StepOK P ops o (!broke) st st1 → mdrawL P C Cc ops (F.map (fun f => (f, 4)) ++ ((cs.flatMap fun p => p :: F.map (fun f => (f, 4))) ++ rest)) K st1 = some r → ∃ stm, mdrawL P C Cc ops rest K stm = some r ∧ Run P ops (!broke) F ((c, t) :: cs) st stm := by
      intro st1 hs h1
      obtain ⟨h2, _⟩ := deads_run hF h1
      obtain ⟨stm, h3, h4⟩ := ih (fun p hp => hcs p (List.mem_cons_of_mem _ hp)) h2
      exact ⟨stm, h3, .cons c t cs o st st1 stm ho hd (fun hc => (hb2 (by simpa using hc)).2) hs h4⟩
    rcases mgd_sound h with ⟨h1, hw⟩ | ⟨h1, hw⟩
    · cases hbr : broke with
      | true =>
        have e : t = 2 := hb1 hbr
        subst e
        obtain ⟨st1, h2, s2⟩ := mop_sound hC (show mop P C o _ st = some r from h1)
        rw [← hbr]
        exact go (.inl ⟨hw, fun {X S β a w} hr Q => Oper.wp_mono (fun a' w' k => ⟨k, fun hc => by rw [hbr] at hc; cases hc⟩) (s2 hr Q)⟩) h2
      | false =>
        rw [← hbr]
        rcases (hb2 hbr).1 with e | e
        · have e : t = 1 := e
          subst e
          obtain ⟨st1, h2, s2⟩ := mcalm_sound hCc (show mcalm P Cc o _ st = some r from h1)
          exact go (.inl ⟨hw, fun {X S β a w} hr Q => Oper.wp_mono (fun a' w' k => ⟨k.1, fun _ => k.2⟩) (s2 hr Q)⟩) h2
        · have e : t = 3 := e
          subst e
          obtain ⟨st1, h2, s2⟩ := mquiet_sound (show mquiet P o _ st = some r from h1)
          refine go (.inl ⟨hw, fun {X S β a w} hr Q => ?_⟩) h2
          obtain ⟨v, hv, S1, β1, hr1⟩ := s2 hr
          unfold Oper.wp
          rw [hv w (Stay.refl w)]
          exact ⟨⟨S1, β1, hr1⟩, fun _ => Stay.refl w⟩
    · exact go (.inr ⟨hw, rfl⟩) h1
theorem floats_run : ∀ {F : List Nat} {rest : List (Nat × Nat)} {K : St El → Option R} {st : St El} {r : R}, (∀ f ∈ F, isFlo ops f = true) → okStat.nodupF F = true → mdrawL P C Cc ops (F.map (fun f => (f, 1)) ++ rest) K st = some r →
    (∀ f ∈ F, ∃ ds : List (D El), mzero P (tyF ops f) = some ds) ∧ ∃ ste, mdrawL P C Cc ops rest K ste = some r ∧ ∀ {X : Ctx El} {S β a w ρ}, Rel X st S β a w → Flos X P ops st S β a w (· ∈ F) ρ → ∃ β', Rel X ste S β' a w := by
  intro F
  induction F with
  | nil => intro rest K st r _ _ h; exact ⟨fun f hf => by (cases hf), st, h, fun {X S β a w ρ} hr _ => ⟨β, hr⟩⟩
  | cons f F ih =>
    intro rest K st r hF hn h
    obtain ⟨o, ho, hop, hd, hg⟩ := isFlo_spec (hF f (List.mem_cons_self ..))
    simp only [List.map_cons, List.cons_append, mdrawL, ho, mgd, hg, mstep, mcalm, hop, mop] at h
    obtain ⟨hn1, hn2⟩ := Bool.and_eq_true_iff.1 hn
    have hnm : f ∉ F := fun hm => by rw [memN'_iff.2 hm] at hn1; cases hn1
    split at h
    · rename_i ds hz
      rw [hd] at h
      obtain ⟨i1, ste, i2, i3⟩ := ih (fun g hg => hF g (List.mem_cons_of_mem _ hg)) hn2 h
      refine ⟨fun g hg => ?_, ste, i2, fun {X S β a w ρ} hr hfl => ?_⟩
      · rcases List.mem_cons.1 hg with rfl | hg
        · exact ⟨ds, hz⟩
        · exact i1 g hg
      · have hf := hfl.1 f (List.mem_cons_self ..)
        obtain ⟨β', h1, h2⟩ := float_in hz hr hf
        refine i3 (ρ := ρ) h1 ⟨fun g hg => ?_, fun g1 g2 k1 k2 => hfl.2 g1 g2 (List.mem_cons_of_mem _ k1) (List.mem_cons_of_mem _ k2)⟩
        have hgf := hfl.1 g (List.mem_cons_of_mem _ hg)
        exact ⟨hgf.tmp, hgf.lt, hgf.heap, hgf.out, hgf.big, h2 _ (fun e => hnm (by
          have := hfl.2 g f (List.mem_cons_of_mem _ hg) (List.mem_cons_self ..) e
          rw [← this]; exact hg)) hgf.off⟩
    · cases h
theorem okStat_spec {broke : Bool} {F : List Nat} {cs : List (Nat × Nat)} (h : okStat ops broke F cs = true) : (∀ f ∈ F, isFlo ops f = true) ∧ (∀ f ∈ F, ∀ g ∈ F, dstF ops f = dstF ops g → f = g) ∧
    (∀ p ∈ cs, ∃ o, ops[p.1]? = some o ∧ (∀ f ∈ F, o.dst ≠ some (dstF ops f)) ∧ (broke = true → p.2 = 2) ∧ (broke = false → (p.2 = 1 ∨ p.2 = 3) ∧ kindOf o ≠ 2)) ∧ okStat.nodupF F = true := by
  unfold okStat at h
  obtain ⟨h1, h⟩ := Bool.and_eq_true_iff.1 h
  obtain ⟨h2, h⟩ := Bool.and_eq_true_iff.1 h
  obtain ⟨h3, h4⟩ := Bool.and_eq_true_iff.1 h
  refine ⟨List.all_eq_true.1 h1, fun f hf g hg he => ?_, fun p hp => ?_, h4⟩
  · have := List.all_eq_true.1 (List.all_eq_true.1 h2 f hf) g hg
    rw [he] at this
    simp only [Nat.beq_refl, cond_true] at this
    exact beq_true this
  · have := List.all_eq_true.1 h3 p hp
    split at this
    · rename_i o ho
      obtain ⟨k1, k2⟩ := Bool.and_eq_true_iff.1 this
      refine ⟨o, ho, fun f hf e => ?_, fun hb => ?_, fun hb => ?_⟩
      · rw [e] at k1
        have := List.all_eq_true.1 k1 f hf
        simp at this
      · rw [hb] at k2
        exact beq_true k2
      · rw [hb] at k2
        obtain ⟨k3, k4⟩ := Bool.and_eq_true_iff.1 k2
        refine ⟨?_, fun e => by rw [e] at k4; cases k4⟩
        rcases Bool.or_eq_true_iff.1 k3 with k | k
        · exact .inl (beq_true k)
        · exact .inr (beq_true k)
    · cases this
end
theorem mdrawL_sound {P : Program} {C Cc : St El → Nat → List (D El) → (St El → D El → Option R) → Option R} (hC : CallOK P C) (hCc : CalmOK P Cc) {ops : Array Oper} (hsel : Region.noSelect ops = true) :
    ∀ (k n : Nat) (L : Array Bool) (broke : Bool) (pl : List (Nat × Nat)) (K : St El → Option R) (st : St El) (r : R), mplan ops k n L broke = some pl → mdrawL P C Cc ops pl K st = some r → ∃ st', K st' = some r ∧ Good P ops n L broke st st' := by
  intro k
  induction k with
  | zero =>
    intro n L broke pl K st r hp h
    cases hp
  | succ k ih =>
    intro n L broke pl K st r hp h
    unfold mplan at hp
    split at hp
    · rename_i hrd
      cases hp
      exact ⟨st, h, fun {X S β a w Q} hcl hr hq hQ _ _ => wpG_done hrd (hq a w ⟨S, β, hr⟩) _⟩
    · rename_i j rd hrd
      split at hp
      · cases hp
      rename_i n
      split at hp
      · rename_i i hfind
        cases broke with
        | true => cases hfind
        | false =>
          have hfind : (j :: rd).find? (takeable ops L) = some i := hfind
          have hmem : i ∈ Region.ready .any ops L := by rw [hrd]; exact List.mem_of_find?_eq_some hfind
          have htk : takeable ops L i = true := List.find?_some hfind
          obtain ⟨pl', hp', rfl⟩ := map_some hp
          unfold takeable at htk
          split at htk
          · rename_i o hi
            obtain ⟨hk0, htk⟩ := Bool.and_eq_true_iff.1 htk
            obtain ⟨hfree, hwt⟩ := Bool.and_eq_true_iff.1 htk
            have hk0 := beq_true hk0
            have hk2 : kindOf o ≠ 2 := by rw [hk0]; decide
            have hbrk : ∀ (L : Array Bool), Closed .any ops L → ∀ (s : Nat) (os : Oper), ops[s]? = some os → kindOf os = 2 → s ∈ Region.ready .any ops L → L.getD i false = true := by
              intro L hcl s os hs hks hrdy
              unfold waitsFor at hwt
              have hm : os ∈ ops.toList := by
                rw [← Array.getElem?_toList] at hs
                exact List.mem_of_getElem? hs
              have := List.all_eq_true.1 hwt os hm
              rw [hks] at this
              have this : waitsOn ops 4 os i = true := this
              obtain ⟨_, oj, hoj, hall⟩ := mem_ready.1 hrdy
              rw [hs] at hoj
              cases hoj
              exact waitsOn_done hcl 4 os this hall
            unfold mdrawL at h
            rw [hi] at h
            dsimp only at h
            have nb : ¬ Broke ops L → ¬ Broke ops (L.setIfInBounds i true) := fun hb k => hb (broke_set hi hk2 k)
            rcases mgd_sound h with ⟨h1, hw⟩ | ⟨h1, hw⟩
            · obtain ⟨st1, h2, s2⟩ := mquiet_sound (show mquiet P o (mdrawL P C Cc ops pl' K) st = some r from h1)
              obtain ⟨st', h3, s3⟩ := ih _ _ _ _ _ _ _ hp' h2
              refine ⟨st', h3, fun {X S β a w Q} hcl hr hq hQ hb1 hb2 => ?_⟩
              obtain ⟨v, hv, S1, β1, hr1⟩ := s2 hr
              exact wpG_first hi hk2 (Region.noSelect_spec hsel) hQ hbrk n L a w hcl (Region.free_spec hi hfree) hmem (hb2 rfl) (.inl ⟨hw hr, hv⟩) (Stay.refl w) (s3 (hcl.step hmem) hr1 hq hQ (fun h => by cases h) (fun _ => nb (hb2 rfl)))
            · obtain ⟨st', h3, s3⟩ := ih _ _ _ _ _ _ _ hp' h1
              refine ⟨st', h3, fun {X S β a w Q} hcl hr hq hQ hb1 hb2 => ?_⟩
              exact wpG_first hi hk2 (Region.noSelect_spec hsel) hQ hbrk n L a w hcl (Region.free_spec hi hfree) hmem (hb2 rfl) (.inr ⟨hw hr, rfl⟩) (Stay.refl w) (s3 (hcl.step hmem) (hr.put o.dst .undef) hq hQ (fun h => by cases h) (fun _ => nb (hb2 rfl)))
          · cases htk
      · split at hp
        · rename_i o hi hfn
          -- forced
          have forced : ∀ (br' : Bool) (tag : Nat) (pl' : List (Nat × Nat)), mplan ops k n (L.setIfInBounds j true) br' = some pl' → pl = (j, tag) :: pl' → (br' = false → kindOf o ≠ 2 ∧ broke = false) → (br' = true → broke = true ∨ kindOf o = 2) → (br' = true → tag = 2) → (br' = false → tag = 1 ∨ tag = 3) →
              ∃ st', K st' = some r ∧ Good P ops (n + 1) L broke st st' := by
            intro br' tag pl' hp' hpl hf ht htag ftag
            subst hpl
            unfold mdrawL at h
            rw [hi] at h
            dsimp only at h
            have hjm : j ∈ Region.ready .any ops L := by rw [hrd]; exact List.mem_singleton.2 rfl
            have hjl := (ready_lt hjm).2
            have bt : br' = true → (broke = true → Broke ops L) → Broke ops (L.setIfInBounds j true) := fun hbt hb1 => by
              rcases ht hbt with hb | hk
              · obtain ⟨s, os, k1, k2, k3⟩ := hb1 hb
                exact ⟨s, os, k1, k2, getD_set_true k3⟩
              · exact ⟨j, o, hi, hk, by simp [hjl]⟩
            have bf : br' = false → (broke = false → ¬ Broke ops L) → ¬ Broke ops (L.setIfInBounds j true) := fun hbf hb2 k => hb2 (hf hbf).2 (broke_set hi (hf hbf).1 k)
            have next : ∀ {st1 st' : St El}, Good P ops n (L.setIfInBounds j true) br' st1 st' → ∀ {X : Ctx El} {S β a w w0} {Q : Exit → Act → World → Prop}, Closed .any ops L → Rel X st1 S β a w → After P X st' Q → (∀ c a w, ¬ Q (.panic c) a w) → (broke = true → Broke ops L) → (broke = false → ¬ Broke ops L) → (Stay w0 w ∨ br' = true) →
                SB ops w0 (L.setIfInBounds j true) w ∧ wpG P .any ops Q (SB ops w0) n (L.setIfInBounds j true) a w := by
              intro st1 st' s3 X S β a w w0 Q hcl hr hq hQ hb1 hb2 hst
              have hg := s3 (hcl.step hjm) hr hq hQ (fun hbt => bt hbt hb1) (fun hbf => bf hbf hb2)
              rcases hst with hst | hbt
              · exact ⟨.inr hst, wpG_mono n _ _ _ (fun L' w' he k => k.imp id (fun k => hst.trans k)) hg⟩
              · refine ⟨.inl (bt hbt hb1), wpG_mono n _ _ _ (fun L' w' he k => .inl ?_) hg⟩
                obtain ⟨s, os, k1, k2, k3⟩ := bt hbt hb1
                exact ⟨s, os, k1, k2, he s k3⟩
            rcases mgd_sound h with ⟨h1, hw⟩ | ⟨h1, hw⟩
            · cases br' with
              | true =>
                have e := htag rfl
                subst e
                obtain ⟨st1, h2, s2⟩ := mop_sound hC (show mop P C o (mdrawL P C Cc ops pl' K) st = some r from h1)
                obtain ⟨st', h3, s3⟩ := ih _ _ _ _ _ _ _ hp' h2
                refine ⟨st', h3, fun {X S β a w Q} hcl hr hq hQ hb1 hb2 => wpG_all hrd (wpOp_yes hi (hw hr) ?_)⟩
                exact Oper.wp_mono (fun a' w' ⟨S1, β1, hr1⟩ => next s3 hcl hr1 hq hQ hb1 hb2 (.inr rfl)) (s2 hr Q)
              | false =>
                rcases ftag rfl with e | e
                · subst e
                  obtain ⟨st1, h2, s2⟩ := mcalm_sound hCc (show mcalm P Cc o (mdrawL P C Cc ops pl' K) st = some r from h1)
                  obtain ⟨st', h3, s3⟩ := ih _ _ _ _ _ _ _ hp' h2
                  refine ⟨st', h3, fun {X S β a w Q} hcl hr hq hQ hb1 hb2 => wpG_all hrd (wpOp_yes hi (hw hr) ?_)⟩
                  exact Oper.wp_mono (fun a' w' ⟨⟨S1, β1, hr1⟩, hst⟩ => next s3 hcl hr1 hq hQ hb1 hb2 (.inl hst)) (s2 hr Q)
                · subst e
                  obtain ⟨st1, h2, s2⟩ := mquiet_sound (show mquiet P o (mdrawL P C Cc ops pl' K) st = some r from h1)
                  obtain ⟨st', h3, s3⟩ := ih _ _ _ _ _ _ _ hp' h2
                  refine ⟨st', h3, fun {X S β a w Q} hcl hr hq hQ hb1 hb2 => wpG_all hrd (wpOp_yes hi (hw hr) ?_)⟩
                  obtain ⟨v, hv, S1, β1, hr1⟩ := s2 hr
                  unfold Oper.wp
                  rw [hv w (Stay.refl w)]
                  exact next s3 hcl hr1 hq hQ hb1 hb2 (.inl (Stay.refl w))
            · obtain ⟨st', h3, s3⟩ := ih _ _ _ _ _ _ _ hp' h1
              refine ⟨st', h3, fun {X S β a w Q} hcl hr hq hQ hb1 hb2 => wpG_all hrd (wpOp_no hi (hw hr) ?_)⟩
              exact next s3 hcl (hr.put o.dst .undef) hq hQ hb1 hb2 (.inl (Stay.refl w))
          split at hp
          · rename_i hk
            obtain ⟨pl', hp', e⟩ := map_some hp
            exact forced false 3 pl' hp' e (fun _ => ⟨by rw [hk]; decide, rfl⟩) (fun h => by cases h) (fun h => by cases h) (fun _ => .inr rfl)
          · rename_i hk
            obtain ⟨pl', hp', e⟩ := map_some hp
            exact forced false 1 pl' hp' e (fun _ => ⟨by rw [hk]; decide, rfl⟩) (fun h => by cases h) (fun h => by cases h) (fun _ => .inl rfl)
          · rename_i hk
            obtain ⟨pl', hp', e⟩ := map_some hp
            exact forced true 2 pl' hp' e (fun h => by cases h) (fun _ => .inr hk) (fun _ => rfl) (fun h => by cases h)
          · obtain ⟨pl', hp', e⟩ := map_some hp
            exact forced true 2 pl' hp' e (fun h => by cases h) (fun _ => .inl rfl) (fun _ => rfl) (fun h => by cases h)
          · cases hp
        · split at hp
          · rename_i cs F Le hmg
            obtain ⟨hble, hp⟩ := cond_some hp
            have hble := Nat.le_of_ble_eq_true hble
            obtain ⟨pl', hp', rfl⟩ := map_some hp
            obtain ⟨hst, hok⟩ := mgroup_spec hmg
            obtain ⟨g1, g2, g3, g4⟩ := okStat_spec hst
            unfold groupPlan at h
            rw [List.append_assoc, List.append_assoc] at h
            obtain ⟨h1, hlen⟩ := deads_run g1 h
            obtain ⟨stm, h2, hrun⟩ := chain_run hC hCc g1 g3 h1
            obtain ⟨hz, ste, h3, hin⟩ := floats_run g1 g4 h2
            obtain ⟨st', h4, hgood⟩ := ih _ _ _ _ _ _ _ hp' h3
            refine ⟨st', h4, fun {X S β a w Q} hcl hr hq hQ hb1 hb2 => ?_⟩
            have e : n + 1 = (cs.length + F.length) + (n + 1 - (cs.length + F.length)) := by omega
            show wpG P .any ops Q (SB ops w) (n + 1) L a w
            rw [e]
            refine group_wp (X := X) (calm := !broke) (stm := stm) (Lend := Le) (F0 := F) (w0 := w) g1 g2 hz ?_ (cs.length + F.length) L cs F (deads ops F st) S β a w (fun _ => 0) hcl hok hrun (fun f hf => hf) (fun f hf => ⟨deads_dead ops F st f hf (hlen f hf), by rw [deads_len]; exact hlen f hf⟩) (hr.deads F) ⟨fun f hf => absurd hf.1 hf.2, fun f g hf => absurd hf.1 hf.2⟩ (fun hc => hb1 (by simpa using hc)) (fun hc => ⟨hb2 (by simpa using hc), Stay.refl w⟩)
            intro S1 β1 a1 w1 ρ k0 k1 k2 k3 k4
            obtain ⟨β2, k5⟩ := hin k1 k2
            have hg := hgood k0 k5 hq hQ (fun hb => k3 (by simp [hb])) (fun hb => (k4 (by simp [hb])).1)
            refine wpG_mono _ _ _ _ (fun L' w' he k => ?_) hg
            cases hbr : broke with
            | true =>
              obtain ⟨s, os, q1, q2, q3⟩ := k3 (by simp [hbr])
              exact .inl ⟨s, os, q1, q2, he s q3⟩
            | false => exact k.imp id (fun k => (k4 (by simp [hbr])).2.trans k)
          · cases hp
end Go.M
namespace Go.M
set_option linter.unusedVariables false
set_option linter.unusedSectionVars false
open Uni
variable {El : Nat → Type} [Uni El] [UniOK El] {R : Type}
def mdraw (P : Program) (C Cc : St El → Nat → List (D El) → (St El → D El → Option R) → Option R) (id : Nat) (l : List Oper) (K : St El → Option R) (st : St El) : Option R :=
  cond (Region.noSelect l.toArray)
    (match mplan l.toArray (l.length + 1) l.length (Array.replicate l.length false) false with
    | some pl => mdrawL P C Cc l.toArray pl K st
    | none => none) none
theorem mdraw_sound {P : Program} {C Cc : St El → Nat → List (D El) → (St El → D El → Option R) → Option R} (hm : P.follows .mixedOrders = true) (hC : CallOK P C) (hCc : CalmOK P Cc) {id : Nat} {ops : Array Oper} {K : St El → Option R} {st : St El} {r : R} (h : mdraw P C Cc id ops.toList K st = some r) : ∃ st', K st' = some r ∧
    ∀ {X : Ctx El} {S β a w} {Q : Exit → Act → World → Prop}, Rel X st S β a w → After P X st' Q → (∀ c a w, Q (.panic c) a w ↔ False) → (Code.region id ops true).wp P Q a w := by
  unfold mdraw at h
  obtain ⟨hs, h1⟩ := cond_some h
  split at h1
  · rename_i pl hpl
    rw [Array.toArray_toList] at hs hpl h1
    obtain ⟨st', h2, s2⟩ := mdrawL_sound hC hCc hs _ _ _ _ _ _ _ _ hpl h1
    refine ⟨st', h2, fun {X S β a w Q} hr hq hQ => wp_region_any hm ?_⟩
    have hr' : Rel X st S β a { w with drawn := w.drawn + 1 } := hr.world rfl rfl rfl rfl
    have := s2 (by
      intro s os _ h3
      rw [Array.getD_eq_getD_getElem?, Array.getElem?_replicate] at h3
      split at h3 <;> cases h3) hr' hq (fun c a w k => (hQ c a w).1 k) (fun h => by cases h) (fun _ => by
      rintro ⟨s, o, _, _, h3⟩
      rw [Array.getD_eq_getD_getElem?, Array.getElem?_replicate] at h3
      split at h3 <;> cases h3)
    exact wpG_any _ _ _ _ this
  · cases h1
def envOf (P : Program) (tab : Tab El) (R : Type) (J : Nat → Bool) (W : Nat → St El → Option (St El)) (X : Nat → MX → St El → Option (St El)) : Env El R :=
  { P := P, C := mcall tab, W := W, X := X, draw := mdraw P (mcall tab) (mcalmCall tab), J := J }
theorem envOf_ok {P : Program} (hm : P.follows .mixedOrders = true) {tab : Tab El} (ht : TabOK P tab) {J : Nat → Bool} {W : Nat → St El → Option (St El)} {X : Nat → MX → St El → Option (St El)} {q : Nat} (hw : ∀ b, WOK q (W b)) (hx : ∀ b e, WOK q (X b e)) : EnvOK q (envOf P tab R J W X) :=
  ⟨mcall_ok ht, hw, hx, fun h => mdraw_sound hm (mcall_ok ht) (mcalmCall_ok ht) h⟩
end Go.M
namespace Go.M
set_option linter.unusedVariables false
set_option linter.unusedSectionVars false
variable {El : Nat → Type} [Uni El]
def rdInt {El : Nat → Type} (k : IntKind) : D El → Option Int
  | .int k' n => if k' = k then some n else none
  | _ => none
def rdBool {El : Nat → Type} : D El → Option Bool
  | .bool b => some b
  | _ => none
def rdStr {El : Nat → Type} : D El → Option ByteArray
  | .str s => some s
  | _ => none
def rdSl {El : Nat → Type} (t : Nat) : D El → Option (List (El t))
  | .frz t' l => if h : t' = t then some (h ▸ l) else none
  | .nilsl => some []
  | _ => none
def Told1 (d d' : D El) : Prop := ∀ w S β v, VRel w S β v d → VRel w S β v d'
theorem rdInt_told {k : IntKind} {d : D El} {x : Int} (h : rdInt k d = some x) : Told1 d (.int k x) := by
  unfold rdInt at h
  split at h
  · split at h
    · rename_i e; subst e; cases h; exact fun _ _ _ _ k => k
    · cases h
  · cases h
theorem rdBool_told {d : D El} {x : Bool} (h : rdBool d = some x) : Told1 d (.bool x) := by
  unfold rdBool at h
  split at h
  · cases h; exact fun _ _ _ _ k => k
  · cases h
theorem rdStr_told {d : D El} {x : ByteArray} (h : rdStr d = some x) : Told1 d (.str x) := by
  unfold rdStr at h
  split at h
  · cases h; exact fun _ _ _ _ k => k
  · cases h
theorem rdSl_told {t : Nat} {d : D El} {x : List (El t)} (h : rdSl t d = some x) : Told1 d (.frz t x) := by
  unfold rdSl at h
  split at h
  · split at h
    · rename_i e; subst e; cases h; exact fun _ _ _ _ k => k
    · cases h
  · cases h; exact fun _ _ _ _ k => by cases k; exact .frz0 _ _ _
  · cases h
def ToldL : List (D El) → List (D El) → Prop
  | [], [] => True
  | d :: r, d' :: r' => Told1 d d' ∧ ToldL r r'
  | _, _ => False
theorem ToldL.len : ∀ {l l' : List (D El)}, ToldL l l' → l.length = l'.length
  | [], [], _ => rfl
  | d :: r, d' :: r', h => by simp [ToldL.len h.2]
  | [], _ :: _, h => h.elim
  | _ :: _, [], h => h.elim
theorem ToldL.get : ∀ {l l' : List (D El)}, ToldL l l' → ∀ (j : Nat) d d', l[j]? = some d → l'[j]? = some d' → Told1 d d'
  | [], [], _, j, d, d', h, _ => by simp at h
  | x :: r, x' :: r', h, 0, d, d', h1, h2 => by simp at h1 h2; subst h1; subst h2; exact h.1
  | x :: r, x' :: r', h, j + 1, d, d', h1, h2 => ToldL.get h.2 j d d' (by simpa using h1) (by simpa using h2)
  | [], _ :: _, h, _, _, _, _, _ => h.elim
  | _ :: _, [], h, _, _, _, _, _ => h.elim
theorem bind_some'' {α β : Type} {x : Option α} {f : α → Option β} {y : β} (h : x.bind f = some y) : ∃ z, x = some z ∧ f z = some y := by
  cases x with
  | none => cases h
  | some z => exact ⟨z, rfl, h⟩
end Go.M
namespace Go.M
set_option linter.unusedVariables false
set_option linter.unusedSectionVars false
open Uni Go.RowKit
variable {El : Nat → Type} [Uni El] [UniOK El]
theorem FnOK.walk {P : Program} {f t : Nat} {A T : Type} {decA : List (D El) → List (Nat × MObj El) → Nat → Option A} {F : A → Option T} {outOf : T → Out El} (h : FnOK P f 0 (specOf decA F outOf))
    {l : List (El t)} {a : A} {y : T} (hd : decA [.frz t l] [] 0 = some a) (hF : F a = some y) {b : Bool} (ho : (outOf y).res = .bool b) {w : World} {S : Nat → Prop} {v : Value} (hv : VRel w S (fun _ => none) v (.frz t l : D El)) (hS : ∀ r, S r → r < w.heap.size) (hL : LaidAt El w S) :
    Calls P f #[v] w fun e w' => e = .returned (.bool b) ∧ Below w.heap.size w w' := by
  obtain ⟨out, hk, s⟩ := h T [.frz t l] [] 0 (fun o => some y) y (by unfold specOf; rw [hd]; simp [hF])
  have hk2 : out = outOf y ∨ True := .inr trivial
  have h2 := h (Out El) [.frz t l] [] 0 some (outOf y) (by unfold specOf; rw [hd]; simp [hF])
  obtain ⟨out2, e2, s2⟩ := h2
  cases e2
  refine (s2 w S (fun _ => none) #[v] ?_ ?_ (fun i hi => by omega)).mono ?_
  · exact PtL.cons hv ⟨rfl, fun i v d p q => by simp at q⟩
  · exact ⟨fun o => trivial, fun o1 o2 v1 v2 r l1 => (by cases l1), fun o v r l1 => (by cases l1), fun o _ => rfl, hS, hL⟩
  · rintro e w' ⟨v', S', γ, rfl, g1, g2, g3, g4, g5, g6, g7⟩
    rw [ho] at g1
    cases g1
    refine ⟨rfl, g3.os, g3.tape, g3.output, g3.size, fun k hk => g3.block k hk ?_⟩
    rintro ⟨o, l1, _⟩
    cases l1
theorem row_rel {k : IntKind} {t : Nat} {w : World} {a : Option Addr} {len cap : Nat} {zs : List Int} {l : List (El t)} (hwid : width El t = 1) (hl : l.length = len)
    (henc : ∀ (i : Nat) (x : El t), l[i]? = some x → ∃ n, zs[i]? = some n ∧ enc t x = [.int k n])
    (h : (a = none ∧ len = 0 ∧ cap = 0 ∧ zs = []) ∨ ∃ x, a = some x ∧ len ≤ cap ∧ zs.length = cap ∧ ∀ i, i < zs.length → w.cell? (x.add i) = some (.int k (zs.getD i 0))) :
    VRel w (fun r => r < w.heap.size) (fun _ => none) (.slice a len cap) (.frz t l : D El) := by
  rcases l with _ | ⟨x0, l'⟩
  · simp at hl
    subst hl
    exact .frz0 _ _ _
  · rcases h with ⟨_, h0, _, _⟩ | ⟨x, rfl, hlc, hz, hcell⟩
    · simp [h0] at hl
    · have h0 := hcell 0 (by rw [hz]; simp at hl; omega)
      have hx : ∃ C ty fr, w.heap[x.block]? = some (.cells C ty fr) ∧ x.spot = none := by
        unfold World.cell? at h0
        have eb : (x.add 0).block = x.block := rfl
        rw [eb] at h0
        split at h0
        · rename_i C ty fr hC
          split at h0
          · cases h0
          · rename_i hs
            refine ⟨C, ty, fr, hC, ?_⟩
            have es : (x.add 0).spot = x.spot := rfl
            rw [es] at hs
            cases hsp : x.spot with
            | none => rfl
            | some _ => rw [hsp] at hs; simp at hs
        · cases h0
      obtain ⟨C, ty, fr, hC, hsp⟩ := hx
      obtain ⟨r, o, spt⟩ := x
      cases hsp
      subst hl
      refine .frz r o cap t (x0 :: l') C ty fr (fun i _ => .int k (zs.getD i 0)) ((Array.getElem?_eq_some_iff.1 hC).1) hC ?_ ?_ hlc
      · intro i y j d hi hj
        obtain ⟨n, hn, he⟩ := henc i y hi
        rw [he] at hj
        have hlt : i < zs.length := (List.getElem?_eq_some_iff.1 hn).1
        have hc := hcell i hlt
        have hj0 : j = 0 := by
          have := (List.getElem?_eq_some_iff.1 hj).1
          simpa using this
        subst hj0
        rw [hwid]
        have ea : (Addr.mk r o none).add i = ⟨r, o + i, none⟩ := by rw [add_off]
        rw [ea, cell_of_row w r _ C ty fr hC] at hc
        simpa using hc
      · intro i y j d hi hj
        obtain ⟨n, hn, he⟩ := henc i y hi
        rw [he] at hj
        have hj0 : j = 0 := by
          have := (List.getElem?_eq_some_iff.1 hj).1
          simpa using this
        subst hj0
        simp at hj
        subst hj
        have : zs.getD i 0 = n := by rw [List.getD_eq_getElem?_getD, hn]; rfl
        rw [this]
        exact .int k n
end Go.M
namespace Go.M
set_option linter.unusedVariables false
set_option linter.unusedSectionVars false
open Uni Go.RowKit
variable {El : Nat → Type} [Uni El] [UniOK El]
theorem FnOK.plain {P : Program} {f : Nat} {A T : Type} {decA : List (D El) → List (Nat × MObj El) → Nat → Option A} {F : A → Option T} {outOf : T → Out El} (h : FnOK P f 0 (specOf decA F outOf))
    {ds : List (D El)} {a : A} {y : T} (hd : decA ds [] 0 = some a) (hF : F a = some y) {vs : Array Value} {v : Value} (hds : ∀ (w : World) S β, PtL w S β vs.toList ds) (hres : ∀ (w : World) S β v', VRel w S β v' (outOf y).res → v' = v) {w : World} (hL : LaidAt El w (fun r => r < w.heap.size)) :
    Calls P f vs w fun e w' => e = .returned v ∧ Below w.heap.size w w' := by
  have h2 := h (Out El) ds [] 0 some (outOf y) (by unfold specOf; rw [hd]; simp [hF])
  obtain ⟨out2, e2, s2⟩ := h2
  cases e2
  refine (s2 w (fun r => r < w.heap.size) (fun _ => none) vs (hds _ _ _) ?_ (fun i hi => by omega)).mono ?_
  · exact ⟨fun o => trivial, fun o1 o2 v1 v2 r l1 => (by cases l1), fun o v r l1 => (by cases l1), fun o _ => rfl, fun r h => h, hL⟩
  · rintro e w' ⟨v', S', γ, rfl, g1, g2, g3, g4, g5, g6, g7⟩
    rw [hres _ _ _ _ g1]
    refine ⟨rfl, g3.os, g3.tape, g3.output, g3.size, fun k hk => g3.block k hk ?_⟩
    rintro ⟨o, l1, _⟩
    cases l1
theorem LaidAt.below {w w' : World} (h : LaidAt El w (fun r => r < w.heap.size)) (hb : Below w.heap.size w w') : LaidAt El w' (fun r => r < w'.heap.size) :=
  ⟨Uni.dep w w' (fun r hr => hb.block r (h.stays r hr).2) h.holds, fun r hr => ⟨Nat.lt_of_lt_of_le (h.stays r hr).2 hb.size, Nat.lt_of_lt_of_le (h.stays r hr).2 hb.size⟩⟩
end Go.M
