/-
  The machine M, part 2: symbolic runs of the given code over data, and that they are what the code does. No condition.
-/
import Derived.Test.YtdagocpgefjmdaaDoorWaM0
set_option linter.unusedVariables false
set_option linter.unusedSectionVars false
set_option linter.unusedSimpArgs false
namespace Go.M
set_option linter.unusedVariables false
set_option linter.unusedSectionVars false
open Uni
variable {El : Nat → Type} [Uni El] [UniOK El] {R : Type}
def ren0 (f : Nat → Option Nat) : D El → Option (D El)
  | .all o k => match f o with | some o' => some (.all o' k) | none => none
  | .sl o k off len => match f o with | some o' => some (.sl o' k off len) | none => none
  | .ptr o k i c => match f o with | some o' => some (.ptr o' k i c) | none => none
  | .mapr o => match f o with | some o' => some (.mapr o') | none => none
  | .agg _ => none
  | .tup _ => none
  | .fn _ _ => none
  | d => some d
def rens0 (f : Nat → Option Nat) : List (D El) → Option (List (D El))
  | [] => some []
  | d :: r => match ren0 f d with
    | some d' => match rens0 f r with
      | some r' => some (d' :: r')
      | none => none
    | none => none
def ren1 (f : Nat → Option Nat) : D El → Option (D El)
  | .agg l => match rens0 f l with | some l' => some (.agg l') | none => none
  | .fn g l => match rens0 f l with | some l' => some (.fn g l') | none => none
  | .tup _ => none
  | d => ren0 f d
def rens1 (f : Nat → Option Nat) : List (D El) → Option (List (D El))
  | [] => some []
  | d :: r => match ren1 f d with
    | some d' => match rens1 f r with
      | some r' => some (d' :: r')
      | none => none
    | none => none
def ren2 (f : Nat → Option Nat) : D El → Option (D El)
  | .tup l => match rens1 f l with | some l' => some (.tup l') | none => none
  | d => ren1 f d
section
variable {w : World} {S : Nat → Prop} {β γ : Beta} {f : Nat → Option Nat} (hf : ∀ o o', f o = some o' → γ o' = β o)
include hf
theorem ren0_rel {v : Value} {d d' : D El} (h : ren0 f d = some d') (hv : VRel w S β v d) : VRel w S γ v d' ∧ d'.cell = d.cell := by
  unfold ren0 at h
  split at h
  · split at h
    · rename_i o' ho
      cases h
      cases hv with
      | all _ _ p n c hb => exact ⟨.all _ _ p n c (by rw [hf _ _ ho]; exact hb), rfl⟩
    · cases h
  · split at h
    · rename_i o' ho
      cases h
      cases hv with
      | sl _ _ _ _ p n cap p' c' h1 h2 h3 h4 h5 => exact ⟨.sl _ _ _ _ p n cap p' c' (by rw [hf _ _ ho]; exact h1) h2 h3 h4 h5, rfl⟩
    · cases h
  · split at h
    · rename_i o' ho
      cases h
      cases hv with
      | ptr _ _ _ _ r base h1 h2 => exact ⟨.ptr _ _ _ _ r base (by rw [hf _ _ ho]; exact h1) h2, rfl⟩
    · cases h
  · split at h
    · rename_i o' ho
      cases h
      cases hv with
      | mapr _ r h1 => exact ⟨.mapr _ r (by rw [hf _ _ ho]; exact h1), rfl⟩
    · cases h
  · cases h
  · cases h
  · cases h
  · rename_i h1 h2 h3 h4 h5 h6 h7
    cases h
    refine ⟨?_, rfl⟩
    cases hv with
    | int k n => exact .int k n
    | bool b => exact .bool b
    | str s => exact .str s
    | nilsl => exact .nilsl
    | frz0 a c t => exact (VRel.frz0 (β := β) a c t).any rfl
    | frz r o cap t l C ty fr vs z1 z2 z3 z4 z5 => exact (VRel.frz (β := β) r o cap t l C ty fr vs z1 z2 z3 z4 z5).any rfl
    | fptr r o t l i c C ty fr vs z1 z2 z3 z4 => exact .fptr r o t l i c C ty fr vs z1 z2 z3 (fun i x j d a b => (z4 i x j d a b).any (enc_pure t x d (List.mem_of_getElem? b)))
    | nilptr => exact .nilptr
    | nilfn => exact .nilfn
    | niliface => exact .niliface
    | nilmap => exact .nilmap
    | dead v => exact .dead v
    | agg => exact absurd rfl (h5 _)
    | tup => exact absurd rfl (h6 _)
    | fn => exact absurd rfl (h7 _ _)
    | sl => exact absurd rfl (h2 _ _ _ _)
    | all => exact absurd rfl (h1 _ _)
    | ptr => exact absurd rfl (h3 _ _ _ _)
    | mapr => exact absurd rfl (h4 _)
omit hf [UniOK El] in
theorem rens0_get : ∀ {l l' : List (D El)}, rens0 f l = some l' → l'.length = l.length ∧ ∀ (i : Nat) d', l'[i]? = some d' → ∃ d, l[i]? = some d ∧ ren0 f d = some d'
  | [], l', h => by simp [rens0] at h; subst h; exact ⟨rfl, fun i d' q => by simp at q⟩
  | d :: r, l', h => by
    unfold rens0 at h
    split at h
    · rename_i d1 h1
      split at h
      · rename_i r1 h2
        cases h
        obtain ⟨i1, i2⟩ := rens0_get h2
        refine ⟨by simp [i1], fun i d' q => ?_⟩
        cases i with
        | zero => simp at q; subst q; exact ⟨d, rfl, h1⟩
        | succ i => simp at q; obtain ⟨e, a1, a2⟩ := i2 i d' q; exact ⟨e, by simpa using a1, a2⟩
      · cases h
    · cases h
omit hf [UniOK El] in
theorem rens1_get : ∀ {l l' : List (D El)}, rens1 f l = some l' → l'.length = l.length ∧ ∀ (i : Nat) d', l'[i]? = some d' → ∃ d, l[i]? = some d ∧ ren1 f d = some d'
  | [], l', h => by simp [rens1] at h; subst h; exact ⟨rfl, fun i d' q => by simp at q⟩
  | d :: r, l', h => by
    unfold rens1 at h
    split at h
    · rename_i d1 h1
      split at h
      · rename_i r1 h2
        cases h
        obtain ⟨i1, i2⟩ := rens1_get h2
        refine ⟨by simp [i1], fun i d' q => ?_⟩
        cases i with
        | zero => simp at q; subst q; exact ⟨d, rfl, h1⟩
        | succ i => simp at q; obtain ⟨e, a1, a2⟩ := i2 i d' q; exact ⟨e, by simpa using a1, a2⟩
      · cases h
    · cases h
theorem ren1_rel {v : Value} {d d' : D El} (h : ren1 f d = some d') (hv : VRel w S β v d) : VRel w S γ v d' := by
  unfold ren1 at h
  split at h
  · split at h
    · rename_i l l' hl
      cases h
      obtain ⟨i1, i2⟩ := rens0_get hl
      cases hv with
      | agg vs _ a1 a2 a3 =>
        refine .agg vs l' (by rw [i1]; exact a1) (fun i v d p q => ?_) (fun d hd => ?_)
        · obtain ⟨e, b1, b2⟩ := i2 i d q
          exact (ren0_rel hf b2 (a2 i v e p b1)).1
        · obtain ⟨i, hi⟩ := List.mem_iff_getElem?.1 hd
          obtain ⟨e, b1, b2⟩ := i2 i d hi
          have hlt : i < vs.size := by rw [a1, ← i1]; exact (List.getElem?_eq_some_iff.1 hi).1
          rw [(ren0_rel hf b2 (a2 i vs[i] e (by simp [hlt]) b1)).2]
          exact a3 e (List.mem_of_getElem? b1)
    · cases h
  · split at h
    · rename_i l' hl
      cases h
      obtain ⟨i1, i2⟩ := rens0_get hl
      cases hv with
      | fn _ _ vs a1 a2 =>
        refine .fn _ l' vs (by rw [i1]; exact a1) (fun i v d p q => ?_)
        obtain ⟨e, b1, b2⟩ := i2 i d q
        exact (ren0_rel hf b2 (a2 i v e p b1)).1
    · cases h
  · cases h
  · exact (ren0_rel hf h hv).1
theorem ren2_rel {v : Value} {d d' : D El} (h : ren2 f d = some d') (hv : VRel w S β v d) : VRel w S γ v d' := by
  unfold ren2 at h
  split at h
  · split at h
    · rename_i l l' hl
      cases h
      obtain ⟨i1, i2⟩ := rens1_get hl
      cases hv with
      | tup vs _ a1 a2 =>
        refine .tup vs l' (by rw [i1]; exact a1) (fun i v d p q => ?_)
        obtain ⟨e, b1, b2⟩ := i2 i d q
        exact ren1_rel hf b2 (a2 i v e p b1)
    · cases h
  · exact ren1_rel hf h hv
end
def renO (f : Nat → Option Nat) : MObj El → Option (MObj El)
  | .box ty cells => match rens0 f cells with | some c => some (.box ty c) | none => none
  | .arr t l => some (.arr t l)
  | .ice t l => some (.ice t l)
  | .gone => some .gone
  | .map kk g e l => some (.map kk g e l)
theorem MVal.any {w : World} {S : Nat → Prop} {β γ : Beta} {g : Bool} {e : Nat} {v : Value} {x : El e} (h : MVal w S β g e v x) : MVal w S γ g e v x := by
  cases g with
  | true =>
    have h : VRel w S β v (.agg (enc e x)) := h
    show VRel w S γ v (.agg (enc e x))
    cases h with
    | agg vs _ h1 h2 h3 => exact .agg vs _ h1 (fun i v d p q => (h2 i v d p q).any (enc_pure _ x d (List.mem_of_getElem? q))) h3
  | false =>
    obtain ⟨d, h1, h2⟩ := h
    exact ⟨d, h1, h2.any (enc_pure _ x d (by rw [h1]; exact List.mem_singleton.2 rfl))⟩
theorem renO_rel {w : World} {S : Nat → Prop} {β γ : Beta} {f : Nat → Option Nat} (hf : ∀ o o', f o = some o' → γ o' = β o) {o o' : Nat} (ho : γ o' = β o) {x x' : MObj El} (h : renO f x = some x') (hx : ORel w S β o x) : ORel w S γ o' x' ∧ x'.live = x.live ∧ x'.live = (x'.live && x.live) := by
  unfold renO at h
  split at h
  · split at h
    · rename_i ty cells c hc
      cases h
      obtain ⟨r, C, h1, h2, h3, h4⟩ := hx
      obtain ⟨i1, i2⟩ := rens0_get hc
      refine ⟨⟨r, C, by rw [ho]; exact h1, h2, by rw [i1]; exact h3, fun i v d p q => ?_⟩, rfl, rfl⟩
      obtain ⟨e, b1, b2⟩ := i2 i d q
      obtain ⟨k1, k2⟩ := h4 i v e p b1
      obtain ⟨k3, k4⟩ := ren0_rel hf b2 k1
      exact ⟨k3, by rw [k4]; exact k2⟩
    · cases h
  · cases h
    obtain ⟨v, vs, h1, h2, h3⟩ := hx
    exact ⟨⟨v, vs, by rw [ho]; exact h1, h2, fun i x j d a b => by obtain ⟨u, k1, k2⟩ := h3 i x j d a b; exact ⟨u, k1, k2.any (enc_pure _ x d (List.mem_of_getElem? b))⟩⟩, rfl, rfl⟩
  · cases h
    obtain ⟨v, vs, h1, h2, h3, h4⟩ := hx
    exact ⟨⟨v, vs, by rw [ho]; exact h1, h2, (fun i x j d a b => by obtain ⟨u, k1, k2⟩ := h3 i x j d a b; exact ⟨u, k1, k2.any (enc_pure _ x d (List.mem_of_getElem? b))⟩), h4⟩, rfl, rfl⟩
  · cases h
    exact ⟨trivial, rfl, rfl⟩
  · cases h
    obtain ⟨r, es, ck, h1, h2, h3, h4⟩ := hx
    exact ⟨⟨r, es, ck, by rw [ho]; exact h1, h2, h3, fun i x y p q => ⟨(h4 i x y p q).1, (h4 i x y p q).2.any⟩⟩, rfl, rfl⟩
end Go.M
namespace Go.M
set_option linter.unusedVariables false
set_option linter.unusedSectionVars false
open Uni
variable {El : Nat → Type} [Uni El] [UniOK El] {R : Type}
def refs0 : D El → List Nat
  | .all o _ => [o]
  | .sl o _ _ _ => [o]
  | .ptr o _ _ _ => [o]
  | .mapr o => [o]
  | _ => []
def refs1 : D El → List Nat
  | .agg l => l.flatMap refs0
  | .fn _ l => l.flatMap refs0
  | d => refs0 d
def refs2 : D El → List Nat
  | .tup l => l.flatMap refs1
  | d => refs1 d
def robj : MObj El → List Nat
  | .box _ cells => cells.flatMap refs0
  | _ => []
def memN : Nat → List Nat → Bool
  | _, [] => false
  | o, x :: r => cond (Nat.beq x o) true (memN o r)
def nodupN : List Nat → Bool
  | [] => true
  | x :: r => cond (memN x r) false (nodupN r)
def reach (objs : List (Nat × MObj El)) : Nat → List Nat → List Nat → List Nat
  | 0, _, seen => seen
  | _ + 1, [], seen => seen
  | k + 1, o :: r, seen => cond (memN o seen) (reach objs k r seen) (reach objs k (r ++ robj (look objs o)) (seen ++ [o]))
def idxIn : List Nat → Nat → Nat → Option Nat
  | [], _, _ => none
  | x :: r, n, o => cond (Nat.beq x o) (some n) (idxIn r (n + 1) o)
theorem idxIn_get : ∀ {l : List Nat} {n o i : Nat}, idxIn l n o = some i → n ≤ i ∧ l[i - n]? = some o
  | [], n, o, i, h => by cases h
  | x :: r, n, o, i, h => by
    unfold idxIn at h
    cases hb : Nat.beq x o with
    | true =>
      rw [hb] at h
      cases h
      have := beq_true hb
      subst this
      exact ⟨Nat.le_refl _, by simp⟩
    | false =>
      rw [hb] at h
      obtain ⟨h1, h2⟩ := idxIn_get (n := n + 1) h
      refine ⟨by omega, ?_⟩
      have : i - n = (i - (n + 1)) + 1 := by omega
      rw [this, List.getElem?_cons_succ]
      exact h2
theorem memN_iff {o : Nat} : ∀ {l : List Nat}, memN o l = true ↔ o ∈ l
  | [] => by simp [memN]
  | x :: r => by
    unfold memN
    cases hb : Nat.beq x o with
    | true => have := beq_true hb; subst this; simp
    | false => have := beq_false hb; simp [memN_iff (l := r), Ne.symm this]
theorem nodupN_iff : ∀ {l : List Nat}, nodupN l = true → ∀ i j : Nat, ∀ o, l[i]? = some o → l[j]? = some o → i = j
  | [], _, i, j, o, h, _ => by simp at h
  | x :: r, hn, i, j, o, h1, h2 => by
    unfold nodupN at hn
    cases hm : memN x r with
    | true => rw [hm] at hn; cases hn
    | false =>
      rw [hm] at hn
      have hx : x ∉ r := fun h => by rw [memN_iff.2 h] at hm; cases hm
      cases i with
      | zero =>
        simp at h1
        subst h1
        cases j with
        | zero => rfl
        | succ j => simp at h2; exact absurd (List.mem_of_getElem? h2) hx
      | succ i =>
        simp at h1
        cases j with
        | zero => simp at h2; subst h2; exact absurd (List.mem_of_getElem? h1) hx
        | succ j => simp at h2; rw [nodupN_iff hn i j o h1 h2]
def reobj (f : Nat → Option Nat) (objs : List (Nat × MObj El)) : List Nat → Nat → Option (List (Nat × MObj El))
  | [], _ => some []
  | o :: r, n =>
    match renO f (look objs o) with
    | some x => match reobj f objs r (n + 1) with
      | some l => some ((n, x) :: l)
      | none => none
    | none => none
theorem reobj_look {f : Nat → Option Nat} {objs : List (Nat × MObj El)} : ∀ {ord : List Nat} {n : Nat} {l : List (Nat × MObj El)}, reobj f objs ord n = some l →
    ∀ i, (i < n ∨ n + ord.length ≤ i → look l i = .gone) ∧ (∀ o, n ≤ i → ord[i - n]? = some o → renO f (look objs o) = some (look l i))
  | [], n, l, h, i => by
    simp [reobj] at h
    subst h
    exact ⟨fun _ => rfl, fun o _ q => by simp at q⟩
  | o :: r, n, l, h, i => by
    unfold reobj at h
    split at h
    · rename_i x hx
      split at h
      · rename_i l' hl
        cases h
        obtain ⟨i1, i2⟩ := reobj_look hl i
        rw [look_cons]
        refine ⟨fun hi => ?_, fun o' hn q => ?_⟩
        · simp only [List.length_cons] at hi
          have hne : n ≠ i := by omega
          rw [if_neg hne]
          exact i1 (by omega)
        · by_cases he : n = i
          · subst he
            simp at q
            subst q
            rw [if_pos rfl]
            exact hx
          · rw [if_neg he]
            have : i - n = (i - (n + 1)) + 1 := by omega
            rw [this, List.getElem?_cons_succ] at q
            exact i2 o' (by omega) q
      · cases h
    · cases h
def retmp (f : Nat → Option Nat) : List Bool → List (D El) → Option (List (D El))
  | _, [] => some []
  | [], _ :: ds => match retmp f [] ds with | some r => some (.dead :: r) | none => none
  | b :: bs, d :: ds =>
    match cond b (ren2 f d) (some .dead), retmp f bs ds with
    | some d', some r => some (d' :: r)
    | _, _ => none
theorem retmp_rel {w : World} {S : Nat → Prop} {β γ : Beta} {f : Nat → Option Nat} (hf : ∀ o o', f o = some o' → γ o' = β o) : ∀ {ds ds' : List (D El)} {bs : List Bool}, retmp f bs ds = some ds' →
    ds'.length = ds.length ∧ ∀ (i : Nat) v, VRel w S β v (nth ds i) → VRel w S γ v (nth ds' i) := by
  intro ds
  induction ds with
  | nil => intro ds' bs h; cases bs <;> (simp [retmp] at h; subst h; exact ⟨rfl, fun i v _ => .dead v⟩)
  | cons d ds ih =>
    intro ds' bs h
    cases bs with
    | nil =>
      simp only [retmp] at h
      split at h
      · rename_i r hr
        cases h
        obtain ⟨i1, i2⟩ := ih hr
        refine ⟨by simp [i1], fun i v hv => ?_⟩
        cases i with
        | zero => exact .dead v
        | succ i => exact i2 i v hv
      · cases h
    | cons b bs =>
      simp only [retmp] at h
      split at h
      · rename_i d' r hd hr
        cases h
        obtain ⟨i1, i2⟩ := ih hr
        refine ⟨by simp [i1], fun i v hv => ?_⟩
        cases i with
        | zero =>
          cases b with
          | false => cases hd; exact .dead v
          | true => exact ren2_rel hf hd hv
        | succ i => exact i2 i v hv
      · cases h
def mask : List Bool → List (D El) → List (D El)
  | b :: bs, d :: ds => cond b (d :: mask bs ds) (mask bs ds)
  | _, _ => []
def upto : Nat → List Nat
  | 0 => []
  | n + 1 => upto n ++ [n]
theorem upto_get : ∀ {n i : Nat}, i < n → (upto n)[i]? = some i
  | n + 1, i, h => by
    unfold upto
    have hl : ∀ n, (upto n).length = n := fun n => by induction n with | zero => rfl | succ n ih => simp [upto, ih]
    rw [List.getElem?_append, hl]
    split
    · rename_i h2; exact upto_get h2
    · have : i = n := by omega
      subst this
      simp
def isPre : Nat → List Nat → Nat → Bool
  | _, _, 0 => true
  | n, x :: r, k + 1 => cond (Nat.beq x n) (isPre (n + 1) r k) false
  | _, [], _ + 1 => false
theorem isPre_get : ∀ {k n : Nat} {l : List Nat}, isPre n l k = true → ∀ i, i < k → l[i]? = some (n + i)
  | 0, n, l, h, i, hi => by omega
  | k + 1, n, [], h, i, hi => by cases h
  | k + 1, n, x :: r, h, i, hi => by
    unfold isPre at h
    cases hb : Nat.beq x n with
    | false => rw [hb] at h; cases h
    | true =>
      rw [hb] at h
      have := beq_true hb
      subst this
      cases i with
      | zero => simp
      | succ i =>
        rw [List.getElem?_cons_succ, isPre_get h i (by omega)]
        congr 1
        omega
def betaOf (β : Beta) (ord : List Nat) : Beta := fun i => (ord[i]?).bind β
def canonWith (ord : List Nat) (q : Nat) (keep : List Bool) (st : St El) : Option (St El) :=
  cond (nodupN ord && isPre 0 ord q)
    (match reobj (idxIn ord 0) st.objs ord 0, retmp (idxIn ord 0) keep st.tmps with
    | some objs, some tmps => some ⟨tmps, objs, ord.length⟩
    | _, _ => none) none
def canon (q : Nat) (keep : List Bool) (st : St El) : Option (St El) :=
  canonWith (reach st.objs 1000 (upto q ++ (mask keep st.tmps).flatMap refs2) []) q keep st
theorem canonWith_rel {ord : List Nat} {q : Nat} {keep : List Bool} {st st' : St El} (h : canonWith ord q keep st = some st') {X : Ctx El} {S : Nat → Prop} {β : Beta} {a : Act} {w : World} (hr : Rel X st S β a w) (hq : X.q ≤ q) : Rel X st' S (betaOf β ord) a w := by
  unfold canonWith at h
  obtain ⟨hc, h0⟩ := cond_some h
  obtain ⟨hn, hp⟩ := Bool.and_eq_true_iff.1 hc
  split at h0
  · rename_i objs tmps h1 h2
    cases h0
    have hf : ∀ o o', idxIn ord 0 o = some o' → betaOf β ord o' = β o := fun o o' ho => by
      obtain ⟨_, k⟩ := idxIn_get ho
      simp only [Nat.sub_zero] at k
      unfold betaOf
      rw [k]
      rfl
    obtain ⟨t1, t2⟩ := retmp_rel (w := w) (S := S) hf h2
    have lk : ∀ i o, ord[i]? = some o → renO (idxIn ord 0) (look st.objs o) = some (look objs i) := fun i o ho => (reobj_look h1 i).2 o (Nat.zero_le _) (by simpa using ho)
    have out : ∀ i, ord[i]? = none → look objs i = .gone := fun i hi => (reobj_look h1 i).1 (.inr (by simpa using hi))
    have obj : ∀ i, ORel w S (betaOf β ord) i (look objs i) := fun i => by
      cases ho : ord[i]? with
      | none => rw [out i ho]; trivial
      | some o => exact (renO_rel hf (by unfold betaOf; rw [ho]; rfl) (lk i o ho) (hr.objs o)).1
    have back : ∀ i, (look objs i).live = true → ∃ o, ord[i]? = some o ∧ (look st.objs o).live = true := fun i hl => by
      cases ho : ord[i]? with
      | none => rw [out i ho] at hl; cases hl
      | some o => exact ⟨o, rfl, by rw [← (renO_rel hf (by unfold betaOf; rw [ho]; rfl) (lk i o ho) (hr.objs o)).2.1]; exact hl⟩
    refine ⟨by rw [t1]; exact hr.size, fun i => t2 i _ (hr.tmps i), hr.defers, obj, ?_, ?_, ?_, hr.inside, hr.stay, hr.os, hr.tape, hr.output, hr.grown, hr.frame, hr.old, ?_⟩
    · intro i1 i2 v1 v2 r l1 l2 b1 b2 k1 k2
      obtain ⟨o1, e1, e2⟩ := back i1 l1
      obtain ⟨o2, f1, f2⟩ := back i2 l2
      unfold betaOf at b1 b2
      rw [e1] at b1
      rw [f1] at b2
      have := hr.inj o1 o2 v1 v2 r e2 f2 b1 b2 k1 k2
      subst this
      exact nodupN_iff hn i1 i2 o1 e1 f1
    · intro i v r l b k
      obtain ⟨o, e1, e2⟩ := back i l
      unfold betaOf at b
      rw [e1] at b
      exact hr.away o v r e2 b k
    · intro i hi
      unfold betaOf
      rw [List.getElem?_eq_none hi]
      rfl
    · intro i hi
      obtain ⟨v, a1, a2⟩ := hr.root i hi
      refine ⟨v, a1, ?_⟩
      unfold betaOf
      rw [isPre_get hp i (by omega)]
      simpa using a2
  · cases h0
structure Out (El : Nat → Type) where
  res : D El
  objs : List (Nat × MObj El)
  next : Nat
abbrev Spec (El : Nat → Type) := (R : Type) → List (D El) → List (Nat × MObj El) → Nat → (Out El → Option R) → Option R
structure HOK (w : World) (S : Nat → Prop) (β : Beta) (objs : List (Nat × MObj El)) (next : Nat) : Prop where
  rel : ∀ (o : Nat), ORel w S β o (look objs o)
  inj : ∀ (o1 o2 : Nat) v1 v2 r, (look objs o1).live = true → (look objs o2).live = true → β o1 = some v1 → β o2 = some v2 → blkOf v1 = some r → blkOf v2 = some r → o1 = o2
  away : ∀ (o : Nat) v r, (look objs o).live = true → β o = some v → blkOf v = some r → ¬ S r
  fresh : ∀ o, next ≤ o → β o = none
  inside : ∀ r, S r → r < w.heap.size
  laid : LaidAt El w S
def Mine (β : Beta) (objs : List (Nat × MObj El)) : Nat → Prop := fun r => ∃ o, (look objs o).live = true ∧ at_ β o r
def FnOK (P : Program) (f q : Nat) (spec : Spec El) : Prop :=
  ∀ (R : Type) (ds : List (D El)) objs next (K : Out El → Option R) (r : R), spec R ds objs next K = some r → ∃ out, K out = some r ∧
    ∀ (w : World) S β (vs : Array Value), PtL w S β vs.toList ds → HOK w S β objs next → (∀ i, i < q → ∃ v, β i = some v) →
      Calls P f vs w fun e w' => ∃ v S' γ, e = .returned v ∧ VRel w' S' γ v out.res ∧ HOK w' S' γ out.objs out.next ∧ Grew w w' (Mine β objs) ∧ (∀ r, S r → S' r) ∧
        (∀ r, S' r → r < w.heap.size → S r ∨ Mine β objs r) ∧ (∀ i, i < q → γ i = β i) ∧ (∀ r, Mine γ out.objs r → r < w.heap.size → Mine β objs r)
end Go.M
namespace Go.M
set_option linter.unusedVariables false
set_option linter.unusedSectionVars false
open Uni
variable {El : Nat → Type} [Uni El] [UniOK El] {R : Type}
def mres (P : Program) (st : St El) : List ResultVar → (List (D El) → Option R) → Option R
  | [], K => K []
  | .tmp t :: r, K => mres P st r fun ds => K (nth st.tmps t :: ds)
  | .cell a t :: r, K => mderef st (nth st.tmps a) fun row c => mpart P t row c fun d => mres P st r fun ds => K (d :: ds)
def resOne (tmps : Array Value) : ResultVar → Sem Value
  | .tmp t => pure (tmps.getD t undef)
  | .cell a t => do loadVar t (← asAddr (tmps.getD a undef))
theorem mres_sound {P : Program} {st : St El} : ∀ {rs : List ResultVar} {K : List (D El) → Option R} {r : R}, mres P st rs K = some r → ∃ ds, K ds = some r ∧
    ∀ {X : Ctx El} {S β a w}, Rel X st S β a w → ∃ vs, (rs.mapM (resOne a.tmps)).run P w = .ok vs w ∧ PtL w S β vs ds := by
  intro rs
  induction rs with
  | nil => intro K r h; exact ⟨_, h, fun {X S β a w} hr => ⟨[], by simp, rfl, fun i v d q => by simp at q⟩⟩
  | cons x rs ih =>
    intro K r h
    cases x with
    | tmp t =>
      obtain ⟨ds, h1, s1⟩ := ih h
      refine ⟨_, h1, fun {X S β a w} hr => ?_⟩
      obtain ⟨vs, k1, k2⟩ := s1 hr
      exact ⟨a.tmps.getD t undef :: vs, by simp [List.mapM_cons, resOne, k1], PtL.cons (hr.tmps t) k2⟩
    | cell p t =>
      obtain ⟨row, c, h0, s0⟩ := mderef_sound h
      obtain ⟨d, h1, s1⟩ := mpart_sound h0
      obtain ⟨ds, h2, s2⟩ := ih h1
      refine ⟨_, h2, fun {X S β a w} hr => ?_⟩
      obtain ⟨vs, k1, k2⟩ := s2 hr
      have hrow := s0 hr (hr.tmps p)
      obtain ⟨u, j1, j2⟩ := s1 hrow
      have j1 := j1 w (Stay.refl w)
      obtain ⟨g, off, C, ty, fr, e, _, _⟩ := hrow
      refine ⟨u :: vs, ?_, PtL.cons j2 k2⟩
      rw [e] at j1
      simp only [Instr.loadAt, Instr.sureAddr, Sem.run_bind, Sem.run_pure, Result.andThen_ok] at j1
      simp [List.mapM_cons, resOne, e, asAddr, j1, k1]
inductive RM where
  | any
  | frz (t : Nat)
  | own (t : Nat)
  | agg
def mmode (st : St El) (m : RM) (d : D El) (K : St El → D El → Option R) : Option R :=
  match m with
  | .any => K st d
  | .frz t => match d with | .nilsl => K st (.frz t []) | d => mfreeze st d K
  | .own t => match d with | .nilsl => K (st.new (.arr t [])) (.all st.next (width El t)) | d => K st d
  | .agg => mfz st d K
theorem mmode_sound {st : St El} {m : RM} {d : D El} {K : St El → D El → Option R} {r : R} (h : mmode st m d K = some r) : ∃ st' d', K st' d' = some r ∧
    ∀ {X : Ctx El} {S β a w v}, Rel X st S β a w → VRel w S β v d → ∃ S' β', (∀ r, S r → S' r) ∧ (∀ o x, β o = some x → β' o = some x) ∧ Rel X st' S' β' a w ∧ VRel w S' β' v d' := by
  have same : ∀ {st' : St El} {d' : D El}, (∀ {X : Ctx El} {S β a w v}, Rel X st S β a w → VRel w S β v d → ∃ S', (∀ r, S r → S' r) ∧ Rel X st' S' β a w ∧ VRel w S' β v d') →
      ∀ {X : Ctx El} {S β a w v}, Rel X st S β a w → VRel w S β v d → ∃ S' β', (∀ r, S r → S' r) ∧ (∀ o x, β o = some x → β' o = some x) ∧ Rel X st' S' β' a w ∧ VRel w S' β' v d' :=
    by intro st' d' s X S β a w v hr hv; obtain ⟨S', a1, a2, a3⟩ := s hr hv; exact ⟨S', β, a1, fun _ _ h => h, a2, a3⟩
  unfold mmode at h
  split at h
  · exact ⟨_, _, h, same fun {X S β a w v} hr hv => ⟨S, fun _ h => h, hr, hv⟩⟩
  · split at h
    · exact ⟨_, _, h, same fun {X S β a w v} hr hv => ⟨S, fun _ h => h, hr, by cases hv; exact .frz0 _ _ _⟩⟩
    · obtain ⟨st', d', h1, s1⟩ := mfreeze_sound h
      exact ⟨_, _, h1, same s1⟩
  · rename_i t
    split at h
    · refine ⟨_, _, h, fun {X S β a w v} hr hv => ?_⟩
      cases hv
      obtain ⟨g1, g2⟩ := hr.newArr (Grew.refl w _) (n := 0) (t := t) (l := []) (p := none) (len := 0) (cap := 0) (vs := []) (by simpa using World.ownsRow_nil w 0 t (width El t)) (fun i x j d q => by simp at q) (fun r hr2 => by simp [blkOf] at hr2)
      refine ⟨S, _, fun _ h => h, fun o x hx => ?_, g1, g2⟩
      unfold upB
      rw [if_neg (fun e => by rw [e, hr.fresh _ (Nat.le_refl _)] at hx; cases hx)]
      exact hx
    · exact ⟨_, _, h, same fun {X S β a w v} hr hv => ⟨S, fun _ h => h, hr, hv⟩⟩
  · obtain ⟨st', d', h1, s1⟩ := mfz_sound h
    exact ⟨_, _, h1, same s1⟩
def mmodes (st : St El) : List RM → List (D El) → (St El → List (D El) → Option R) → Option R
  | m :: ms, d :: ds, K => mmode st m d fun st1 d1 => mmodes st1 ms ds fun st2 r => K st2 (d1 :: r)
  | [], [], K => K st []
  | _, _, _ => none
theorem mmodes_sound : ∀ {ms : List RM} {ds : List (D El)} {st : St El} {K : St El → List (D El) → Option R} {r : R}, mmodes st ms ds K = some r → ∃ st' ds', K st' ds' = some r ∧
    ∀ {X : Ctx El} {S β a w vs}, Rel X st S β a w → PtL w S β vs ds → ∃ S' β', (∀ r, S r → S' r) ∧ (∀ o x, β o = some x → β' o = some x) ∧ Rel X st' S' β' a w ∧ PtL w S' β' vs ds' := by
  intro ms
  induction ms with
  | nil =>
    intro ds st K r h
    cases ds with
    | nil => exact ⟨_, _, h, fun {X S β a w vs} hr hp => ⟨S, β, fun _ h => h, fun _ _ h => h, hr, hp⟩⟩
    | cons => cases h
  | cons m ms ih =>
    intro ds st K r h
    cases ds with
    | nil => cases h
    | cons d ds =>
      obtain ⟨st1, d1, h1, s1⟩ := mmode_sound h
      obtain ⟨st2, ds2, h2, s2⟩ := ih h1
      refine ⟨_, _, h2, fun {X S β a w vs} hr hp => ?_⟩
      obtain ⟨v, vs', rfl, hv, hp'⟩ := hp.head
      obtain ⟨S1, β1, a1, a2, a3, a4⟩ := s1 hr hv
      obtain ⟨S2, β2, b1, b2, b3, b4⟩ := s2 a3 (hp'.mono (fun _ _ => rfl) a1 a2)
      exact ⟨S2, β2, fun r hr => b1 r (a1 r hr), fun o x hx => b2 o x (a2 o x hx), b3, PtL.cons (a4.mono (fun _ _ => rfl) b1 b2) b4⟩
def tupOf : List (D El) → D El
  | [d] => d
  | ds => .tup ds
def exportWith (ord : List Nat) (q : Nat) (st : St El) (d : D El) : Option (Out El) :=
  cond (nodupN ord && isPre 0 ord q)
    (match reobj (idxIn ord 0) st.objs ord 0, ren2 (idxIn ord 0) d with
    | some objs, some res => some ⟨res, objs, ord.length⟩
    | _, _ => none) none
def mexport (q : Nat) (st : St El) (d : D El) : Option (Out El) := exportWith (reach st.objs 1000 (upto q ++ refs2 d) []) q st d
theorem exportWith_rel {ord : List Nat} {q : Nat} {st : St El} {d : D El} {out : Out El} (h : exportWith ord q st d = some out) : (∀ i, i < q → i < out.next) ∧ ∀ {X : Ctx El} {S : Nat → Prop} {β : Beta} {a : Act} {w : World} {v : Value}, Rel X st S β a w → VRel w S β v d →
    VRel w S (betaOf β ord) v out.res ∧ HOK w S (betaOf β ord) out.objs out.next ∧ (∀ i, i < q → betaOf β ord i = β i) ∧ (∀ r, Mine (betaOf β ord) out.objs r → r < X.w0.heap.size → X.B r) := by
  unfold exportWith at h
  obtain ⟨hc, h0⟩ := cond_some h
  obtain ⟨hn, hp⟩ := Bool.and_eq_true_iff.1 hc
  split at h0
  · rename_i objs res h1 h2
    cases h0
    refine ⟨fun i hi => (List.getElem?_eq_some_iff.1 (isPre_get hp i hi)).1, fun {X S β a w v} hr hv => ?_⟩
    have hf : ∀ o o', idxIn ord 0 o = some o' → betaOf β ord o' = β o := fun o o' ho => by
      obtain ⟨_, k⟩ := idxIn_get ho
      simp only [Nat.sub_zero] at k
      unfold betaOf
      rw [k]
      rfl
    have lk : ∀ i o, ord[i]? = some o → renO (idxIn ord 0) (look st.objs o) = some (look objs i) := fun i o ho => (reobj_look h1 i).2 o (Nat.zero_le _) (by simpa using ho)
    have out : ∀ i, ord[i]? = none → look objs i = .gone := fun i hi => (reobj_look h1 i).1 (.inr (by simpa using hi))
    have obj : ∀ i, ORel w S (betaOf β ord) i (look objs i) := fun i => by
      cases ho : ord[i]? with
      | none => rw [out i ho]; trivial
      | some o => exact (renO_rel hf (by unfold betaOf; rw [ho]; rfl) (lk i o ho) (hr.objs o)).1
    have back : ∀ i, (look objs i).live = true → ∃ o, ord[i]? = some o ∧ (look st.objs o).live = true := fun i hl => by
      cases ho : ord[i]? with
      | none => rw [out i ho] at hl; cases hl
      | some o => exact ⟨o, rfl, by rw [← (renO_rel hf (by unfold betaOf; rw [ho]; rfl) (lk i o ho) (hr.objs o)).2.1]; exact hl⟩
    refine ⟨ren2_rel hf h2 hv, ⟨obj, ?_, ?_, ?_, hr.inside, hr.laid⟩, ?_, ?_⟩
    · intro i1 i2 v1 v2 r l1 l2 b1 b2 k1 k2
      obtain ⟨o1, e1, e2⟩ := back i1 l1
      obtain ⟨o2, f1, f2⟩ := back i2 l2
      unfold betaOf at b1 b2
      rw [e1] at b1
      rw [f1] at b2
      have := hr.inj o1 o2 v1 v2 r e2 f2 b1 b2 k1 k2
      subst this
      exact nodupN_iff hn i1 i2 o1 e1 f1
    · intro i v r l b k
      obtain ⟨o, e1, e2⟩ := back i l
      unfold betaOf at b
      rw [e1] at b
      exact (hr.away o v r e2 b k).1
    · intro i hi
      unfold betaOf
      rw [List.getElem?_eq_none hi]
      rfl
    · intro i hi
      unfold betaOf
      rw [isPre_get hp i hi]
      simp
    · rintro r ⟨i, l, v, b, k⟩ hlt
      obtain ⟨o, e1, e2⟩ := back i l
      unfold betaOf at b
      rw [e1] at b
      exact (hr.away o v r e2 b k).2 hlt
  · cases h0
def mend {T : Type} (P : Program) (rs : List ResultVar) (ms : List RM) (q : Nat) (dec : Out El → Option T) : MX → St El → Option T :=
  fun e st => match e with
  | .exit _ => none
  | _ => mres P st rs fun ds => mmodes st ms ds fun st1 ds1 => (mexport q st1 (tupOf ds1)).bind dec
def specOf {A T : Type} (decA : List (D El) → List (Nat × MObj El) → Nat → Option A) (F : A → Option T) (outOf : T → Out El) : Spec El :=
  fun R ds objs next K => match decA ds objs next with | some a => (F a).bind fun y => K (outOf y) | none => none
theorem fnOK_of {P : Program} {f : Nat} {fn : Func} {c : Code} (hf : P.funcs[f]? = some fn) (hb : fn.body = some c) {T A : Type} {E : Env El T} {q : Nat} (hE : EnvOK q E) (hP : E.P = P) (k : Nat) (ms : List RM) {nt : Nat} (hnt : fn.ntmps = nt) {rs : List ResultVar} (hrs : fn.results = rs.toArray)
    (decA : List (D El) → List (Nat × MObj El) → Nat → Option A) (F : A → Option T) (dec : Out El → Option T) (outOf : T → Out El)
    (hdec : ∀ out y, dec out = some y → out = outOf y)
    (hrun : ∀ ds objs next a, decA ds objs next = some a → mexec E k 0 c (mend P rs ms q dec) ⟨ds ++ List.replicate (nt - ds.length) .dead, objs, next⟩ = F a) :
    FnOK P f q (specOf decA F outOf) := by
  intro R ds objs next K r h
  unfold specOf at h
  split at h
  · rename_i a ha
    obtain ⟨y, hy, hk⟩ := bind_some' h
    have hex := hrun ds objs next a ha
    rw [hy] at hex
    refine ⟨_, hk, fun w S β vs hp hh hq => ?_⟩
    subst hP
    refine calls_of_wp hf hb ?_
    let X : Ctx El := { w0 := w, B := Mine β objs, S0 := S, q := q, β0 := β, ok := ⟨hh.laid, fun r hS ⟨o, l, v, b, k⟩ => hh.away o v r l b k hS⟩ }
    have hsz : vs.size = ds.length := by simpa using hp.1
    have hnth : ∀ (l : List (D El)) i, (∀ d, l[i]? = some d → nth l i = d) ∧ (l[i]? = none → nth l i = .dead) := by
      intro l
      induction l with
      | nil => intro i; exact ⟨fun d q => by simp at q, fun _ => rfl⟩
      | cons x l ih =>
        intro i
        cases i with
        | zero => exact ⟨fun d q => by simp at q; subst q; rfl, fun q => by simp at q⟩
        | succ i => exact ⟨fun d q => (ih i).1 d (by simpa using q), fun q => (ih i).2 (by simpa using q)⟩
    have hrel : Rel X (⟨ds ++ List.replicate (nt - ds.length) .dead, objs, next⟩ : St El) S β { tmps := vs ++ Array.replicate (fn.ntmps - vs.size) undef, defers := [] } w := by
      refine ⟨by simp [hsz, hnt], fun i => ?_, rfl, hh.rel, hh.inj, fun o v r l b k => ⟨hh.away o v r l b k, fun _ => ⟨o, l, v, b, k⟩⟩, hh.fresh, hh.inside, fun r hr => hr, rfl, rfl, rfl, Nat.le_refl _, fun r _ _ => rfl, fun r hr _ => .inl hr, fun i hi => by obtain ⟨v, hv⟩ := hq i hi; exact ⟨v, hv, hv⟩⟩
      cases hd : (ds ++ List.replicate (nt - ds.length) (.dead : D El))[i]? with
      | none => rw [(hnth _ i).2 hd]; exact .dead _
      | some d =>
        rw [(hnth _ i).1 d hd]
        rw [List.getElem?_append] at hd
        split at hd
        · rename_i hi
          have hi2 : i < vs.size := by omega
          have e : (vs ++ Array.replicate (fn.ntmps - vs.size) undef).getD i undef = vs[i] := by
            rw [Array.getD_eq_getD_getElem?, Array.getElem?_append, if_pos hi2]
            simp [hi2]
          rw [e]
          exact hp.2 i vs[i] d (by simp [hi2]) hd
        · rw [List.getElem?_replicate] at hd
          split at hd
          · cases hd; exact .dead _
          · cases hd
    refine wp_mono (mexec_sound hE (X := X) (Nat.le_refl q) c hex hrel) ?_
    rintro e a' w' ⟨me, st', S', β', rfl, hm, hr'⟩
    have key : ∀ {me : MX} , (match me with | .exit _ => none | _ => mres E.P st' rs fun ds => mmodes st' ms ds fun st1 ds1 => (mexport q st1 (tupOf ds1)).bind dec) = some y →
        a'.defers = [] ∧ ∃ v, (results fn a'.tmps).run E.P w' = .ok v w' ∧ (∃ v_1 S' γ, Ending.returned v = .returned v_1 ∧ VRel w' S' γ v_1 (outOf y).res ∧ HOK w' S' γ (outOf y).objs (outOf y).next ∧ Grew w w' (Mine β objs) ∧ (∀ r, S r → S' r) ∧
        (∀ r, S' r → r < w.heap.size → S r ∨ Mine β objs r) ∧ (∀ i, i < q → γ i = β i) ∧ (∀ r, Mine γ (outOf y).objs r → r < w.heap.size → Mine β objs r)) := by
      intro me hm
      have hm' : (mres E.P st' rs fun ds => mmodes st' ms ds fun st1 ds1 => (mexport q st1 (tupOf ds1)).bind dec) = some y := by
        cases me with
        | exit id => cases hm
        | norm => exact hm
        | ret => exact hm
      refine ⟨hr'.defers, ?_⟩
      obtain ⟨ds0, h1, s1⟩ := mres_sound hm'
      obtain ⟨st1, ds1, h2, s2⟩ := mmodes_sound h1
      obtain ⟨out, h3, h4⟩ := bind_some' h2
      obtain rfl := hdec out y h4
      obtain ⟨vs0, k1, k2⟩ := s1 hr'
      obtain ⟨S2, β2, a1, a2, a3, a4⟩ := s2 hr' k2
      have htup : VRel w' S2 β2 (if h : vs0.length = 1 then vs0[0] else .tuple vs0.toArray) (tupOf ds1) := by
        obtain ⟨l1, l2⟩ := a4
        match ds1, vs0, l1, l2 with
        | [d], [v], _, l2 => exact l2 0 v d rfl rfl
        | [], [], _, l2 => exact .tup _ _ rfl (fun i v d q => by simp at q)
        | d1 :: d2 :: r1, v1 :: v2 :: r2, l1, l2 =>
          have : ¬ (v1 :: v2 :: r2).length = 1 := by simp
          rw [dif_neg this]
          exact .tup _ _ (by simpa using l1) (fun i v d p q => l2 i v d (by simpa using p) q)
      obtain ⟨_, ex⟩ := exportWith_rel h3
      obtain ⟨b1, b2, b3, b4⟩ := ex a3 htup
      refine ⟨_, ?_, _, S2, _, rfl, b1, b2, ⟨a3.os, a3.tape, a3.output, a3.grown, fun k hk hn => a3.frame k hk hn⟩, a3.stay, a3.old, fun i hi => ?_, b4⟩
      · have hres : results fn a'.tmps = (do
            let vs ← fn.results.mapM (resOne a'.tmps)
            pure (if h : vs.size = 1 then vs[0] else .tuple vs)) := by
          unfold results
          congr 1
        rw [hres, hrs, Array.mapM_eq_mapM_toList]
        simp [k1]
      · rw [b3 i hi]
        obtain ⟨v, c1, c2⟩ := a3.root i hi
        rw [c2]
        exact c1.symm
    cases me with
    | exit id => cases hm
    | norm => exact key (me := .norm) hm
    | ret => exact key (me := .ret) hm
  · cases h
end Go.M
namespace Go.M
set_option linter.unusedVariables false
set_option linter.unusedSectionVars false
open Uni
variable {El : Nat → Type} [Uni El] [UniOK El] {R : Type}
def nthN : List Nat → Nat → Nat
  | [], _ => 0
  | x :: _, 0 => x
  | _ :: r, n + 1 => nthN r n
theorem nthN_get : ∀ {l : List Nat} {i o : Nat}, l[i]? = some o → nthN l i = o
  | [], i, o, h => by simp at h
  | x :: r, 0, o, h => by simp at h; exact h
  | x :: r, i + 1, o, h => by simp at h; exact nthN_get (l := r) h
def reimp (σ : Nat → Nat) (objs : List (Nat × MObj El)) : Nat → Option (List (Nat × MObj El))
  | 0 => some []
  | n + 1 =>
    match renO (fun o => some (σ o)) (look objs n), reimp σ objs n with
    | some x, some l => some ((σ n, x) :: l)
    | _, _ => none
theorem reimp_look {σ : Nat → Nat} {objs : List (Nat × MObj El)} (t : List (Nat × MObj El)) : ∀ {n : Nat} {l : List (Nat × MObj El)}, (∀ i j, i < n → j < n → σ i = σ j → i = j) → reimp σ objs n = some l →
    (∀ i, i < n → renO (fun o => some (σ o)) (look objs i) = some (look (l ++ t) (σ i))) ∧ (∀ o, (∀ i, i < n → σ i ≠ o) → look (l ++ t) o = look t o)
  | 0, l, hi, h => by simp [reimp] at h; subst h; exact ⟨fun i h => by omega, fun o _ => rfl⟩
  | n + 1, l, hi, h => by
    unfold reimp at h
    split at h
    · rename_i x l' hx hl
      cases h
      obtain ⟨a1, a2⟩ := reimp_look t (fun i j p q e => hi i j (by omega) (by omega) e) hl
      refine ⟨fun i hlt => ?_, fun o ho => ?_⟩
      · rw [List.cons_append, look_cons]
        by_cases e : i = n
        · subst e
          rw [if_pos rfl]
          exact hx
        · rw [if_neg (fun q => e (hi i n hlt (by omega) q.symm))]
          exact a1 i (by omega)
      · rw [List.cons_append, look_cons, if_neg (ho n (by omega))]
        exact a2 o (fun i hlt => ho i (by omega))
    · cases h
def gones : List Nat → List (Nat × MObj El) → List (Nat × MObj El)
  | [], t => t
  | o :: r, t => (o, .gone) :: gones r t
theorem gones_look (t : List (Nat × MObj El)) (o : Nat) : ∀ {l : List Nat}, (o ∈ l → look (gones l t) o = .gone) ∧ (o ∉ l → look (gones l t) o = look t o)
  | [] => ⟨fun h => by simp at h, fun _ => rfl⟩
  | x :: r => by
    obtain ⟨a1, a2⟩ := gones_look t o (l := r)
    unfold gones
    rw [look_cons]
    refine ⟨fun h => ?_, fun h => ?_⟩
    · by_cases e : x = o
      · rw [if_pos e]
      · rw [if_neg e]
        exact a1 (by simpa [Ne.symm e] using h)
    · rw [if_neg (fun e => h (by simp [e]))]
      exact a2 (fun q => h (by simp [q]))
def sig (ord : List Nat) (q base i : Nat) : Nat := cond (Nat.blt i q) (nthN ord i) (base + i)
def callWith (ord : List Nat) (q : Nat) (spec : Spec El) (st : St El) (ds : List (D El)) (K : St El → D El → Option R) : Option R :=
  cond (nodupN ord && Nat.ble q ord.length)
    (match reobj (idxIn ord 0) st.objs ord 0, rens1 (idxIn ord 0) ds with
    | some objs, some ds' => spec R ds' objs ord.length fun out =>
      match reimp (sig ord q st.next) out.objs out.next, ren2 (fun o => some (sig ord q st.next o)) out.res with
      | some imp, some res => K ⟨st.tmps, imp ++ gones ord st.objs, st.next + out.next⟩ res
      | _, _ => none
    | _, _ => none) none
theorem callWith_sound {P : Program} {f q : Nat} {spec : Spec El} (hspec : FnOK P f q spec) {ord : List Nat} {st : St El} {ds : List (D El)} {K : St El → D El → Option R} {r : R} (h : callWith ord q spec st ds K = some r) :
    ∃ st' d, K st' d = some r ∧ ∀ {X : Ctx El} {S β a w} {vs : Array Value}, Rel X st S β a w → PtL w S β vs.toList ds → (∀ o ∈ ord, ∃ v, β o = some v) →
      Calls P f vs w fun e w' => ∃ v S' β', e = .returned v ∧ Rel X st' S' β' a w' ∧ VRel w' S' β' v d ∧ (ord = [] → Stay w w') := by
  unfold callWith at h
  obtain ⟨hc, h0⟩ := cond_some h
  clear h
  obtain ⟨hn, hql⟩ := Bool.and_eq_true_iff.1 hc
  have hql := Nat.le_of_ble_eq_true hql
  split at h0
  · rename_i objs ds' hobjs hds
    obtain ⟨out, h1, s1⟩ := hspec R ds' objs ord.length _ r h0
    split at h1
    · rename_i imp res himp hres
      refine ⟨_, _, h1, fun {X S β a w vs} hr hp hall => ?_⟩
      have hf : ∀ o o', idxIn ord 0 o = some o' → betaOf β ord o' = β o := fun o o' ho => by
        obtain ⟨_, k⟩ := idxIn_get ho
        simp only [Nat.sub_zero] at k
        unfold betaOf
        rw [k]
        rfl
      have lk : ∀ i o, ord[i]? = some o → renO (idxIn ord 0) (look st.objs o) = some (look objs i) := fun i o ho => (reobj_look hobjs i).2 o (Nat.zero_le _) (by simpa using ho)
      have nil : ∀ i, ord[i]? = none → look objs i = .gone := fun i hi => (reobj_look hobjs i).1 (.inr (by simpa using hi))
      have obj : ∀ i, ORel w S (betaOf β ord) i (look objs i) := fun i => by
        cases ho : ord[i]? with
        | none => rw [nil i ho]; trivial
        | some o => exact (renO_rel hf (by unfold betaOf; rw [ho]; rfl) (lk i o ho) (hr.objs o)).1
      have back : ∀ i, (look objs i).live = true → ∃ o, ord[i]? = some o ∧ (look st.objs o).live = true := fun i hl => by
        cases ho : ord[i]? with
        | none => rw [nil i ho] at hl; cases hl
        | some o => exact ⟨o, rfl, by rw [← (renO_rel hf (by unfold betaOf; rw [ho]; rfl) (lk i o ho) (hr.objs o)).2.1]; exact hl⟩
      have fwd : ∀ i o, ord[i]? = some o → (look st.objs o).live = true → (look objs i).live = true := fun i o ho hl => by
        rw [(renO_rel hf (by unfold betaOf; rw [ho]; rfl) (lk i o ho) (hr.objs o)).2.1]; exact hl
      have bo : ∀ i o, ord[i]? = some o → betaOf β ord i = β o := fun i o ho => by unfold betaOf; rw [ho]; rfl
      have mine : ∀ r, Mine (betaOf β ord) objs r → ∃ o, o ∈ ord ∧ (look st.objs o).live = true ∧ at_ β o r := by
        rintro r ⟨i, l, v, b, k⟩
        obtain ⟨o, e1, e2⟩ := back i l
        rw [bo i o e1] at b
        exact ⟨o, List.mem_of_getElem? e1, e2, v, b, k⟩
      have hhok : HOK w S (betaOf β ord) objs ord.length := by
        refine ⟨obj, ?_, ?_, ?_, hr.inside, hr.laid⟩
        · intro i1 i2 v1 v2 r l1 l2 b1 b2 k1 k2
          obtain ⟨o1, e1, e2⟩ := back i1 l1
          obtain ⟨o2, f1, f2⟩ := back i2 l2
          rw [bo i1 o1 e1] at b1
          rw [bo i2 o2 f1] at b2
          have := hr.inj o1 o2 v1 v2 r e2 f2 b1 b2 k1 k2
          subst this
          exact nodupN_iff hn i1 i2 o1 e1 f1
        · intro i v r l b k
          obtain ⟨o, e1, e2⟩ := back i l
          rw [bo i o e1] at b
          exact (hr.away o v r e2 b k).1
        · intro i hi
          unfold betaOf
          rw [List.getElem?_eq_none hi]
          rfl
      have hp' : PtL w S (betaOf β ord) vs.toList ds' := by
        obtain ⟨r1, r2⟩ := rens1_get hds
        refine ⟨by rw [r1]; exact hp.1, fun i v d p q' => ?_⟩
        obtain ⟨e, c1, c2⟩ := r2 i d q'
        exact ren1_rel hf c2 (hp.2 i v e p c1)
      have hroots : ∀ i, i < q → ∃ v, betaOf β ord i = some v := fun i hi => by
        have hlt : i < ord.length := by omega
        rw [bo i ord[i] (by simp [hlt])]
        exact hall _ (List.getElem_mem _)
      refine (s1 w S (betaOf β ord) vs hp' hhok hroots).mono ?_
      rintro e w' ⟨v, S', γ, rfl, g1, g2, g3, g4, g5, g6, g7⟩
      let β2 : Beta := fun o => if o < st.next then β o else γ (o - st.next)
      have hlt : ∀ o v, β o = some v → o < st.next := fun o v hv => by
        rcases Nat.lt_or_ge o st.next with hl | hl
        · exact hl
        · rw [hr.fresh o hl] at hv; cases hv
      have hb : ∀ o x, β o = some x → β2 o = some x := fun o x hx => by
        show (if o < st.next then β o else γ (o - st.next)) = some x
        rw [if_pos (hlt o x hx)]
        exact hx
      have hord : ∀ i o, ord[i]? = some o → o < st.next := fun i o ho => by
        obtain ⟨v, hv⟩ := hall o (List.mem_of_getElem? ho)
        exact hlt o v hv
      have hsig : ∀ i, β2 (sig ord q st.next i) = γ i := fun i => by
        unfold sig
        cases hb : Nat.blt i q with
        | true =>
          have hi : i < q := Nat.le_of_ble_eq_true hb
          have hil : i < ord.length := by omega
          have ho : ord[i]? = some ord[i] := by simp [hil]
          show β2 (nthN ord i) = γ i
          rw [nthN_get ho]
          show (if ord[i] < st.next then β ord[i] else γ (ord[i] - st.next)) = γ i
          rw [if_pos (hord i _ ho), g6 i hi, bo i _ ho]
        | false =>
          show (if st.next + i < st.next then β (st.next + i) else γ (st.next + i - st.next)) = γ i
          rw [if_neg (by omega)]
          congr 1
          omega
      have hinj : ∀ i j, i < out.next → j < out.next → sig ord q st.next i = sig ord q st.next j → i = j := by
        intro i j _ _ he
        unfold sig at he
        cases hb1 : Nat.blt i q with
        | true =>
          have hi : i < q := Nat.le_of_ble_eq_true hb1
          have hil : i < ord.length := by omega
          have ho : ord[i]? = some ord[i] := by simp [hil]
          rw [hb1] at he
          cases hb2 : Nat.blt j q with
          | true =>
            have hj : j < q := Nat.le_of_ble_eq_true hb2
            have hjl : j < ord.length := by omega
            have ho2 : ord[j]? = some ord[j] := by simp [hjl]
            rw [hb2] at he
            simp only [cond_true] at he
            rw [nthN_get ho, nthN_get ho2] at he
            exact nodupN_iff hn i j _ ho (by rw [he]; exact ho2)
          | false =>
            rw [hb2] at he
            simp only [cond_true, cond_false] at he
            rw [nthN_get ho] at he
            have := hord i _ ho
            omega
        | false =>
          rw [hb1] at he
          cases hb2 : Nat.blt j q with
          | true =>
            have hj : j < q := Nat.le_of_ble_eq_true hb2
            have hjl : j < ord.length := by omega
            have ho2 : ord[j]? = some ord[j] := by simp [hjl]
            rw [hb2] at he
            simp only [cond_true, cond_false] at he
            rw [nthN_get ho2] at he
            have := hord j _ ho2
            omega
          | false =>
            rw [hb2] at he
            simp only [cond_false] at he
            omega
      obtain ⟨m1, m2⟩ := reimp_look (gones ord st.objs) hinj himp
      have hfs : ∀ o o', (fun o => some (sig ord q st.next o)) o = some o' → β2 o' = γ o := fun o o' ho => by cases ho; exact hsig o
      have hSM : ∀ r, S r → ¬ Mine (betaOf β ord) objs r := fun r hs hm => by
        obtain ⟨o, _, o2, v2, o3, o4⟩ := mine r hm
        exact (hr.away o v2 r o2 o3 o4).1 hs
      -- what each number leads to now
      have whose : ∀ o, (∃ i, i < out.next ∧ sig ord q st.next i = o ∧ renO (fun o => some (sig ord q st.next o)) (look out.objs i) = some (look (imp ++ gones ord st.objs) o)) ∨
          (look (imp ++ gones ord st.objs) o = .gone) ∨ (o ∉ ord ∧ look (imp ++ gones ord st.objs) o = look st.objs o) := fun o => by
        by_cases hex : ∃ i, i < out.next ∧ sig ord q st.next i = o
        · obtain ⟨i, hi, he⟩ := hex
          left
          exact ⟨i, hi, he, by rw [← he]; exact m1 i hi⟩
        · right
          have hno : ∀ i, i < out.next → sig ord q st.next i ≠ o := fun i hi he => hex ⟨i, hi, he⟩
          rw [m2 o hno]
          by_cases hm : o ∈ ord
          · exact .inl ((gones_look st.objs o).1 hm)
          · exact .inr ⟨hm, (gones_look st.objs o).2 hm⟩
      have own : ∀ o v r, (look (imp ++ gones ord st.objs) o).live = true → β2 o = some v → blkOf v = some r →
          (∃ i, i < out.next ∧ sig ord q st.next i = o ∧ (look out.objs i).live = true ∧ γ i = some v) ∨ (o ∉ ord ∧ (look st.objs o).live = true ∧ β o = some v ∧ r < w.heap.size ∧ ¬ Mine (betaOf β ord) objs r ∧ ¬ S r) := by
        intro o v r hl hv hk
        rcases whose o with ⟨i, hi, he, hx⟩ | hg | ⟨hm, hx⟩
        · left
          have hl2 := (renO_rel hfs (o := i) (o' := o) (by rw [← he]; exact hsig i) hx (g2.rel i)).2.1
          exact ⟨i, hi, he, by rw [← hl2]; exact hl, by rw [← hsig i, he]; exact hv⟩
        · rw [hg] at hl; cases hl
        · right
          rw [hx] at hl
          have hob : β o = some v := by
            cases hbo : β o with
            | none =>
              have ho := hr.objs o
              cases hlo : look st.objs o with
              | box ty cells => rw [hlo] at ho; obtain ⟨r', C, q1, _⟩ := ho; rw [hbo] at q1; cases q1
              | arr t l => rw [hlo] at ho; obtain ⟨v', vs', q1, _⟩ := ho; rw [hbo] at q1; cases q1
              | ice t l => rw [hlo] at hl; cases hl
              | gone => rw [hlo] at hl; cases hl
              | map kk g e l => rw [hlo] at ho; obtain ⟨r', es, ck, q1, _⟩ := ho; rw [hbo] at q1; cases q1
            | some v' => rw [hb o v' hbo] at hv; exact hv
          refine ⟨hm, hl, hob, (hr.objs o).lt hl ⟨v, hob, hk⟩, fun hmi => ?_, (hr.away o v r hl hob hk).1⟩
          obtain ⟨o', p1, p2, v2, p3, p4⟩ := mine r hmi
          exact hm (hr.inj o o' v v2 r hl p2 hob p3 hk p4 ▸ p1)
      have hv2 : ∀ v (d : D El), VRel w S β v d → VRel w' S' β2 v d := fun v d k => k.mono (fun r hs => g3.block r (hr.inside r hs) (hSM r hs)) g4 hb
      refine ⟨v, S', β2, rfl, ⟨hr.size, fun i => hv2 _ _ (hr.tmps i), hr.defers, ?_, ?_, ?_, ?_, g2.inside, fun r hs => g4 r (hr.stay r hs), g3.os.trans hr.os, g3.tape.trans hr.tape, g3.output.trans hr.output, Nat.le_trans hr.grown g3.size, ?_, ?_, ?_⟩, ren2_rel hfs hres g1, fun he r hr2 => g3.block r hr2 (fun hm => by obtain ⟨o', p1, _⟩ := mine r hm; rw [he] at p1; cases p1)⟩
      · intro o
        rcases whose o with ⟨i, hi, he, hx⟩ | hg | ⟨hm, hx⟩
        · exact (renO_rel hfs (by rw [← he]; exact hsig i) hx (g2.rel i)).1
        · show ORel w' S' β2 o (look (imp ++ gones ord st.objs) o)
          rw [hg]; trivial
        · show ORel w' S' β2 o (look (imp ++ gones ord st.objs) o)
          rw [hx]
          refine (hr.objs o).kept g3 hSM hr.inside (fun r hat hl hmi => ?_) g4 hb
          obtain ⟨v1, b1, k1⟩ := hat
          obtain ⟨o', p1, p2, v2, p3, p4⟩ := mine r hmi
          exact hm (hr.inj o o' v1 v2 r hl p2 b1 p3 k1 p4 ▸ p1)
      · intro o1 o2 v1 v2 r l1 l2 b1 b2 k1 k2
        rcases own o1 v1 r l1 b1 k1 with ⟨i1, a1, a2, a3, a4⟩ | ⟨a1, a2, a3, a4, a5, a6⟩
        · rcases own o2 v2 r l2 b2 k2 with ⟨i2, c1, c2, c3, c4⟩ | ⟨c1, c2, c3, c4, c5, c6⟩
          · have := g2.inj i1 i2 v1 v2 r a3 c3 a4 c4 k1 k2
            subst this
            rw [← a2, ← c2]
          · exact absurd (g7 r ⟨i1, a3, v1, a4, k1⟩ c4) c5
        · rcases own o2 v2 r l2 b2 k2 with ⟨i2, c1, c2, c3, c4⟩ | ⟨c1, c2, c3, c4, c5, c6⟩
          · exact absurd (g7 r ⟨i2, c3, v2, c4, k2⟩ a4) a5
          · exact hr.inj o1 o2 v1 v2 r a2 c2 a3 c3 k1 k2
      · intro o v r l b k
        rcases own o v r l b k with ⟨i1, a1, a2, a3, a4⟩ | ⟨a1, a2, a3, a4, a5, a6⟩
        · refine ⟨g2.away i1 v r a3 a4 k, fun hlt0 => ?_⟩
          obtain ⟨o', _, p2, v2, p3, p4⟩ := mine r (g7 r ⟨i1, a3, v, a4, k⟩ (Nat.lt_of_lt_of_le hlt0 hr.grown))
          exact (hr.away o' v2 r p2 p3 p4).2 hlt0
        · refine ⟨fun hs => ?_, (hr.away o v r a2 a3 k).2⟩
          rcases g5 r hs a4 with h1 | h1
          · exact a6 h1
          · exact a5 h1
      · intro o ho
        have ho' : st.next + out.next ≤ o := ho
        show (if o < st.next then β o else γ (o - st.next)) = none
        rw [if_neg (by omega)]
        exact g2.fresh _ (by omega)
      · intro r hlt0 hB
        have hnm : ¬ Mine (betaOf β ord) objs r := fun hm => by
          obtain ⟨o', _, p2, v2, p3, p4⟩ := mine r hm
          exact hB ((hr.away o' v2 r p2 p3 p4).2 hlt0)
        rw [g3.block r (Nat.lt_of_lt_of_le hlt0 hr.grown) hnm]
        exact hr.frame r hlt0 hB
      · intro r hs hlt0
        rcases g5 r hs (Nat.lt_of_lt_of_le hlt0 hr.grown) with h1 | h1
        · exact hr.old r h1 hlt0
        · obtain ⟨o', _, p2, v2, p3, p4⟩ := mine r h1
          exact .inr ((hr.away o' v2 r p2 p3 p4).2 hlt0)
      · intro i hi
        obtain ⟨v, c1, c2⟩ := hr.root i hi
        exact ⟨v, c1, hb i v c2⟩
    · cases h1
  · cases h0
end Go.M
namespace Go.M
set_option linter.unusedVariables false
set_option linter.unusedSectionVars false
open Uni
variable {El : Nat → Type} [Uni El] [UniOK El] {R : Type}
inductive PM where
  | ref
  | any
  | frz (t : Nat)
def mpass (st : St El) (m : PM) (d : D El) (K : St El → D El → Option R) : Option R :=
  match m with
  | .ref => K st d
  | .any => mfz st d K
  | .frz t => match d with | .nilsl => K st (.frz t []) | d => mfreeze st d K
theorem mpass_sound {st : St El} {m : PM} {d : D El} {K : St El → D El → Option R} {r : R} (h : mpass st m d K = some r) : ∃ st' d', K st' d' = some r ∧
    ∀ {X : Ctx El} {S β a w v}, Rel X st S β a w → VRel w S β v d → ∃ S', (∀ r, S r → S' r) ∧ Rel X st' S' β a w ∧ VRel w S' β v d' := by
  unfold mpass at h
  split at h
  · exact ⟨_, _, h, fun {X S β a w v} hr hv => ⟨S, fun _ h => h, hr, hv⟩⟩
  · exact mfz_sound h
  · split at h
    · exact ⟨_, _, h, fun {X S β a w v} hr hv => ⟨S, fun _ h => h, hr, by cases hv; exact .frz0 _ _ _⟩⟩
    · exact mfreeze_sound h
def passArgs (st : St El) : List PM → List (D El) → (St El → List (D El) → Option R) → Option R
  | _, [], K => K st []
  | [], d :: ds, K => mfz st d fun st1 d1 => passArgs st1 [] ds fun st2 r => K st2 (d1 :: r)
  | b :: bs, d :: ds, K => mpass st b d fun st1 d1 => passArgs st1 bs ds fun st2 r => K st2 (d1 :: r)
theorem passArgs_sound : ∀ {ds : List (D El)} {bs : List PM} {st : St El} {K : St El → List (D El) → Option R} {r : R}, passArgs st bs ds K = some r → ∃ st' ds', K st' ds' = some r ∧
    ∀ {X : Ctx El} {S β a w vs}, Rel X st S β a w → PtL w S β vs ds → ∃ S', (∀ r, S r → S' r) ∧ Rel X st' S' β a w ∧ PtL w S' β vs ds' := by
  intro ds
  induction ds with
  | nil =>
    intro bs st K r h
    cases bs <;> exact ⟨_, _, h, fun {X S β a w vs} hr hp => ⟨S, fun _ h => h, hr, hp⟩⟩
  | cons d ds ih =>
    have go : ∀ {bs : List PM} {m : PM} {st : St El} {K : St El → List (D El) → Option R} {r : R}, (mpass st m d fun st1 d1 => passArgs st1 bs ds fun st2 r => K st2 (d1 :: r)) = some r → ∃ st' ds', K st' ds' = some r ∧
        ∀ {X : Ctx El} {S β a w vs}, Rel X st S β a w → PtL w S β vs (d :: ds) → ∃ S', (∀ r, S r → S' r) ∧ Rel X st' S' β a w ∧ PtL w S' β vs ds' := by
      intro bs m st K r h
      obtain ⟨st1, d1, h1, s1⟩ := mpass_sound h
      obtain ⟨st2, ds2, h2, s2⟩ := ih h1
      refine ⟨_, _, h2, fun {X S β a w vs} hr hp => ?_⟩
      obtain ⟨v, vs', rfl, hv, hp'⟩ := hp.head
      obtain ⟨S1, a1, a2, a3⟩ := s1 hr hv
      obtain ⟨S2, b1, b2, b3⟩ := s2 a2 (hp'.mono (fun _ _ => rfl) a1 (fun _ _ h => h))
      exact ⟨S2, fun r hr => b1 r (a1 r hr), b2, PtL.cons (a3.mono (fun _ _ => rfl) b1 (fun _ _ h => h)) b3⟩
    intro bs st K r h
    cases bs with
    | nil => exact go (m := .any) h
    | cons b bs => exact go h
def MObj.thing : MObj El → Bool
  | .gone => false
  | _ => true
structure Entry (El : Nat → Type) where
  refs : List PM
  q : Nat
  spec : Spec El
abbrev Tab (El : Nat → Type) := List (Nat × Nat × Entry El)
def tabLook : Tab El → Nat → Nat → Option (Entry El)
  | [], _, _ => none
  | (g, c, e) :: r, f, c' => cond (Nat.beq g f && Nat.beq c c') (some e) (tabLook r f c')
def gOf : List (D El) → Nat
  | [] => 0
  | .fn g _ :: _ => g + 1
  | _ :: r => gOf r
def callIn (ord : List Nat) (e : Entry El) (st : St El) (ds : List (D El)) (K : St El → D El → Option R) : Option R :=
  cond (ord.all fun o => (look st.objs o).thing) (callWith ord e.q e.spec st ds K) none
def mcall (tab : Tab El) (st : St El) (f : Nat) (ds : List (D El)) (K : St El → D El → Option R) : Option R :=
  match tabLook tab f (gOf ds) with
  | some e => passArgs st e.refs ds fun st1 ds1 => callIn (reach st1.objs 1000 (ds1.flatMap refs1) []) e st1 ds1 K
  | none => none
def TabOK (P : Program) (tab : Tab El) : Prop := ∀ f c e, tabLook tab f c = some e → FnOK P f e.q e.spec ∧ ∀ args w, (callFunc f args).run P w = .ok (.enter f args) w
theorem TabOK.nil {P : Program} : TabOK P ([] : Tab El) := fun f c e h => by cases h
theorem TabOK.cons {P : Program} {tab : Tab El} {f c : Nat} {e : Entry El} (h : FnOK P f e.q e.spec) (h2 : ∀ args w, (callFunc f args).run P w = .ok (.enter f args) w) (ht : TabOK P tab) : TabOK P ((f, c, e) :: tab) := by
  intro g c' e' hg
  unfold tabLook at hg
  cases hb : (Nat.beq f g && Nat.beq c c') with
  | true =>
    rw [hb] at hg
    cases hg
    have := beq_true (Bool.and_eq_true_iff.1 hb).1
    subst this
    exact ⟨h, h2⟩
  | false =>
    rw [hb] at hg
    exact ht g c' e' hg
theorem ORel.some {w : World} {S : Nat → Prop} {β : Beta} {o : Nat} {x : MObj El} (h : ORel w S β o x) (ht : x.thing = true) : ∃ v, β o = some v := by
  cases x with
  | box ty cells => obtain ⟨r, C, h1, _⟩ := h; exact ⟨_, h1⟩
  | arr t l => obtain ⟨v, vs, h1, _⟩ := h; exact ⟨_, h1⟩
  | ice t l => obtain ⟨v, vs, h1, _⟩ := h; exact ⟨_, h1⟩
  | gone => cases ht
  | map kk g e l => obtain ⟨r, es, ck, h1, _⟩ := h; exact ⟨_, h1⟩
theorem mcall_ok {P : Program} {tab : Tab El} (ht : TabOK P tab) : CallOK P (mcall (R := R) tab) := by
  refine ⟨fun {st f ds K r} h => ?_⟩
  unfold mcall at h
  split at h
  · rename_i e he
    obtain ⟨hf, hen⟩ := ht f _ e he
    obtain ⟨st1, ds1, h1, s1⟩ := passArgs_sound h
    unfold callIn at h1
    obtain ⟨hall, h2⟩ := cond_some h1
    obtain ⟨st', d, h3, s3⟩ := callWith_sound hf h2
    refine ⟨st', d, h3, hen, fun {X S β a w vs} hr hp => ?_⟩
    obtain ⟨S', a1, a2, a3⟩ := s1 hr hp
    exact (s3 a2 a3 (fun o ho => (a2.objs o).some (List.all_eq_true.1 hall o ho))).mono fun e w' ⟨v, S1, β1, k1, k2, k3, _⟩ => ⟨v, S1, β1, k1, k2, k3⟩
  · cases h
def mcalmCall (tab : Tab El) (st : St El) (f : Nat) (ds : List (D El)) (K : St El → D El → Option R) : Option R :=
  match tabLook tab f (gOf ds) with
  | some e => passArgs st e.refs ds fun st1 ds1 =>
    match reach st1.objs 1000 (ds1.flatMap refs1) [] with
    | [] => callWith [] e.q e.spec st1 ds1 K
    | _ => none
  | none => none
structure CalmOK (P : Program) (C : St El → Nat → List (D El) → (St El → D El → Option R) → Option R) : Prop where
  sound : ∀ {st : St El} {f : Nat} {ds : List (D El)} {K : St El → D El → Option R} {r : R}, C st f ds K = some r → ∃ st' d, K st' d = some r ∧ (∀ args w, (callFunc f args).run P w = .ok (.enter f args) w) ∧
    ∀ {X : Ctx El} {S β a w} {vs : Array Value}, Rel X st S β a w → PtL w S β vs.toList ds → Calls P f vs w fun e w' => ∃ v S' β', e = .returned v ∧ Rel X st' S' β' a w' ∧ VRel w' S' β' v d ∧ Stay w w'
theorem mcalmCall_ok {P : Program} {tab : Tab El} (ht : TabOK P tab) : CalmOK P (mcalmCall (R := R) tab) := by
  refine ⟨fun {st f ds K r} h => ?_⟩
  unfold mcalmCall at h
  split at h
  · rename_i e he
    obtain ⟨hf, hen⟩ := ht f _ e he
    obtain ⟨st1, ds1, h1, s1⟩ := passArgs_sound h
    split at h1
    · obtain ⟨st', d, h3, s3⟩ := callWith_sound hf h1
      refine ⟨st', d, h3, hen, fun {X S β a w vs} hr hp => ?_⟩
      obtain ⟨S', a1, a2, a3⟩ := s1 hr hp
      exact (s3 a2 a3 (fun o ho => by cases ho)).mono fun e w' ⟨v, S1, β1, k1, k2, k3, k4⟩ => ⟨v, S1, β1, k1, k2, k3, k4 rfl⟩
    · cases h1
  · cases h
end Go.M
namespace Go.M
set_option linter.unusedVariables false
set_option linter.unusedSectionVars false
open Uni
variable {El : Nat → Type} [Uni El] [UniOK El] {R : Type}
def turns : List (Nat × RM) → St El → Option (St El)
  | [], st => some st
  | (i, m) :: r, st => mmode st m (nth st.tmps i) fun st1 d => turns r (st1.put (some i) d)
theorem turns_ok {q : Nat} : ∀ (l : List (Nat × RM)), WOK (El := El) q (turns l) := by
  intro l
  induction l with
  | nil => intro st st' h X S β a w hq hr; cases h; exact ⟨S, β, hr⟩
  | cons p l ih =>
    intro st st' h X S β a w hq hr
    obtain ⟨st1, d, h1, s1⟩ := mmode_sound h
    obtain ⟨S1, β1, a1, a2, a3, a4⟩ := s1 hr (hr.tmps p.1)
    refine ih _ _ h1 hq (a := a) (w := w) (S := S1) (β := β1) ?_
    have hput := a3.put (some p.1) a4
    by_cases hlt : p.1 < a.tmps.size
    · have e : a.put (some p.1) (a.tmps.getD p.1 undef) = a := by
        simp only [Act.put]
        have : a.tmps.setIfInBounds p.1 (a.tmps.getD p.1 undef) = a.tmps := by
          apply Array.ext
          · simp
          · intro i h1 h2
            rw [Array.getElem_setIfInBounds h2]
            split
            · rename_i hi
              subst hi
              simp [Array.getD, hlt]
            · rfl
        rw [this]
      rw [e] at hput
      exact hput
    · have e : a.put (some p.1) (a.tmps.getD p.1 undef) = a := by
        simp only [Act.put]
        rw [Array.setIfInBounds_eq_of_size_le (by omega)]
      rw [e] at hput
      exact hput
def kept (l : List Nat) : Nat → Nat → List Bool
  | _, 0 => []
  | i, n + 1 => memN i l :: kept l (i + 1) n
def word (q : Nat) (ms : List (Nat × RM)) (keep : List Bool) (st : St El) : Option (St El) :=
  match turns ms st with
  | some st1 => canon q keep st1
  | none => none
theorem word_ok (q : Nat) (ms : List (Nat × RM)) (keep : List Bool) : WOK (El := El) q (word q ms keep) := by
  intro st st' h X S β a w hq hr
  unfold word at h
  split at h
  · rename_i st1 h1
    obtain ⟨S1, β1, hr1⟩ := turns_ok ms st st1 h1 hq hr
    exact ⟨_, _, canonWith_rel h hr1 hq⟩
  · cases h
theorem none_ok (q : Nat) : WOK (El := El) q (fun _ => none) := by
  intro st st' h
  cases h
noncomputable def ell {A : Type} (E : Env El R) (k b : Nat) (view : St El → Option A) (lk : (MX → St El → Option R) → Nat → A → Option R) (x : Code) (K : MX → St El → Option R) (st : St El) : Option R :=
  match E.W b st with
  | some st1 =>
    match view st1 with
    | some p => lk K k p
    | none => mloop (E.W b) (mexec E k b x) (fun e s => match E.X b e s with | some s1 => K e s1 | none => none) k st1
  | none => none
noncomputable def round (E : Env El R) (k b : Nat) (x : Code) (K : MX → St El → Option R) (G : St El → Option R) (st : St El) : Option R :=
  mexec E k b x (fun e st' => match e with | .norm => (match E.W b st' with | some st1 => G st1 | none => none) | e => (match E.X b e st' with | some s1 => K e s1 | none => none)) st
noncomputable def roundG (L : LE El R) (E : Env El R) (b : Nat) (x : Code) (K : MX → St El → Option R) (G : St El → Option R) (st : St El) : Option R :=
  mexecG L E b x (fun e st' => match e with | .norm => (match E.W b st' with | some st1 => G st1 | none => none) | e => (match E.X b e st' with | some s1 => K e s1 | none => none)) st
theorem round_eq {L : LE El R} {E : Env El R} {k b : Nat} {x : Code} (h : AllOf (Told L E k b x)) (K : MX → St El → Option R) (G : St El → Option R) (st : St El) : round E k b x K G st = roundG L E b x K G st := mexecG_eq x h _ st
def loopAt (b : Nat) : Code → Nat → Option Code
  | .seq x y, i => match loopAt b x i with | some r => some r | none => loopAt b y i
  | .cond _ x y, i => match loopAt b x i with | some r => some r | none => loopAt b y i
  | .block j x, _ => loopAt b x j
  | .loop x, i => cond (Nat.beq i b) (some x) (loopAt b x i)
  | _, _ => none
def loopIn (f : Func) (b : Nat) : Code := ((f.body).bind fun c => loopAt b c 0).getD .skip
theorem ell_eq {A : Type} {E : Env El R} {k b : Nat} {view : St El → Option A} {lk : (MX → St El → Option R) → Nat → A → Option R} {x : Code} (stc : A → St El) (hv : ∀ st p, view st = some p → st = stc p)
    (T : (MX → St El → Option R) → (A → Option R) → A → Option R) (h0 : ∀ K p, lk K 0 p = none) (hs : ∀ K n p, lk K (n + 1) p = T K (lk K n) p)
    (hA : ∀ (K : MX → St El → Option R) (G : St El → Option R) p, round E k b x K G (stc p) = T K (fun p' => G (stc p')) p)
    (K : MX → St El → Option R) (st : St El) : mexec E k b (.loop x) K st = ell E k b view lk x K st := by
  simp only [mexec, ell]
  cases E.W b st with
  | none => rfl
  | some st1 =>
    dsimp only
    cases hp : view st1 with
    | none => rfl
    | some p =>
      dsimp only
      rw [hv _ _ hp]
      refine mloop_eq stc (T K) (lk K) (h0 K) (hs K) (fun G p => ?_) k p
      exact hA K G p
def vword {A : Type} (view : St El → Option A) (W : St El → Option (St El)) (st : St El) : Option (St El) :=
  match W st with
  | some st1 => match view st1 with
    | some _ => some st1
    | none => none
  | none => none
theorem vword_ok {q : Nat} {A : Type} {view : St El → Option A} {W : St El → Option (St El)} (h : WOK q W) : WOK q (vword view W) := by
  intro st st' e X S β a w hq hr
  unfold vword at e
  split at e
  · rename_i st1 h1
    split at e
    · cases e
      exact h st _ h1 hq hr
    · cases e
  · cases e
noncomputable def jell {A : Type} (E : Env El R) (k b j : Nat) (view : St El → Option A) (lk : (MX → St El → Option R) → A → Option R) (x : Code) (K : MX → St El → Option R) (st : St El) : Option R :=
  match view st with
  | some p => lk K p
  | none => mexec E k b x (E.wrap j K) st
def joinAt (r : Nat) : Code → Option Code
  | .seq x y => match firstReg y with
    | some i => cond (Nat.beq i r) (some y) (match joinAt r x with | some c => some c | none => joinAt r y)
    | none => match joinAt r x with | some c => some c | none => joinAt r y
  | .cond _ x y => match joinAt r x with | some c => some c | none => joinAt r y
  | .block _ x => joinAt r x
  | .loop x => joinAt r x
  | _ => none
def joinIn (f : Func) (r : Nat) : Code := ((f.body).bind fun c => joinAt r c).getD .skip
theorem jell_eq {A : Type} {E : Env El R} {k b j : Nat} {view : St El → Option A} {lk : (MX → St El → Option R) → A → Option R} {x : Code} (stc : A → St El) (hv : ∀ st p, view st = some p → st = stc p)
    (hA : ∀ (K : MX → St El → Option R) p, mexec E k b x (E.wrap j K) (stc p) = lk K p)
    (K : MX → St El → Option R) (st : St El) : mexec E k b x (E.wrap j K) st = jell E k b j view lk x K st := by
  unfold jell
  cases hp : view st with
  | none => rfl
  | some p =>
    dsimp only
    rw [hv _ _ hp]
    exact hA K p
end Go.M
namespace Go.M
set_option linter.unusedVariables false
set_option linter.unusedSectionVars false
open Uni
variable {El : Nat → Type} [Uni El] [UniOK El] {R : Type}
theorem fnOK_plain {P : Program} {f : Nat} {A T : Type} (decA : List (D El) → List (Nat × MObj El) → Nat → Option A) (F : A → Option T) (outOf : T → Out El) (argsOf : A → List Value) (valOf : T → Value)
    (hA : ∀ ds objs next a, decA ds objs next = some a → objs = [] ∧ toVals ds = some (argsOf a))
    (hout : ∀ y, (outOf y).objs = [] ∧ (outOf y).next = 0 ∧ ∀ w S β, VRel w S β (valOf y) (outOf y).res)
    (hcalls : ∀ a y w, holds El w → F a = some y → Calls P f (argsOf a).toArray w fun e w' => e = .returned (valOf y) ∧ RowKit.Below w.heap.size w w') : FnOK P f 0 (specOf decA F outOf) := by
  intro R ds objs next K r h
  unfold specOf at h
  split at h
  · rename_i a ha
    obtain ⟨y, hy, hk⟩ := bind_some' h
    refine ⟨_, hk, fun w S β vs hp hh hq => ?_⟩
    obtain ⟨rfl, hv⟩ := hA _ _ _ _ ha
    have e : vs.toList = argsOf a := toVals_rel hv hp
    have e2 : vs = (argsOf a).toArray := by rw [← e, Array.toArray_toList]
    subst e2
    refine (hcalls a y w hh.laid.holds hy).mono ?_
    rintro e w' ⟨rfl, hb⟩
    obtain ⟨h1, h2, h3⟩ := hout y
    refine ⟨_, S, fun _ => none, rfl, h3 _ _ _, ?_, ⟨hb.os, hb.tape, hb.output, hb.size, fun k hk _ => hb.block k hk⟩, fun r hr => hr, fun r hr _ => .inl hr, fun i hi => by omega, ?_⟩
    · rw [h1, h2]
      exact ⟨fun o => trivial, fun o1 o2 v1 v2 r l1 => (by cases l1), fun o v r l => (by cases l), fun o _ => rfl, fun r hr => Nat.lt_of_lt_of_le (hh.inside r hr) hb.size, ⟨Uni.dep w w' (fun r hr => hb.block r (hh.laid.stays r hr).2) hh.laid.holds, fun r hr => ⟨(hh.laid.stays r hr).1, Nat.lt_of_lt_of_le (hh.laid.stays r hr).2 hb.size⟩⟩⟩
    · rw [h1]
      rintro r ⟨o, l, _⟩
      cases l
  · cases h
theorem fnOK_plainL {P : Program} {f : Nat} {A T : Type} (decA : List (D El) → List (Nat × MObj El) → Nat → Option A) (F : A → Option T) (outOf : T → Out El) (argsOf : A → List Value) (valOf : T → Value)
    (hA : ∀ ds objs next a, decA ds objs next = some a → objs = [] ∧ toVals ds = some (argsOf a))
    (hout : ∀ y, (outOf y).objs = [] ∧ (outOf y).next = 0 ∧ ∀ w S β, VRel w S β (valOf y) (outOf y).res)
    (hcalls : ∀ a y w, LaidAt El w (fun r => r < w.heap.size) → F a = some y → Calls P f (argsOf a).toArray w fun e w' => e = .returned (valOf y) ∧ RowKit.Below w.heap.size w w') : FnOK P f 0 (specOf decA F outOf) := by
  intro R ds objs next K r h
  unfold specOf at h
  split at h
  · rename_i a ha
    obtain ⟨y, hy, hk⟩ := bind_some' h
    refine ⟨_, hk, fun w S β vs hp hh hq => ?_⟩
    obtain ⟨rfl, hv⟩ := hA _ _ _ _ ha
    have e : vs.toList = argsOf a := toVals_rel hv hp
    have e2 : vs = (argsOf a).toArray := by rw [← e, Array.toArray_toList]
    subst e2
    refine (hcalls a y w ⟨hh.laid.holds, fun r hr => ⟨(hh.laid.stays r hr).2, (hh.laid.stays r hr).2⟩⟩ hy).mono ?_
    rintro e w' ⟨rfl, hb⟩
    obtain ⟨h1, h2, h3⟩ := hout y
    refine ⟨_, S, fun _ => none, rfl, h3 _ _ _, ?_, ⟨hb.os, hb.tape, hb.output, hb.size, fun k hk _ => hb.block k hk⟩, fun r hr => hr, fun r hr _ => .inl hr, fun i hi => by omega, ?_⟩
    · rw [h1, h2]
      exact ⟨fun o => trivial, fun o1 o2 v1 v2 r l1 => (by cases l1), fun o v r l => (by cases l), fun o _ => rfl, fun r hr => Nat.lt_of_lt_of_le (hh.inside r hr) hb.size, ⟨Uni.dep w w' (fun r hr => hb.block r (hh.laid.stays r hr).2) hh.laid.holds, fun r hr => ⟨(hh.laid.stays r hr).1, Nat.lt_of_lt_of_le (hh.laid.stays r hr).2 hb.size⟩⟩⟩
    · rw [h1]
      rintro r ⟨o, l, _⟩
      cases l
  · cases h
end Go.M
namespace Go.M
set_option linter.unusedVariables false
set_option linter.unusedSectionVars false
open Uni
variable {El : Nat → Type} [Uni El] [UniOK El] {R : Type}
def mquietCall (P : Program) (st : St El) (c : Call) (ty : Nat) (K : D El → Option R) : Option R :=
  match c.callee with
  | .builtin .len =>
    match c.args.toList, c.argTypes.toList with
    | [x], [t] => mlen P st t (ev st x) K
    | _, _ => none
  | .builtin .max =>
    match toVals (evs st c.args.toList) with
    | some vs => match prun P (Builtin.max_ c.argTypes ty vs.toArray) with | some v => K (ofVal v) | none => none
    | none => none
  | .builtin .min =>
    match toVals (evs st c.args.toList) with
    | some vs => match prun P (Builtin.min_ c.argTypes ty vs.toArray) with | some v => K (ofVal v) | none => none
    | none => none
  | _ => none
def mquiet (P : Program) (o : Oper) (K : St El → Option R) (st : St El) : Option R :=
  match o.op with
  | .move x => K (st.put o.dst (ev st x))
  | .assign x => K (st.put o.dst (ev st x))
  | .pick c x y =>
    match ev st c with
    | .bool b => mpick b (ev st x) (ev st y) fun d => K (st.put o.dst d)
    | _ => none
  | .build t parts => mbuild P t (parts.toList.map fun p => (p.1, ev st p.2)) fun d => K (st.put o.dst d)
  | .load t x => mderef st (ev st x) fun row c => mpart P t row c fun d => K (st.put o.dst d)
  | .binOp op t x y _ => mbin P op t x y (ev st x) (ev st y) fun d => K (st.put o.dst d)
  | .unOp op _ x =>
    match toVal0 (ev st x) with
    | some v => match prun P (Op.unary op v) with | some u => K (st.put o.dst (ofVal u)) | none => none
    | none => none
  | .convert s t x =>
    match toVal0 (ev st x) with
    | some v => match prun P (convert s t v) with | some u => K (st.put o.dst (ofVal u)) | none => none
    | none => none
  | .slice t x lo hi none => mslice P st t (ev st x) (evo st lo) (evo st hi) fun d => K (st.put o.dst d)
  | .fieldAddr s x f => mfield P s f (ev st x) fun d => K (st.put o.dst d)
  | .indexAddr t x ix => midx P st t (ev st x) (ev st ix) fun d => K (st.put o.dst d)
  | .index t x ix => mindex P t (ev st x) (ev st ix) fun d => K (st.put o.dst d)
  | .extract x i =>
    match ev st x with
    | .tup l => match l[i]? with | some d => K (st.put o.dst d) | none => none
    | _ => none
  | .nilCheck x =>
    match ev st x with
    | .ptr a b c d => K (st.put o.dst (.ptr a b c d))
    | .fptr a b c d => K (st.put o.dst (.fptr a b c d))
    | _ => none
  | .makeFunc fn first caps =>
    match isFunc fn, first.toList with
    | some f, [] => K (st.put o.dst (.fn f (evs st caps.toList)))
    | _, _ => none
  | .call c => mquietCall P st c o.type fun d => K (st.put o.dst d)
  | .lookup t m k ok => mlookup P st t (ev st m) (ev st k) ok fun d => K (st.put o.dst d)
  | _ => none
def GoesQ (P : Program) (X : Ctx El) (o : Oper) (st' : St El) (a : Act) (w : World) : Prop :=
  ∃ v, (∀ w', Stay w w' → (execOp a.eval o).run P w' = .ok (.value v) w') ∧ ∃ S' β', Rel X st' S' β' (a.put o.dst v) w
theorem goesq {P : Program} {X : Ctx El} {o : Oper} {st : St El} {d : D El} {v : Value} {S : Nat → Prop} {β : Beta} {a : Act} {w : World}
    (h : ∀ w', Stay w w' → (execOp a.eval o).run P w' = .ok (.value v) w') (hr : Rel X st S β a w) (hv : VRel w S β v d) : GoesQ P X o (st.put o.dst d) a w :=
  ⟨v, h, S, β, hr.put o.dst hv⟩
theorem mquietCall_sound {P : Program} {st : St El} {c : Call} {ty : Nat} {K : D El → Option R} {r : R} (h : mquietCall P st c ty K = some r) : ∃ d, K d = some r ∧
    ∀ {X : Ctx El} {S β a w} {o : Oper}, o.op = .call c → o.type = ty → Rel X st S β a w → GoesQ P X o (st.put o.dst d) a w := by
  unfold mquietCall at h
  split at h
  · rename_i hcal
    split at h
    · rename_i x t hx ht
      obtain ⟨d, h', s⟩ := mlen_sound h
      refine ⟨_, h', fun {X S β a w o} ho hty hr => ?_⟩
      obtain ⟨u, h1, h2⟩ := s (ty := o.type) hr (ev_rel hr x)
      have ha : c.args = #[x] := by rw [← Array.toArray_toList (xs := c.args), hx]
      have hb : c.argTypes = #[t] := by rw [← Array.toArray_toList (xs := c.argTypes), ht]
      refine goesq (S := S) (β := β) (fun w' _ => ?_) hr h2
      simp only [execOp, ho, resolve, hcal, invoke, builtin, ha, hb, Sem.run_bind, Sem.run_pure, Result.andThen_ok, List.map_toArray, List.map_cons, List.map_nil, h1]
    · cases h
  · rename_i hcal
    split at h
    · rename_i us hus
      split at h
      · rename_i v hv
        refine ⟨_, h, fun {X S β a w o} ho hty hr => ?_⟩
        have e := toVals_rel hus (evs_rel hr c.args.toList)
        have e2 : c.args.map a.eval = us.toArray := by rw [← e, ← Array.toList_map, Array.toArray_toList]
        refine goesq (S := S) (β := β) (fun w' _ => ?_) hr (ofVal_rel w S β v)
        simp only [execOp, ho, resolve, hcal, invoke, builtin, e2, hty, Sem.run_bind, Sem.run_pure, Result.andThen_ok, prun_run hv w']
      · cases h
    · cases h
  · rename_i hcal
    split at h
    · rename_i us hus
      split at h
      · rename_i v hv
        refine ⟨_, h, fun {X S β a w o} ho hty hr => ?_⟩
        have e := toVals_rel hus (evs_rel hr c.args.toList)
        have e2 : c.args.map a.eval = us.toArray := by rw [← e, ← Array.toList_map, Array.toArray_toList]
        refine goesq (S := S) (β := β) (fun w' _ => ?_) hr (ofVal_rel w S β v)
        simp only [execOp, ho, resolve, hcal, invoke, builtin, e2, hty, Sem.run_bind, Sem.run_pure, Result.andThen_ok, prun_run hv w']
      · cases h
    · cases h
  · cases h
theorem mquiet_sound {P : Program} {o : Oper} {K : St El → Option R} {st : St El} {r : R} (h : mquiet P o K st = some r) : ∃ st', K st' = some r ∧
    ∀ {X : Ctx El} {S β a w}, Rel X st S β a w → GoesQ P X o st' a w := by
  unfold mquiet at h
  split at h
  · rename_i x ho
    exact ⟨_, h, fun {X S β a w} hr => goesq (fun w' _ => by simp [execOp, ho]) hr (ev_rel hr x)⟩
  · rename_i x ho
    exact ⟨_, h, fun {X S β a w} hr => goesq (fun w' _ => by simp [execOp, ho]) hr (ev_rel hr x)⟩
  · rename_i c x y ho
    split at h
    · rename_i b hb
      obtain ⟨d, h', s⟩ := mpick_sound h
      refine ⟨_, h', fun {X S β a w} hr => ?_⟩
      have hc := ev_rel hr c
      rw [hb] at hc
      generalize hv : a.eval c = v at hc
      cases hc
      exact goesq (fun w' _ => by simp [execOp, ho, hv, asBool]) hr (s w S β _ _ (ev_rel hr x) (ev_rel hr y))
    · cases h
  · rename_i t parts ho
    obtain ⟨d, h', s⟩ := mbuild_sound h
    refine ⟨_, h', fun {X S β a w} hr => ?_⟩
    obtain ⟨v, h1, h2⟩ := s (w := w) (S := S) (β := β) (parts.map fun p => (p.1, a.eval p.2)) (by simp) (fun i p q g1 g2 => parts_rel hr parts.toList i p q (by simpa using g1) g2)
    exact goesq (fun w' _ => by simp [execOp, ho, h1 w']) hr h2
  · rename_i t x ho
    obtain ⟨row, c, h1, s1⟩ := mderef_sound h
    obtain ⟨d, h2, s2⟩ := mpart_sound h1
    refine ⟨_, h2, fun {X S β a w} hr => ?_⟩
    obtain ⟨u, k1, k2⟩ := s2 (s1 hr (ev_rel hr x))
    exact goesq (fun w' hw => by simp [execOp, ho, k1 w' hw]) hr k2
  · rename_i op t x y yt ho
    obtain ⟨d, h', s⟩ := mbin_sound h
    refine ⟨_, h', fun {X S β a w} hr => ?_⟩
    obtain ⟨z, k1, k2⟩ := s w S β _ _ (ev_rel hr x) (ev_rel hr y)
    exact goesq (fun w' _ => by simp only [execOp, ho, Sem.run_bind, k1 w', Result.andThen_ok, Sem.run_pure]) hr k2
  · rename_i op t x ho
    split at h
    · rename_i v hv
      split at h
      · rename_i u hu
        refine ⟨_, h, fun {X S β a w} hr => ?_⟩
        have e := toVal0_rel hv (ev_rel hr x)
        exact goesq (fun w' _ => by simp only [execOp, ho, Sem.run_bind, e, prun_run hu w', Result.andThen_ok, Sem.run_pure]) hr (ofVal_rel w S β u)
      · cases h
    · cases h
  · rename_i s t x ho
    split at h
    · rename_i v hv
      split at h
      · rename_i u hu
        refine ⟨_, h, fun {X S β a w} hr => ?_⟩
        have e := toVal0_rel hv (ev_rel hr x)
        exact goesq (fun w' _ => by simp only [execOp, ho, Sem.run_bind, e, prun_run hu w', Result.andThen_ok, Sem.run_pure]) hr (ofVal_rel w S β u)
      · cases h
    · cases h
  · rename_i t x lo hi ho
    obtain ⟨e, h', s⟩ := mslice_sound h
    refine ⟨_, h', fun {X S β a w} hr => ?_⟩
    obtain ⟨u, k1, k2⟩ := s hr (ev_rel hr x) (evo_rel hr lo) (evo_rel hr hi)
    exact goesq (fun w' _ => by simp only [execOp, ho, Sem.run_bind, Option.map_none, k1 w', Result.andThen_ok, Sem.run_pure]) hr k2
  · rename_i s x f ho
    obtain ⟨e, h', s⟩ := mfield_sound h
    refine ⟨_, h', fun {X S β a w} hr => ?_⟩
    obtain ⟨u, k1, k2⟩ := s (ev_rel hr x)
    exact goesq (fun w' _ => by simp only [execOp, ho, Sem.run_bind, k1 w', Result.andThen_ok, Sem.run_pure]) hr k2
  · rename_i t x ix ho
    obtain ⟨e, h', s⟩ := midx_sound h
    refine ⟨_, h', fun {X S β a w} hr => ?_⟩
    obtain ⟨u, k1, k2⟩ := s hr (ev_rel hr x) (ev_rel hr ix)
    exact goesq (fun w' _ => by simp only [execOp, ho, Sem.run_bind, k1 w', Result.andThen_ok, Sem.run_pure]) hr k2
  · rename_i t x ix ho
    obtain ⟨e, h', s⟩ := mindex_sound h
    refine ⟨_, h', fun {X S β a w} hr => ?_⟩
    obtain ⟨u, k1, k2⟩ := s (ev_rel hr x) (ev_rel hr ix)
    exact goesq (fun w' _ => by simp only [execOp, ho, Sem.run_bind, k1 w', Result.andThen_ok, Sem.run_pure]) hr k2
  · rename_i x i ho
    split at h
    · rename_i l hx
      split at h
      · rename_i d hd
        refine ⟨_, h, fun {X S β a w} hr => ?_⟩
        have hv := ev_rel hr x
        rw [hx] at hv
        generalize hv2 : a.eval x = v at hv
        cases hv with
        | tup vs _ b1 b2 =>
          have hi : i < vs.size := by rw [b1]; exact (List.getElem?_eq_some_iff.1 hd).1
          have hg : vs[i]? = some vs[i] := by simp [hi]
          exact goesq (fun w' _ => by simp only [execOp, ho, hv2, Instr.extract, hg, Sem.run_bind, Result.andThen_ok, Sem.run_pure]) hr (b2 i _ d hg hd)
      · cases h
    · cases h
  · rename_i x ho
    split at h
    · rename_i o' k i c hx
      refine ⟨_, h, fun {X S β a w} hr => ?_⟩
      have hv := ev_rel hr x
      rw [hx] at hv
      generalize hv2 : a.eval x = v at hv
      cases hv with
      | ptr _ _ _ _ g base b1 b2 => exact goesq (fun w' _ => by simp [execOp, ho, hv2]) hr (.ptr _ _ _ _ g base b1 b2)
    · rename_i t l i c hx
      refine ⟨_, h, fun {X S β a w} hr => ?_⟩
      have hv := ev_rel hr x
      rw [hx] at hv
      generalize hv2 : a.eval x = v at hv
      have hv3 := hv
      cases hv with
      | fptr g off _ _ _ _ C ty fr vs b1 b2 b3 b4 => exact goesq (fun w' _ => by simp [execOp, ho, hv2]) hr hv3
    · cases h
  · rename_i fn first caps ho
    split at h
    · rename_i f hf hfirst
      refine ⟨_, h, fun {X S β a w} hr => ?_⟩
      have hfn : fn = .func f := by
        unfold isFunc at hf
        split at hf
        · cases hf; rfl
        · cases hf
      have hf0 : first = #[] := by rw [← Array.toArray_toList (xs := first), hfirst]
      have e := evs_rel hr caps.toList
      refine goesq (v := .func (.func f) #[] (caps.map a.eval)) (fun w' _ => ?_) hr (.fn f _ _ (by simp [evs]) (fun i v d p q => e.2 i v d (by rw [← Array.toList_map, Array.getElem?_toList]; exact p) q))
      simp only [execOp, ho, hfn, hf0, Instr.makeFunc, Sem.run_bind, Result.andThen_ok, Sem.run_pure]
      simp
    · cases h
  · rename_i c ho
    obtain ⟨d, h', s⟩ := mquietCall_sound h
    exact ⟨_, h', fun {X S β a w} hr => s ho rfl hr⟩
  · rename_i t m k ok ho
    obtain ⟨d, h', s⟩ := mlookup_sound h
    refine ⟨_, h', fun {X S β a w} hr => ?_⟩
    obtain ⟨u, k1, k2⟩ := s hr (ev_rel hr m) (ev_rel hr k)
    exact goesq (fun w' hst => by simp only [execOp, ho, Sem.run_bind, k1 w' hst, Result.andThen_ok, Sem.run_pure]) hr k2
  · cases h
end Go.M
namespace Go.M
set_option linter.unusedVariables false
set_option linter.unusedSectionVars false
open Uni
variable {El : Nat → Type} [Uni El] [UniOK El] {R : Type}
def Grows {α : Type} (ok : α → Prop) : Sem α → Prop
  | .pure a => ok a
  | .program k => ∀ p, Grows ok (k p)
  | .mark _ k => Grows ok k
  | .halt _ => True
  | .load _ _ k => ∀ v, Grows ok (k v)
  | .new _ k => ∀ r, Grows ok (k r)
  | .shape _ k => ∀ s, Grows ok (k s)
  | .frozen _ k => ∀ b, Grows ok (k b)
  | .choose _ k => ∀ n, Grows ok (k n)
  | _ => False
theorem Stay.trans {a b c : World} (h : Stay a b) (k : Stay b c) : Stay a c := fun r hr => by
  have h1 := h r hr
  have hlt : r < b.heap.size := by
    rw [Array.getElem?_eq_getElem hr] at h1
    exact (Array.getElem?_eq_some_iff.1 h1).1
  exact (k r hlt).trans h1
theorem Grows.run {α : Type} {ok : α → Prop} {P : Program} {s : Sem α} (h : Grows ok s) : ∀ {w w1 : World} {x : α}, s.run P w = .ok x w1 → Stay w w1 ∧ ok x := by
  induction s with
  | pure a => intro w w1 x e; simp only [Sem.run] at e; cases e; exact ⟨Stay.refl _, h⟩
  | program k ih => intro w w1 x e; exact ih P (h P) e
  | mark m k ih => intro w w1 x e; exact ih h e
  | halt x => intro w w1 x e; simp only [Sem.run] at e; cases e
  | load m a k ih =>
    intro w w1 x e
    simp only [Sem.run] at e
    split at e
    · exact ih _ (h _) e
    · split at e
      · exact ih _ (h _) e
      · cases e
  | new o k ih =>
    intro w w1 x e
    simp only [Sem.run] at e
    obtain ⟨h1, h2⟩ := ih _ (h _) e
    refine ⟨Stay.trans (fun r hr => ?_) h1, h2⟩
    show (w.heap.push o)[r]? = _
    rw [Array.getElem?_push, if_neg (by omega)]
  | shape r k ih => intro w w1 x e; exact ih _ (h _) e
  | frozen a k ih => intro w w1 x e; exact ih _ (h _) e
  | choose q k ih =>
    intro w w1 x e
    simp only [Sem.run] at e
    split at e
    · exact ih _ (h _) e
    · obtain ⟨h1, h2⟩ := ih _ (h _) e
      exact ⟨fun r hr => h1 r hr, h2⟩
  | _ => exact h.elim
theorem Grows.bind {α γ : Type} {ok : α → Prop} {ok' : γ → Prop} {s : Sem α} {f : α → Sem γ} (h : Grows ok s) (hf : ∀ x, ok x → Grows ok' (f x)) : Grows ok' (s >>= f) := by
  show Grows ok' (s.bind f)
  induction s with
  | pure a => exact hf a h
  | program k ih => exact fun p => ih p (h p)
  | mark m k ih => exact ih h
  | halt x => trivial
  | load m a k ih => exact fun v => ih v (h v)
  | new o k ih => exact fun v => ih v (h v)
  | shape o k ih => exact fun v => ih v (h v)
  | frozen o k ih => exact fun v => ih v (h v)
  | choose o k ih => exact fun v => ih v (h v)
  | _ => exact h.elim
def tt {α : Type} (_ : α) : Prop := True
theorem grows_pure {α : Type} (a : α) : Grows tt (pure a : Sem α) := trivial
theorem grows_typeInfo (t : TypeId) : Grows tt (typeInfo t) := fun p => by
  show Grows tt (match p.info? t with | some i => pure i | none => stuck "no such type")
  split <;> trivial
theorem grows_underlying (t : TypeId) : Grows tt (underlying t) := fun p => by
  show Grows tt (match p.underlying t with | some i => pure i | none => stuck "no such type")
  split <;> trivial
theorem grows_sizeOf (t : TypeId) : Grows tt (sizeOf t) := (grows_typeInfo t).bind fun _ _ => trivial
theorem grows_zero (t : TypeId) : Grows tt (zeroValue t) := (grows_typeInfo t).bind fun i _ => by
  split <;> trivial
theorem grows_newVar (t : TypeId) (v : Value) : Grows tt (newVar t v) := fun _ => trivial
theorem grows_alloc (t : TypeId) : Grows tt (Instr.alloc t true (.tuple #[])) := (grows_zero t).bind fun z _ => (grows_newVar t z).bind fun _ _ => trivial
theorem grows_box (t : TypeId) (v : Value) : Grows tt (Instr.box t v) := (grows_newVar t v).bind fun _ _ => trivial
theorem grows_buildSlice (t : TypeId) (n : Nat) (ps : Array (Nat × Value)) : Grows tt (Instr.buildSlice t n ps) := by
  unfold Instr.buildSlice
  refine (grows_underlying t).bind fun d _ => ?_
  split
  · refine (grows_sizeOf _).bind fun z _ => ?_
    dsimp only
    have tail : ∀ (c : Option (Array Value)) (e : Nat), Grows tt (match c with | some cells => (do pure (Value.slice (some (← newRow e cells)) n n) : Sem Value) | x => stuck "buildSlice: a part of the wrong size") := by
      intro c e
      cases c with
      | none => trivial
      | some cells => exact Grows.bind (ok := tt) (fun _ => trivial) fun _ _ => trivial
    split
    · trivial
    · split
      · exact tail _ _
      · exact (grows_zero _).bind fun _ _ => tail _ _
  · trivial
def isVal (n : Next) : Prop := ∃ v, n = .value v
theorem grows_val {s : Sem Value} (h : Grows tt s) : Grows isVal (do pure (Next.value (← s))) := h.bind fun v _ => ⟨v, rfl⟩
end Go.M
namespace Go.M
set_option linter.unusedVariables false
set_option linter.unusedSectionVars false
open Uni
variable {El : Nat → Type} [Uni El] [UniOK El] {R : Type}
def GoesC (P : Program) (X : Ctx El) (o : Oper) (st' : St El) (a : Act) (w : World) : Prop :=
  ∀ Q, o.wp P a w (fun a' w' => (∃ S' β', Rel X st' S' β' a' w') ∧ Stay w w') Q
theorem GoesC.of_grows {P : Program} {X : Ctx El} {o : Oper} {st' : St El} {a : Act} {w : World} (h : Goes P X o st' a w) (hg : Grows isVal (execOp a.eval o)) : GoesC P X o st' a w := by
  intro Q
  have h := h (fun _ _ _ => False)
  unfold Oper.wp at *
  cases hr : (execOp a.eval o).run P w with
  | ok n w1 =>
    obtain ⟨h1, v, rfl⟩ := hg.run hr
    rw [hr] at h
    exact ⟨h, h1⟩
  | halt x w1 =>
    rw [hr] at h
    cases x <;> exact h.elim
def noCall (st : St El) (f : Nat) (ds : List (D El)) (K : St El → D El → Option R) : Option R := none
theorem noCall_ok {P : Program} : CallOK P (noCall (El := El) (R := R)) := ⟨fun {st f ds K r} h => by cases h⟩
def mcalm (P : Program) (Cc : St El → Nat → List (D El) → (St El → D El → Option R) → Option R) (o : Oper) (K : St El → Option R) (st : St El) : Option R :=
  match o.op with
  | .alloc t => mop P noCall o K st
  | .box t x => mop P noCall o K st
  | .buildSlice t n ps => mop P noCall o K st
  | .call c =>
    match c.callee with
    | .value f =>
      match ev st f with
      | .fn g caps => Cc st g (evs st c.args.toList ++ caps) fun st' d => K (st'.put o.dst d)
      | _ => none
    | _ => none
  | _ => none
theorem mcalm_sound {P : Program} {Cc : St El → Nat → List (D El) → (St El → D El → Option R) → Option R} (hC : CalmOK P Cc) {o : Oper} {K : St El → Option R} {st : St El} {r : R} (h : mcalm P Cc o K st = some r) : ∃ st', K st' = some r ∧
    ∀ {X : Ctx El} {S β a w}, Rel X st S β a w → GoesC P X o st' a w := by
  unfold mcalm at h
  split at h
  · rename_i t ho
    obtain ⟨st', h1, s1⟩ := mop_sound noCall_ok h
    exact ⟨st', h1, fun {X S β a w} hr => GoesC.of_grows (s1 hr) (by simp only [execOp, ho]; exact grows_val (grows_alloc t))⟩
  · rename_i t x ho
    obtain ⟨st', h1, s1⟩ := mop_sound noCall_ok h
    exact ⟨st', h1, fun {X S β a w} hr => GoesC.of_grows (s1 hr) (by simp only [execOp, ho]; exact grows_val (grows_box t _))⟩
  · rename_i t n ps ho
    obtain ⟨st', h1, s1⟩ := mop_sound noCall_ok h
    exact ⟨st', h1, fun {X S β a w} hr => GoesC.of_grows (s1 hr) (by simp only [execOp, ho]; exact grows_val (grows_buildSlice t n _))⟩
  · rename_i c ho
    split at h
    · rename_i f hcal
      split at h
      · rename_i g caps hf
        obtain ⟨st', d, h', hen, s⟩ := hC.sound h
        refine ⟨_, h', fun {X S β a w} hr => ?_⟩
        have hfv := ev_rel hr f
        rw [hf] at hfv
        generalize hv : a.eval f = v at hfv
        cases hfv with
        | fn _ _ vs h1 h2 =>
          have hp : PtL w S β (c.args.map a.eval ++ vs).toList (evs st c.args.toList ++ caps) := by
            refine ⟨?_, ?_⟩
            · simp [evs, h1]
            · intro i v d p q
              simp only [Array.toList_append, Array.toList_map] at p
              rw [List.getElem?_append] at p q
              have e := evs_rel hr c.args.toList
              rw [List.length_map] at p
              have el : (evs st c.args.toList).length = c.args.toList.length := by simp [evs]
              rw [el] at q
              split at p
              · rename_i hi
                rw [if_pos hi] at q
                exact e.2 i v d p q
              · rename_i hi
                rw [if_neg hi] at q
                exact h2 _ v d (by simpa using p) q
          have hrun : (execOp a.eval o).run P w = .ok (.enter g (c.args.map a.eval ++ vs)) w := by
            simp only [execOp, ho, resolve, hcal, hv, Deferred.ofValue, invoke, Sem.run_bind, Sem.run_pure, Result.andThen_ok, hen, Array.empty_append]
          intro Q
          unfold Oper.wp
          rw [hrun]
          show Calls P g _ w _
          refine (s hr hp).mono ?_
          rintro e w' ⟨v, S', β', rfl, k1, k2, k3⟩
          exact ⟨⟨S', β', k1.put o.dst k2⟩, k3⟩
      · cases h
    · cases h
  · cases h
end Go.M
namespace Go.M
set_option linter.unusedVariables false
set_option linter.unusedSectionVars false
open Uni
variable {El : Nat → Type} [Uni El] [UniOK El] {R : Type}
def kindOf (o : Oper) : Nat :=
  match o.op with
  | .move _ | .assign _ | .pick _ _ _ | .build _ _ | .load _ _ | .binOp _ _ _ _ _ | .unOp _ _ _ | .convert _ _ _ | .slice _ _ _ _ _ | .fieldAddr _ _ _ | .indexAddr _ _ _ | .index _ _ _ | .extract _ _ | .nilCheck _ | .makeFunc _ _ _ | .lookup _ _ _ _ => 0
  | .alloc _ | .box _ _ | .buildSlice _ _ _ => 1
  | .call c => match c.callee with
    | .builtin .len | .builtin .max | .builtin .min => 0
    | .value _ => 1
    | _ => 2
  | _ => 2
section
variable {P : Program} {ops : Array Oper} {Q : Exit → Act → World → Prop} {md : Region.Mode}
def wpG (P : Program) (md : Region.Mode) (ops : Array Oper) (Q : Exit → Act → World → Prop) (S : Array Bool → World → Prop) : Nat → Array Bool → Act → World → Prop
  | 0, L, a, w => Region.ready md ops L = [] ∧ Q .normal a w
  | n + 1, L, a, w => (Region.ready md ops L = [] → Q .normal a w) ∧
    ∀ i ∈ Region.ready md ops L, wpOp P ops Q i (fun a' w' => S (L.setIfInBounds i true) w' ∧ wpG P md ops Q S n (L.setIfInBounds i true) a' w') a w
theorem wpG_any {S : Array Bool → World → Prop} : ∀ (n : Nat) (L : Array Bool) (a : Act) (w : World), wpG P md ops Q S n L a w → wpAny P md ops Q n L a w
  | 0, _, _, _, h => h
  | n + 1, L, a, w, h => ⟨h.1, fun i hi => wpOp_mono (fun a' w' h' => wpG_any n _ a' w' h'.2) (h.2 i hi)⟩
def Ext (L L' : Array Bool) : Prop := ∀ j, L.getD j false = true → L'.getD j false = true
theorem Ext.set {L : Array Bool} {i : Nat} : Ext L (L.setIfInBounds i true) := fun j hj => getD_set_true hj
theorem Ext.trans {a b c : Array Bool} (h : Ext a b) (k : Ext b c) : Ext a c := fun j hj => k j (h j hj)
theorem wpG_mono {S S' : Array Bool → World → Prop} : ∀ (n : Nat) (L : Array Bool) (a : Act) (w : World), (∀ L' w', Ext L L' → S L' w' → S' L' w') → wpG P md ops Q S n L a w → wpG P md ops Q S' n L a w
  | 0, _, _, _, _, h => h
  | n + 1, L, a, w, hs, h => ⟨h.1, fun i hi => wpOp_mono (fun a' w' h' => ⟨hs _ _ Ext.set h'.1, wpG_mono n _ a' w' (fun L' w'' he k => hs L' w'' (Ext.set.trans he) k) h'.2⟩) (h.2 i hi)⟩
def isPtrT (P : Program) (t : Nat) : Bool := match P.underlying t with | some (.pointer _) => true | _ => false
def freeB (P : Program) (ops : Array Oper) : Bool := ops.toList.any fun o => match o.op with
  | .call c => (match c.callee with | .value _ => c.argTypes.toList.any (isPtrT P) | _ => false)
  | _ => false
def Broke (P : Program) (ops : Array Oper) (L : Array Bool) : Prop := freeB P ops = true ∨ ∃ (s : Nat) (o : Oper), ops[s]? = some o ∧ kindOf o = 2 ∧ L.getD s false = true
theorem Broke.ext {P : Program} {ops : Array Oper} {L L' : Array Bool} (h : Broke P ops L) (he : Ext L L') : Broke P ops L' := by
  rcases h with h | ⟨s, o, h1, h2, h3⟩
  · exact .inl h
  · exact .inr ⟨s, o, h1, h2, he s h3⟩
theorem Broke.set {P : Program} {ops : Array Oper} {L : Array Bool} {i : Nat} (h : Broke P ops L) : Broke P ops (L.setIfInBounds i true) := h.ext Ext.set
def SB (P : Program) (ops : Array Oper) (w0 : World) (L : Array Bool) (w : World) : Prop := Broke P ops L ∨ Stay w0 w
theorem ready_lt {i : Nat} {L : Array Bool} (h : i ∈ Region.ready md ops L) : L.getD i false = false ∧ i < L.size := by
  have := (mem_ready.1 h).1
  rcases Nat.lt_or_ge i L.size with h' | h'
  · simp [h'] at this ⊢
    exact this
  · simp [Array.getElem?_eq_none h'] at this
theorem broke_set {L : Array Bool} {i : Nat} {o : Oper} (hi : ops[i]? = some o) (hk : kindOf o ≠ 2) (h : Broke P ops (L.setIfInBounds i true)) : Broke P ops L := by
  rcases h with h | ⟨s, os, h1, h2, h3⟩
  · exact .inl h
  have hne : i ≠ s := fun e => by subst e; rw [hi] at h1; cases h1; exact hk h2
  exact .inr ⟨s, os, h1, h2, by rw [getD_set_ne false hne] at h3; exact h3⟩
def Closed (md : Region.Mode) (ops : Array Oper) (L : Array Bool) : Prop := ∀ (s : Nat) (os : Oper), ops[s]? = some os → L.getD s false = true → ∀ e ∈ os.after, Region.binds md e = true → L.getD e.on false = true
theorem Closed.step {L : Array Bool} {j : Nat} (h : Closed md ops L) (hj : j ∈ Region.ready md ops L) : Closed md ops (L.setIfInBounds j true) := by
  intro s os hs hd e he hb
  obtain ⟨_, oj, hoj, hall⟩ := mem_ready.1 hj
  by_cases hsj : s = j
  · subst hsj
    rw [hoj] at hs
    cases hs
    exact getD_set_true (hall e he hb)
  · rw [getD_set_ne false (fun q => hsj q.symm)] at hd
    exact getD_set_true (h s os hs hd e he hb)
theorem wpG_first {i : Nat} {oi : Oper} {v : Value} {w0 : World} (hi : ops[i]? = some oi) (hki : kindOf oi ≠ 2) (hsel : ∀ (j : Nat) (o : Oper) cs b, ops[j]? = some o → o.op ≠ .select cs b)
    (hQ : ∀ c a w, ¬ Q (.panic c) a w) (hbrk : ∀ (L : Array Bool), Closed md ops L → ∀ (s : Nat) (os : Oper), ops[s]? = some os → kindOf os = 2 → s ∈ Region.ready md ops L → L.getD i false = true) :
    ∀ (n : Nat) (L : Array Bool) (a : Act) (w : World), Closed md ops L →
      (∀ (j : Nat) (oj : Oper), ops[j]? = some oj → j ≠ i → L.getD j true = false → (∀ e ∈ oj.after, Region.binds md e = true → e.on ≠ i) → oi.apart ops oj = true) →
      i ∈ Region.ready md ops L → ¬ Broke P ops L → YieldsIf P ops (Stay w0) oi v a → Stay w0 w →
      wpG P md ops Q (SB P ops w0) n (L.setIfInBounds i true) (a.put oi.dst v) w → wpG P md ops Q (SB P ops w0) (n + 1) L a w := by
  intro n
  induction n with
  | zero =>
    intro L a w _ _ hr hb hy hS H
    refine ⟨fun h => (by rw [h] at hr; cases hr), fun j hj => ?_⟩
    by_cases hji : j = i
    · subst hji; exact hy.wpOp hi hS ⟨.inr hS, H⟩
    · have := ready_mono hj hji
      rw [H.1] at this
      cases this
  | succ n ih =>
    intro L a w hcl hfree hr hb hy hS H
    refine ⟨fun h => (by rw [h] at hr; cases hr), fun j hj => ?_⟩
    by_cases hji : j = i
    · subst hji; exact hy.wpOp hi hS ⟨.inr hS, H⟩
    · have h1 := H.2 j (ready_mono hj hji)
      obtain ⟨hjun, oj, hoj, hall⟩ := mem_ready.1 hj
      have hiun := (ready_lt hr).1
      have hnot : ∀ e ∈ oj.after, Region.binds md e = true → e.on ≠ i := fun e he hb heq => by
        have h1 := hall e he hb
        rw [heq, hiun] at h1
        cases h1
      have hkj : kindOf oj ≠ 2 := fun hk => by
        have := hbrk L hcl j oj hoj hk hj
        rw [hiun] at this
        cases this
      have h2 := wpOp_putIf hoj (hfree j oj hoj hji hjun hnot) (fun cs b => hsel i oi cs b hi) (fun cs b => hsel j oj cs b hoj) (fun c a w h => (hQ c _ _ h).elim) hy h1
      have hfree' : ∀ (k : Nat) (ok : Oper), ops[k]? = some ok → k ≠ i → (L.setIfInBounds j true).getD k true = false →
          (∀ e ∈ ok.after, Region.binds md e = true → e.on ≠ i) → oi.apart ops ok = true := fun k ok hk hki hun hno => by
        refine hfree k ok hk hki ?_ hno
        by_cases hjk : j = k
        · subst hjk; exact hjun
        · rw [getD_set_ne true hjk] at hun; exact hun
      refine wpOp_mono (fun a' w' h3 => ?_) h2
      have hst : Stay w0 w' := by
        rcases h3.2.1 with hbr | hst
        · exact absurd (broke_set hi hki (broke_set hoj hkj hbr)) hb
        · exact hst
      refine ⟨.inr hst, ih (L.setIfInBounds j true) a' w' (hcl.step hj) hfree' (ready_mono hr (Ne.symm hji)) (fun hbr => hb (broke_set hoj hkj hbr)) h3.1 hst ?_⟩
      rw [Array.setIfInBounds_comm _ _ hji]
      exact h3.2.2
theorem wpG_pure {i : Nat} {oi : Oper} {v : Value} {S : Array Bool → World → Prop} (hi : ops[i]? = some oi) (hsel : ∀ (j : Nat) (o : Oper) cs b, ops[j]? = some o → o.op ≠ .select cs b)
    (hQ : ∀ c a w, ¬ Q (.panic c) a w) (hS : ∀ L w, S (L.setIfInBounds i true) w → S L w) :
    ∀ (n : Nat) (L : Array Bool) (a : Act) (w : World),
      (∀ (j : Nat) (oj : Oper), ops[j]? = some oj → j ≠ i → L.getD j true = false → (∀ e ∈ oj.after, Region.binds md e = true → e.on ≠ i) → oi.apart ops oj = true) →
      i ∈ Region.ready md ops L → YieldsIf P ops (fun _ => True) oi v a → S (L.setIfInBounds i true) w →
      wpG P md ops Q S n (L.setIfInBounds i true) (a.put oi.dst v) w → wpG P md ops Q S (n + 1) L a w := by
  intro n
  induction n with
  | zero =>
    intro L a w _ hr hy hS0 H
    refine ⟨fun h => (by rw [h] at hr; cases hr), fun j hj => ?_⟩
    by_cases hji : j = i
    · subst hji; exact hy.wpOp hi trivial ⟨hS0, H⟩
    · have := ready_mono hj hji
      rw [H.1] at this
      cases this
  | succ n ih =>
    intro L a w hfree hr hy hS0 H
    refine ⟨fun h => (by rw [h] at hr; cases hr), fun j hj => ?_⟩
    by_cases hji : j = i
    · subst hji; exact hy.wpOp hi trivial ⟨hS0, H⟩
    · have h1 := H.2 j (ready_mono hj hji)
      obtain ⟨hjun, oj, hoj, hall⟩ := mem_ready.1 hj
      have hiun := (ready_lt hr).1
      have hnot : ∀ e ∈ oj.after, Region.binds md e = true → e.on ≠ i := fun e he hb heq => by
        have h1 := hall e he hb
        rw [heq, hiun] at h1
        cases h1
      have h2 := wpOp_putIf hoj (hfree j oj hoj hji hjun hnot) (fun cs b => hsel i oi cs b hi) (fun cs b => hsel j oj cs b hoj) (fun c a w h => (hQ c _ _ h).elim) hy h1
      have hfree' : ∀ (k : Nat) (ok : Oper), ops[k]? = some ok → k ≠ i → (L.setIfInBounds j true).getD k true = false →
          (∀ e ∈ ok.after, Region.binds md e = true → e.on ≠ i) → oi.apart ops ok = true := fun k ok hk hki hun hno => by
        refine hfree k ok hk hki ?_ hno
        by_cases hjk : j = k
        · subst hjk; exact hjun
        · rw [getD_set_ne true hjk] at hun; exact hun
      refine wpOp_mono (fun a' w' h3 => ?_) h2
      have h4 : S ((L.setIfInBounds j true).setIfInBounds i true) w' := by
        rw [Array.setIfInBounds_comm _ _ hji]
        exact h3.2.1
      refine ⟨hS _ _ h4, ih (L.setIfInBounds j true) a' w' hfree' (ready_mono hr (Ne.symm hji)) h3.1 h4 ?_⟩
      rw [Array.setIfInBounds_comm _ _ hji]
      exact h3.2.2
theorem wpG_all {S : Array Bool → World → Prop} {i n : Nat} {L : Array Bool} {a : Act} {w : World} (hr : Region.ready md ops L = [i])
    (h : wpOp P ops Q i (fun a' w' => S (L.setIfInBounds i true) w' ∧ wpG P md ops Q S n (L.setIfInBounds i true) a' w') a w) : wpG P md ops Q S (n + 1) L a w :=
  ⟨fun h0 => (by rw [hr] at h0; cases h0), fun j hj => (by rw [hr] at hj; simp at hj; subst hj; exact h)⟩
theorem wpG_done {S : Array Bool → World → Prop} {L : Array Bool} {a : Act} {w : World} (hr : Region.ready md ops L = []) (h : Q .normal a w) :
    ∀ n, wpG P md ops Q S n L a w
  | 0 => ⟨hr, h⟩
  | _ + 1 => ⟨fun _ => h, by rw [hr]; simp⟩
end
end Go.M

namespace Go.M
set_option linter.unusedVariables false
set_option linter.unusedSectionVars false
open Uni
variable {El : Nat → Type} [Uni El] [UniOK El] {R : Type}
theorem Oper.wp_put {P : Program} {o : Oper} {a : Act} {w : World} {K : Act → World → Prop} {Q : Exit → Act → World → Prop} (h : o.wp P a w K Q) :
    o.wp P a w (fun a' w' => K a' w' ∧ ∃ v, a'.tmps = (a.put o.dst v).tmps) Q := by
  unfold Oper.wp at *
  generalize (execOp a.eval o).run P w = x at *
  have e : ∀ (d : Deferred) v, ({ a with defers := d :: a.defers }.put o.dst v).tmps = (a.put o.dst v).tmps := by
    intro d v
    cases o.dst <;> rfl
  cases x with
  | ok n w1 =>
    cases n with
    | value v => exact ⟨h, v, rfl⟩
    | skip => exact ⟨h, _, rfl⟩
    | defer d => exact ⟨h, _, e d _⟩
    | enter f args =>
      refine Calls.mono h ?_
      intro en w2 h2
      cases en with
      | returned v => exact ⟨h2, v, rfl⟩
      | panicked c => exact h2
      | outgrown => exact h2
    | row r args => exact Rows.mono h (fun v w2 h2 => ⟨h2, v, rfl⟩)
    | _ => exact h.elim
  | halt y w1 => cases y <;> first | exact h | exact h.elim
def Off (st : St El) (β : Beta) (r : Nat) : Prop := ∀ o', (look st.objs o').live = true → ¬ at_ β o' r
theorem chain_step {P : Program} {o : Oper} {st st' : St El} {E : World → World → Prop}
    (hs : ∀ {X : Ctx El} {S β a w}, Rel X st S β a w → ∀ Q, o.wp P a w (fun a' w' => (∃ S' β', Rel X st' S' β' a' w') ∧ E w w') Q)
    {X : Ctx El} {S : Nat → Prop} {β : Beta} {a : Act} {w : World} (hr : Rel X st S β a w) (Q : Exit → Act → World → Prop) :
    o.wp P a w (fun a' w' => (∃ S' β', Rel X st' S' β' a' w' ∧ ∀ r, r < w.heap.size → ¬ S r → Off st β r → w'.heap[r]? = w.heap[r]? ∧ ¬ S' r ∧ Off st' β' r) ∧ E w w' ∧ w.heap.size ≤ w'.heap.size ∧ ∃ v, a'.tmps = (a.put o.dst v).tmps) Q := by
  let X' : Ctx El := { w0 := w, B := fun r => ∃ o', (look st.objs o').live = true ∧ at_ β o' r, S0 := S, q := X.q, β0 := X.β0, ok := ⟨hr.laid, fun r hS ⟨o', l, v, b, k⟩ => (hr.away o' v r l b k).1 hS⟩ }
  have hr' : Rel X' st S β a w := by
    refine ⟨hr.size, hr.tmps, hr.defers, hr.objs, hr.inj, fun o v r l b k => ⟨(hr.away o v r l b k).1, fun _ => ⟨o, l, v, b, k⟩⟩, hr.fresh, hr.inside, fun r h => h, rfl, rfl, rfl, Nat.le_refl _, fun _ _ _ => rfl, fun r h _ => .inl h, hr.root⟩
  refine Oper.wp_mono ?_ (Oper.wp_put (hs hr' Q))
  rintro a' w' ⟨⟨⟨S', β', k⟩, he⟩, hv⟩
  have hB : ∀ r, X'.B r → r < X.w0.heap.size → X.B r := by
    rintro r ⟨o', l, v, b, q⟩ hlt
    exact (hr.away o' v r l b q).2 hlt
  refine ⟨⟨S', β', ?_, ?_⟩, he, k.grown, hv⟩
  · refine ⟨k.size, k.tmps, k.defers, k.objs, k.inj, fun o v r l b q => ⟨(k.away o v r l b q).1, fun hlt => hB r ((k.away o v r l b q).2 (Nat.lt_of_lt_of_le hlt hr.grown)) hlt⟩, k.fresh, k.inside, fun r h => k.stay r (hr.stay r h), k.os.trans hr.os, k.tape.trans hr.tape, k.output.trans hr.output, Nat.le_trans hr.grown k.grown, ?_, ?_, k.root⟩
    · intro r hlt hn
      rw [← hr.frame r hlt hn]
      exact k.frame r (Nat.lt_of_lt_of_le hlt hr.grown) (fun hb => hn (hB r hb hlt))
    · intro r hS hlt
      rcases k.old r hS (Nat.lt_of_lt_of_le hlt hr.grown) with h | h
      · exact hr.old r h hlt
      · exact .inr (hB r h hlt)
  · intro r hlt hnS hoff
    have hnB : ¬ X'.B r := fun ⟨o', l, h⟩ => hoff o' l h
    refine ⟨k.frame r hlt hnB, fun hS => ?_, fun o' l hat => ?_⟩
    · rcases k.old r hS hlt with h | h
      · exact hnS h
      · exact hnB h
    · obtain ⟨v, b, q⟩ := hat
      exact hnB ((k.away o' v r l b q).2 hlt)
structure Flo (X : Ctx El) (P : Program) (st : St El) (S : Nat → Prop) (β : Beta) (a : Act) (w : World) (dst t r : Nat) : Prop where
  tmp : a.tmps.getD dst undef = .pointer (some ⟨r, 0, none⟩)
  lt : dst < a.tmps.size
  heap : ∃ i z, P.info? t = some i ∧ i.zero = some z ∧ w.heap[r]? = some (.cells z.cells t (0, 0))
  out : ¬ S r
  big : X.w0.heap.size ≤ r
  off : Off st β r
theorem Flo.ltw {X : Ctx El} {P : Program} {st : St El} {S : Nat → Prop} {β : Beta} {a : Act} {w : World} {dst t r : Nat} (h : Flo X P st S β a w dst t r) : r < w.heap.size := by
  obtain ⟨i, z, _, _, hh⟩ := h.heap
  exact (Array.getElem?_eq_some_iff.1 hh).1
theorem setNth_nth' (l : List (D El)) (t : Nat) : setNth l t (nth l t) = l := by
  induction l generalizing t with
  | nil => rfl
  | cons d r ih => cases t <;> simp [setNth, nth, ih]
theorem put_getD {a : Act} {d : Option Nat} {v : Value} {i : Nat} (h : d ≠ some i) : (a.put d v).tmps.getD i undef = a.tmps.getD i undef := by
  cases d with
  | none => rfl
  | some j =>
    have hne : j ≠ i := fun e => h (by rw [e])
    simp only [Act.put, Array.getD_eq_getD_getElem?, Array.getElem?_setIfInBounds]
    rw [if_neg hne]
theorem put_size {a : Act} {d : Option Nat} {v : Value} : (a.put d v).tmps.size = a.tmps.size := by
  cases d <;> simp [Act.put]
theorem Flo.step {X : Ctx El} {P : Program} {st st' : St El} {S S' : Nat → Prop} {β β' : Beta} {a a' : Act} {w w' : World} {dst t r : Nat} {d : Option Nat} {v : Value} (h : Flo X P st S β a w dst t r)
    (hk : r < w.heap.size → ¬ S r → Off st β r → w'.heap[r]? = w.heap[r]? ∧ ¬ S' r ∧ Off st' β' r) (hd : d ≠ some dst) (ha : a'.tmps = (a.put d v).tmps) : Flo X P st' S' β' a' w' dst t r := by
  obtain ⟨k1, k2, k3⟩ := hk h.ltw h.out h.off
  obtain ⟨i, z, h1, h2, h3⟩ := h.heap
  exact ⟨by rw [ha, put_getD hd]; exact h.tmp, by rw [ha, put_size]; exact h.lt, ⟨i, z, h1, h2, k1.trans h3⟩, k2, h.big, k3⟩
theorem float_step {P : Program} {o : Oper} {t dst : Nat} (ho : o.op = .alloc t) (hd : o.dst = some dst) {st : St El} {ds : List (D El)} (hz : mzero P t = some ds) (hdead : nth st.tmps dst = .dead) {X : Ctx El} {S : Nat → Prop} {β : Beta} {a : Act} {w : World} (hr : Rel X st S β a w) (hlt : dst < st.tmps.length) (Q : Exit → Act → World → Prop) :
    o.wp P a w (fun a' w' => Rel X st S β a' w' ∧ Flo X P st S β a' w' dst t w.heap.size ∧ (∀ r, r < w.heap.size → w'.heap[r]? = w.heap[r]?) ∧ w'.heap.size = w.heap.size + 1 ∧ a'.tmps = (a.put (some dst) (.pointer (some ⟨w.heap.size, 0, none⟩))).tmps) Q := by
  obtain ⟨i, z, hi, hz1, hs, hrun, hc⟩ := mzero_sound hz
  have e : (execOp a.eval o).run P w = .ok (.value (.pointer (some ⟨w.heap.size, 0, none⟩))) (w.alloc (.cells z.cells t)) := by
    simp [execOp, ho, Instr.alloc, hrun, newVar, newRow, newObj]
    rfl
  unfold Oper.wp
  rw [e]
  show _ ∧ _
  rw [hd]
  have h1 : Rel X st S β a (w.alloc (.cells z.cells t)) := hr.on (T := fun _ => False) (Grew.alloc w _) (fun r h => h.elim) rfl (fun o x h => h) hr.fresh (fun o _ => .inr rfl) (fun o _ => .inl ⟨rfl, rfl, fun r _ h => h⟩)
  have h2 := h1.put (some dst) (v := .pointer (some ⟨w.heap.size, 0, none⟩)) (d := .dead) (.dead _)
  have h3 : st.put (some dst) .dead = st := by
    show ({ st with tmps := setNth st.tmps dst .dead } : St El) = st
    rw [← hdead, setNth_nth']
  rw [h3] at h2
  refine ⟨h2, ⟨?_, ?_, ⟨i, z, hi, hz1, heap_alloc_new w _⟩, fun hS => absurd (hr.inside _ hS) (Nat.lt_irrefl _), hr.grown, ?_⟩, fun r hl => heap_alloc_old w _ r hl, by show (w.heap.push _).size = _; simp, rfl⟩
  · have : dst < a.tmps.size := by rw [hr.size]; exact hlt
    simp [Act.put, Array.getD, this]
  · rw [put_size, hr.size]; exact hlt
  · intro o' l hat
    have := (hr.objs o').lt l hat
    omega
theorem float_in {P : Program} {st : St El} {t dst : Nat} {ds : List (D El)} (hz : mzero P t = some ds) {X : Ctx El} {S : Nat → Prop} {β : Beta} {a : Act} {w : World} (hr : Rel X st S β a w) {r : Nat} (hf : Flo X P st S β a w dst t r) :
    ∃ β', Rel X ((st.new (.box t ds)).put (some dst) (.ptr st.next 0 0 0)) S β' a w ∧ ∀ r', r' ≠ r → Off st β r' → Off ((st.new (.box t ds)).put (some dst) (.ptr st.next 0 0 0)) β' r' := by
  obtain ⟨i, z, hi, hz1, hs, hrun, hc⟩ := mzero_sound hz
  obtain ⟨i', z', hi', hz1', hheap⟩ := hf.heap
  rw [hi] at hi'
  cases hi'
  rw [hz1] at hz1'
  cases hz1'
  have hno := hr.fresh st.next (Nat.le_refl _)
  let v : Value := .pointer (some ⟨r, 0, none⟩)
  have hu : upB β st.next v st.next = some v := by unfold upB; rw [if_pos rfl]
  have hb : ∀ o x, β o = some x → upB β st.next v o = some x := fun o x hx => by
    unfold upB
    rw [if_neg (fun e => by rw [e, hno] at hx; cases hx)]
    exact hx
  have hl : ∀ o, o ≠ st.next → look (st.new (.box t ds)).objs o = look st.objs o := fun o ho => by
    show look (_ :: _) _ = _
    rw [look_cons, if_neg (fun q => ho q.symm)]
  have hn : ∀ o, o ≠ st.next → upB β st.next v o = β o := fun o ho => by unfold upB; rw [if_neg ho]
  have h1 : Rel X (st.new (.box t ds)) S (upB β st.next v) a w := by
    refine hr.on (T := fun k => k = r) (Grew.refl w _) (fun k hk => by subst hk; exact ⟨hf.out, fun hlt => absurd hf.big (by omega)⟩) rfl hb ?_ ?_ ?_
    · intro o ho
      have : st.next + 1 ≤ o := ho
      rw [hn o (by omega)]
      exact hr.fresh o (by omega)
    · intro o hlv
      by_cases ho : o = st.next
      · subst ho
        have e : look (st.new (.box t ds)).objs st.next = .box t ds := by show look (_ :: _) _ = _; rw [look_cons, if_pos rfl]
        rw [e] at hlv
        cases hlv
      · exact .inr (hl o ho)
    · intro o hlv
      by_cases ho : o = st.next
      · subst ho
        refine .inr ⟨?_, ?_⟩
        · have e : look (st.new (.box t ds)).objs st.next = .box t ds := by show look (_ :: _) _ = _; rw [look_cons, if_pos rfl]
          rw [e]
          exact ⟨r, z.cells, hu, hheap, hs, fun j u d p q => hc w S _ j u d p q⟩
        · rintro k ⟨v', hv', hk⟩
          rw [hu] at hv'
          cases hv'
          have hk : some r = some k := hk
          cases hk
          refine ⟨.inr rfl, fun o2 hne l2 hat => ?_⟩
          rw [hl o2 hne] at l2
          refine hf.off o2 l2 ?_
          obtain ⟨v2, b2, k2⟩ := hat
          rw [hn o2 hne] at b2
          exact ⟨v2, b2, k2⟩
      · rw [hl o ho] at hlv
        refine .inl ⟨hl o ho, hn o ho, fun k hat hk => ?_⟩
        subst hk
        exact hf.off o hlv hat
  have h2 := h1.put (some dst) (v := a.tmps.getD dst undef) (d := .ptr st.next 0 0 0) (by
    rw [hf.tmp]
    have := VRel.ptr (w := w) (S := S) (El := El) st.next 0 0 0 r _ hu rfl
    simpa using this)
  have e : a.put (some dst) (a.tmps.getD dst undef) = a := by
    simp only [Act.put]
    have : a.tmps.setIfInBounds dst (a.tmps.getD dst undef) = a.tmps := by
      apply Array.ext
      · simp
      · intro i h1 h2
        rw [Array.getElem_setIfInBounds h2]
        split
        · rename_i hi
          subst hi
          simp [Array.getD, hf.lt]
        · rfl
    rw [this]
  rw [e] at h2
  refine ⟨_, h2, fun r' hne hoff o' l hat => ?_⟩
  have l : (look (st.new (.box t ds)).objs o').live = true := l
  obtain ⟨v', b, k⟩ := hat
  by_cases ho : o' = st.next
  · subst ho
    rw [hu] at b
    cases b
    have k : some r = some r' := k
    cases k
    exact hne rfl
  · rw [hl o' ho] at l
    rw [hn o' ho] at b
    exact hoff o' l ⟨v', b, k⟩
end Go.M
namespace Go.M
set_option linter.unusedVariables false
set_option linter.unusedSectionVars false
open Uni
variable {El : Nat → Type} [Uni El] [UniOK El] {R : Type}
def isFlo (ops : Array Oper) (f : Nat) : Bool :=
  match ops[f]? with
  | some o => match o.op, o.dst, o.guard with
    | .alloc _, some _, none => true
    | _, _, _ => false
  | none => false
def dstF (ops : Array Oper) (f : Nat) : Nat := ((ops[f]?).bind (·.dst)).getD 0
def tyF (ops : Array Oper) (f : Nat) : Nat :=
  match ops[f]? with
  | some o => match o.op with
    | .alloc t => t
    | _ => 0
  | none => 0
theorem isFlo_spec {ops : Array Oper} {f : Nat} (h : isFlo ops f = true) : ∃ o, ops[f]? = some o ∧ o.op = .alloc (tyF ops f) ∧ o.dst = some (dstF ops f) ∧ o.guard = none := by
  unfold isFlo at h
  split at h
  · rename_i o ho
    split at h
    · rename_i t d h1 h2 h3
      refine ⟨o, ho, ?_, ?_, h3⟩
      · simp [tyF, ho, h1]
      · simp [dstF, ho, h2]
    · cases h
  · cases h
def subN (l m : List Nat) : Bool := l.all fun x => memN' x m
where memN' (o : Nat) : List Nat → Bool
  | [] => false
  | x :: r => cond (Nat.beq x o) true (memN' o r)
theorem memN'_iff {o : Nat} : ∀ {l : List Nat}, subN.memN' o l = true ↔ o ∈ l
  | [] => by simp [subN.memN']
  | x :: r => by
    unfold subN.memN'
    cases hb : Nat.beq x o with
    | true => have := beq_true hb; subst this; simp
    | false => have := beq_false hb; simp [memN'_iff (l := r), Ne.symm this]
def eqB : List Bool → List Bool → Bool
  | [], [] => true
  | true :: l, true :: m => eqB l m
  | false :: l, false :: m => eqB l m
  | _, _ => false
theorem eqB_eq : ∀ {l m : List Bool}, eqB l m = true → l = m
  | [], [], _ => rfl
  | true :: l, true :: m, h => by rw [eqB_eq (show eqB l m = true from h)]
  | false :: l, false :: m, h => by rw [eqB_eq (show eqB l m = true from h)]
  | [], _ :: _, h => by cases h
  | true :: l, [], h => by cases h
  | false :: l, [], h => by cases h
  | true :: l, false :: m, h => by cases h
  | false :: l, true :: m, h => by cases h
def rmN (x : Nat) : List Nat → List Nat
  | [] => []
  | y :: r => cond (Nat.beq y x) (rmN x r) (y :: rmN x r)
theorem rmN_mem {x y : Nat} : ∀ {l : List Nat}, y ∈ rmN x l ↔ y ∈ l ∧ y ≠ x
  | [] => by simp [rmN]
  | z :: r => by
    unfold rmN
    cases hb : Nat.beq z x with
    | true =>
      have := beq_true hb
      subst this
      simp only [cond_true, rmN_mem (l := r), List.mem_cons]
      constructor
      · rintro ⟨h, hn⟩; exact ⟨.inr h, hn⟩
      · rintro ⟨h | h, hn⟩
        · exact absurd h hn
        · exact ⟨h, hn⟩
    | false =>
      have := beq_false hb
      simp only [cond_false, List.mem_cons, rmN_mem (l := r)]
      constructor
      · rintro (h | h)
        · subst h; exact ⟨.inl rfl, this⟩
        · exact ⟨.inr h.1, h.2⟩
      · rintro ⟨h | h, hn⟩
        · exact .inl h
        · exact .inr ⟨h, hn⟩
theorem wpOp_yes' {P : Program} {ops : Array Oper} {Q : Exit → Act → World → Prop} {i : Nat} {o : Oper} (hi : ops[i]? = some o) {K : Act → World → Prop} {a : Act} {w : World} (hw : Region.wanted o (yielded ops a.tmps) = true) (h : o.wp P a w K Q) : wpOp P ops Q i K a w := by
  unfold wpOp
  simp only [hi, hw, if_true]
  exact .inl h
theorem wpOp_no' {P : Program} {ops : Array Oper} {Q : Exit → Act → World → Prop} {i : Nat} {o : Oper} (hi : ops[i]? = some o) {K : Act → World → Prop} {a : Act} {w : World} (hw : Region.wanted o (yielded ops a.tmps) = false) (h : K (a.put o.dst undef) w) : wpOp P ops Q i K a w := by
  unfold wpOp
  simp only [hi, hw]
  exact h
def okGroup (ops : Array Oper) (Lend : List Bool) : Nat → Array Bool → List (Nat × Nat) → List Nat → Bool
  | 0, L, cs, F => match cs, F with
    | [], [] => eqB L.toList Lend
    | _, _ => false
  | n + 1, L, cs, F =>
    match Region.ready .any ops L with
    | [] => false
    | rd => match cs with
      | [] => subN rd F && F.all fun f => okGroup ops Lend n (L.setIfInBounds f true) [] (rmN f F)
      | (c, t) :: r => subN rd (c :: F) && (okGroup ops Lend n (L.setIfInBounds c true) r F && F.all fun f => okGroup ops Lend n (L.setIfInBounds f true) ((c, t) :: r) (rmN f F))
def StepOK (P : Program) (ops : Array Oper) (o : Oper) (calm : Bool) (st st1 : St El) : Prop :=
  ((∀ {X : Ctx El} {S β a w}, Rel X st S β a w → Region.wanted o (yielded ops a.tmps) = true) ∧
    ∀ {X : Ctx El} {S β a w}, Rel X st S β a w → ∀ Q, o.wp P a w (fun a' w' => (∃ S' β', Rel X st1 S' β' a' w') ∧ (calm = true → Stay w w')) Q) ∨
  ((∀ {X : Ctx El} {S β a w}, Rel X st S β a w → Region.wanted o (yielded ops a.tmps) = false) ∧ st1 = st.put o.dst (.tup []))
def deads (ops : Array Oper) : List Nat → St El → St El
  | [], st => st
  | f :: r, st => deads ops r (st.put (some (dstF ops f)) .dead)
theorem deads_objs (ops : Array Oper) : ∀ (F : List Nat) (st : St El), (deads ops F st).objs = st.objs
  | [], st => rfl
  | f :: r, st => (deads_objs ops r _).trans rfl
theorem deads_len (ops : Array Oper) : ∀ (F : List Nat) (st : St El), (deads ops F st).tmps.length = st.tmps.length
  | [], st => rfl
  | f :: r, st => (deads_len ops r _).trans (by simp [St.put, length_setNth])
theorem deads_keep (ops : Array Oper) : ∀ (F : List Nat) (st : St El) (i : Nat), nth st.tmps i = .dead → nth (deads ops F st).tmps i = .dead
  | [], st, i, h => h
  | f :: r, st, i, h => deads_keep ops r _ i (by
    show nth (setNth _ _ _) _ = _
    rw [nth_setNth]
    split
    · rfl
    · exact h)
theorem deads_dead (ops : Array Oper) : ∀ (F : List Nat) (st : St El) (f : Nat), f ∈ F → dstF ops f < st.tmps.length → nth (deads ops F st).tmps (dstF ops f) = .dead
  | [], st, f, h, _ => by cases h
  | g :: r, st, f, h, hl => by
    rcases List.mem_cons.1 h with rfl | h
    · refine deads_keep ops r _ _ ?_
      show nth (setNth _ _ _) _ = _
      rw [nth_setNth, if_pos ⟨rfl, hl⟩]
    · exact deads_dead ops r _ f h (by show _ < (setNth _ _ _).length; rw [length_setNth]; exact hl)
theorem Rel.forget {X : Ctx El} {st : St El} {S : Nat → Prop} {β : Beta} {a : Act} {w : World} (h : Rel X st S β a w) (d : Nat) : Rel X (st.put (some d) .dead) S β a w := by
  refine ⟨by show _ = (setNth _ _ _).length; rw [length_setNth]; exact h.size, fun i => ?_, h.defers, h.objs, h.inj, h.away, h.fresh, h.inside, h.stay, h.os, h.tape, h.output, h.grown, h.frame, h.old, h.root⟩
  show VRel w S β _ (nth (setNth _ _ _) _)
  rw [nth_setNth]
  split
  · exact .dead _
  · exact h.tmps i
theorem Rel.deads {X : Ctx El} {ops : Array Oper} {S : Nat → Prop} {β : Beta} {a : Act} {w : World} : ∀ (F : List Nat) {st : St El}, Rel X st S β a w → Rel X (deads ops F st) S β a w
  | [], st, h => h
  | f :: r, st, h => Rel.deads r (h.forget _)
inductive Run (P : Program) (ops : Array Oper) (calm : Bool) (F : List Nat) : List (Nat × Nat) → St El → St El → Prop where
  | nil (st) : Run P ops calm F [] st st
  | cons (c t cs o st st1 stm) : ops[c]? = some o → (∀ f ∈ F, o.dst ≠ some (dstF ops f)) → (calm = true → kindOf o ≠ 2) → StepOK P ops o calm st st1 → Run P ops calm F cs (deads ops F st1) stm → Run P ops calm F ((c, t) :: cs) st stm
def Flos (X : Ctx El) (P : Program) (ops : Array Oper) (st : St El) (S : Nat → Prop) (β : Beta) (a : Act) (w : World) (D : Nat → Prop) (ρ : Nat → Nat) : Prop :=
  (∀ f, D f → Flo X P st S β a w (dstF ops f) (tyF ops f) (ρ f)) ∧ ∀ f g, D f → D g → ρ f = ρ g → f = g
theorem Flo.congr {X : Ctx El} {P : Program} {st st' : St El} {S : Nat → Prop} {β : Beta} {a : Act} {w : World} {dst t r : Nat} (h : Flo X P st S β a w dst t r) (ho : st'.objs = st.objs) : Flo X P st' S β a w dst t r :=
  ⟨h.tmp, h.lt, h.heap, h.out, h.big, by intro o l; rw [ho] at l; exact h.off o l⟩
theorem group_wp {P : Program} {ops : Array Oper} {Q : Exit → Act → World → Prop} {X : Ctx El} {w0 : World} {calm : Bool} {Lend : Array Bool} {stm : St El} {m : Nat} {F0 : List Nat}
    (hF : ∀ f ∈ F0, isFlo ops f = true) (hdd : ∀ f ∈ F0, ∀ g ∈ F0, dstF ops f = dstF ops g → f = g) (hz : ∀ f ∈ F0, ∃ ds : List (D El), mzero P (tyF ops f) = some ds)
    (hend : ∀ {S β a w ρ}, Closed .any ops Lend → Rel X stm S β a w → Flos X P ops stm S β a w (· ∈ F0) ρ → (calm = false → Broke P ops Lend) → (calm = true → ¬ Broke P ops Lend ∧ Stay w0 w) → wpG P .any ops Q (SB P ops w0) m Lend a w) :
    ∀ (n : Nat) (L : Array Bool) (cs : List (Nat × Nat)) (F : List Nat) (st : St El) (S : Nat → Prop) (β : Beta) (a : Act) (w : World) (ρ : Nat → Nat), Closed .any ops L →
      okGroup ops Lend.toList n L cs F = true → Run P ops calm F0 cs st stm → (∀ f ∈ F, f ∈ F0) → (∀ f ∈ F0, nth st.tmps (dstF ops f) = .dead ∧ dstF ops f < st.tmps.length) →
      Rel X st S β a w → Flos X P ops st S β a w (fun f => f ∈ F0 ∧ f ∉ F) ρ → (calm = false → Broke P ops L) → (calm = true → ¬ Broke P ops L ∧ Stay w0 w) → wpG P .any ops Q (SB P ops w0) (n + m) L a w := by
  intro n
  induction n with
  | zero =>
    intro L cs F st S β a w ρ hcl hok hrun hsub hdead hr hfl hb1 hb2
    unfold okGroup at hok
    split at hok
    · have := Array.toList_inj.1 (eqB_eq hok)
      subst this
      cases hrun
      rw [Nat.zero_add]
      exact hend hcl hr ⟨fun f hf => hfl.1 f ⟨hf, by simp⟩, fun f g hf hg => hfl.2 f g ⟨hf, by simp⟩ ⟨hg, by simp⟩⟩ hb1 hb2
    · cases hok
  | succ n ih =>
    intro L cs F st S β a w ρ hcl hok hrun hsub hdead hr hfl hb1 hb2
    have e : n + 1 + m = (n + m) + 1 := by omega
    rw [e]
    -- a float's step
    have flo : ∀ f ∈ F, f ∈ Region.ready .any ops L → okGroup ops Lend.toList n (L.setIfInBounds f true) cs (rmN f F) = true → wpOp P ops Q f (fun a' w' => SB P ops w0 (L.setIfInBounds f true) w' ∧ wpG P .any ops Q (SB P ops w0) (n + m) (L.setIfInBounds f true) a' w') a w := by
      intro f hf hrd hk
      obtain ⟨o, ho, hop, hdst, hg⟩ := isFlo_spec (hF f (hsub f hf))
      obtain ⟨ds, hzf⟩ := hz f (hsub f hf)
      obtain ⟨hd1, hd2⟩ := hdead f (hsub f hf)
      refine wpOp_yes' ho (by simp [Region.wanted, hg]) ?_
      refine Oper.wp_mono ?_ (float_step hop hdst hzf hd1 hr hd2 Q)
      rintro a' w' ⟨k1, k2, k3, k4, k5⟩
      have hst : Stay w w' := fun r hl => k3 r hl
      have hkind : kindOf o ≠ 2 := by simp [kindOf, hop]
      have b1 : calm = false → Broke P ops (L.setIfInBounds f true) := fun hc => (hb1 hc).set
      have b2 : calm = true → ¬ Broke P ops (L.setIfInBounds f true) ∧ Stay w0 w' := fun hc => ⟨fun hb => (hb2 hc).1 (broke_set ho hkind hb), (hb2 hc).2.trans hst⟩
      refine ⟨?_, ih _ cs (rmN f F) st S β a' w' (fun g => if g = f then w.heap.size else ρ g) (hcl.step hrd) hk hrun (fun g hg => hsub g (rmN_mem.1 hg).1) hdead k1 ⟨?_, ?_⟩ b1 b2⟩
      · cases hcalm : calm with
        | false => exact .inl (b1 hcalm)
        | true => exact .inr (b2 hcalm).2
      · rintro g ⟨hg0, hgn⟩
        dsimp only
        by_cases he : g = f
        · subst he
          rw [if_pos rfl]
          exact k2
        · rw [if_neg he]
          have hgF : g ∉ F := fun h => hgn (rmN_mem.2 ⟨h, he⟩)
          refine (hfl.1 g ⟨hg0, hgF⟩).step (d := some (dstF ops f)) (v := .pointer (some ⟨w.heap.size, 0, none⟩)) (fun h1 h2 h3 => ⟨k3 _ h1, h2, h3⟩) ?_ k5
          intro hq
          exact he (hdd g hg0 f (hsub f hf) (Option.some.inj hq).symm)
      · rintro g1 g2 ⟨h1, h1n⟩ ⟨h2, h2n⟩ heq
        dsimp only at heq
        by_cases e1 : g1 = f
        · by_cases e2 : g2 = f
          · rw [e1, e2]
          · rw [if_pos e1, if_neg e2] at heq
            have := (hfl.1 g2 ⟨h2, fun h => h2n (rmN_mem.2 ⟨h, e2⟩)⟩).ltw
            omega
        · by_cases e2 : g2 = f
          · rw [if_neg e1, if_pos e2] at heq
            have := (hfl.1 g1 ⟨h1, fun h => h1n (rmN_mem.2 ⟨h, e1⟩)⟩).ltw
            omega
          · rw [if_neg e1, if_neg e2] at heq
            exact hfl.2 g1 g2 ⟨h1, fun h => h1n (rmN_mem.2 ⟨h, e1⟩)⟩ ⟨h2, fun h => h2n (rmN_mem.2 ⟨h, e2⟩)⟩ heq
    unfold okGroup at hok
    split at hok
    · cases hok
    · rename_i rd hne hrd
      split at hok
      · obtain ⟨hs, ha⟩ := Bool.and_eq_true_iff.1 hok
        refine ⟨fun h0 => absurd h0 (by intro h; exact hrd h), fun i hi => ?_⟩
        have hiF : i ∈ F := memN'_iff.1 (List.all_eq_true.1 hs i hi)
        exact flo i hiF hi (List.all_eq_true.1 ha i hiF)
      · rename_i c t r
        obtain ⟨hs, ha⟩ := Bool.and_eq_true_iff.1 hok
        obtain ⟨hc, ha⟩ := Bool.and_eq_true_iff.1 ha
        refine ⟨fun h0 => absurd h0 (by intro h; exact hrd h), fun i hi => ?_⟩
        have him := memN'_iff.1 (List.all_eq_true.1 hs i hi)
        by_cases hic : i = c
        · subst hic
          cases hrun with
          | cons _ _ _ o _ st1 _ ho hdst hkind hstep hrest =>
            have b1 : calm = false → Broke P ops (L.setIfInBounds i true) := fun hc => (hb1 hc).set
            have fin : ∀ (a' : Act) (w' : World) (S' : Nat → Prop) (β' : Beta) v, Rel X st1 S' β' a' w' → (∀ r, r < w.heap.size → ¬ S r → Off st β r → w'.heap[r]? = w.heap[r]? ∧ ¬ S' r ∧ Off st1 β' r) → (calm = true → Stay w w') → a'.tmps = (a.put o.dst v).tmps →
                SB P ops w0 (L.setIfInBounds i true) w' ∧ wpG P .any ops Q (SB P ops w0) (n + m) (L.setIfInBounds i true) a' w' := by
              intro a' w' S' β' v hr1 hk hst hv
              have b2 : calm = true → ¬ Broke P ops (L.setIfInBounds i true) ∧ Stay w0 w' := fun hc => ⟨fun hb => (hb2 hc).1 (broke_set ho (hkind hc) hb), (hb2 hc).2.trans (hst hc)⟩
              have hlen : st1.tmps.length = st.tmps.length := by rw [← hr1.size, ← hr.size, hv, put_size]
              refine ⟨?_, ih _ r F (deads ops F0 st1) S' β' a' w' ρ (hcl.step hi) hc hrest hsub (fun f hf => ⟨deads_dead ops F0 st1 f hf (by rw [hlen]; exact (hdead f hf).2), by rw [deads_len, hlen]; exact (hdead f hf).2⟩) (hr1.deads F0) ⟨?_, hfl.2⟩ b1 b2⟩
              · cases hcalm : calm with
                | false => exact .inl (b1 hcalm)
                | true => exact .inr (b2 hcalm).2
              · rintro f ⟨hf0, hfn⟩
                exact ((hfl.1 f ⟨hf0, hfn⟩).step (hk (ρ f)) (hdst f hf0) hv).congr (deads_objs ops F0 st1)
            rcases hstep with ⟨hw, hg⟩ | ⟨hw, rfl⟩
            · refine wpOp_yes' ho (hw hr) (Oper.wp_mono ?_ (chain_step (fun {X S β a w} hr Q => hg hr Q) hr Q))
              rintro a' w' ⟨⟨S', β', k1, k2⟩, k3, _, v, k4⟩
              exact fin a' w' S' β' v k1 k2 k3 k4
            · refine wpOp_no' ho (hw hr) ?_
              exact fin _ w S β undef (hr.put o.dst .undef) (fun r h1 h2 h3 => ⟨rfl, h2, fun o' l => h3 o' (by cases hd : o.dst <;> rw [hd] at l <;> exact l)⟩) (fun _ => Stay.refl w) rfl
        · have hiF : i ∈ F := by
            rcases List.mem_cons.1 him with h | h
            · exact absurd h hic
            · exact h
          exact flo i hiF hi (List.all_eq_true.1 ha i hiF)
end Go.M
namespace Go.M
set_option linter.unusedVariables false
set_option linter.unusedSectionVars false
open Uni
variable {El : Nat → Type} [Uni El] [UniOK El] {R : Type}
def isB (ops : Array Oper) (f : Nat) : Bool :=
  match ops[f]? with
  | some o => match o.op, o.dst, o.guard with
    | .load _ _, some _, none => true
    | _, _, _ => false
  | none => false
def isC (ops : Array Oper) (f : Nat) : Bool :=
  match ops[f]? with
  | some o => match o.op, o.dst, o.guard with
    | .buildSlice _ _ _, some _, none => true
    | _, _, _ => false
  | none => false
theorem isB_spec {ops : Array Oper} {f : Nat} (h : isB ops f = true) : ∃ o t x, ops[f]? = some o ∧ o.op = .load t x ∧ o.dst = some (dstF ops f) ∧ o.guard = none := by
  unfold isB at h
  split at h
  · rename_i o ho
    split at h
    · rename_i t x d h1 h2 h3
      exact ⟨o, t, x, ho, h1, by simp [dstF, ho, h2], h3⟩
    · cases h
  · cases h
theorem isC_spec {ops : Array Oper} {f : Nat} (h : isC ops f = true) : ∃ o t n ps, ops[f]? = some o ∧ o.op = .buildSlice t n ps ∧ o.dst = some (dstF ops f) ∧ o.guard = none := by
  unfold isC at h
  split at h
  · rename_i o ho
    split at h
    · rename_i t n ps d h1 h2 h3
      exact ⟨o, t, n, ps, ho, h1, by simp [dstF, ho, h2], h3⟩
    · cases h
  · cases h
theorem isBC {ops : Array Oper} {f : Nat} (h : isB ops f = true) (k : isC ops f = true) : False := by
  obtain ⟨o, t, x, ho, h1, _⟩ := isB_spec h
  obtain ⟨o', t', n, ps, ho', h1', _⟩ := isC_spec k
  rw [ho] at ho'
  cases ho'
  rw [h1] at h1'
  cases h1'
theorem mderef_par {st : St El} {d : D El} {K : List (D El) → Nat → Option R} {r : R} (h : mderef st d K = some r) : ∃ row c, K row c = some r ∧ ∀ {R' : Type} (K' : List (D El) → Nat → Option R'), mderef st d K' = K' row c := by
  cases d with
  | ptr o k i c =>
    unfold mderef at h ⊢
    dsimp only at h ⊢
    cases hl : look st.objs o with
    | box ty cells =>
      rw [hl] at h
      obtain ⟨h1, h2⟩ := cond_some h
      exact ⟨cells, c, h2, fun K' => by simp only [h1, cond_true]⟩
    | arr t l =>
      rw [hl] at h
      obtain ⟨h1, h2⟩ := cond_some h
      obtain ⟨x, h3, h4⟩ := bind_some' h2
      exact ⟨_, c, h4, fun K' => by simp only [h1, cond_true, h3, Option.bind_some]⟩
    | ice t l =>
      rw [hl] at h
      obtain ⟨h1, h2⟩ := cond_some h
      obtain ⟨x, h3, h4⟩ := bind_some' h2
      exact ⟨_, c, h4, fun K' => by simp only [h1, cond_true, h3, Option.bind_some]⟩
    | gone => rw [hl] at h; cases h
    | map kk g e l => rw [hl] at h; cases h
  | fptr t l i c =>
    obtain ⟨x, h3, h4⟩ := bind_some' (show (l[i]?).bind (fun x => K (enc t x) c) = some r from h)
    refine ⟨_, c, h4, fun K' => ?_⟩
    show (l[i]?).bind _ = _
    rw [h3, Option.bind_some]
  | _ => cases h
theorem mpart_par {P : Program} {t : Nat} {row : List (D El)} {c : Nat} {K : D El → Option R} {r : R} (h : mpart P t row c K = some r) : ∃ d, K d = some r ∧ ∀ {R' : Type} (K' : D El → Option R'), mpart P t row c K' = K' d := by
  unfold mpart at h ⊢
  split at h
  · obtain ⟨h1, h2⟩ := cond_some h
    exact ⟨_, h2, fun K' => by simp only [h1, cond_true]⟩
  · obtain ⟨h1, h2⟩ := cond_some h
    exact ⟨_, h2, fun K' => by simp only [h1, cond_true]⟩
  · split at h
    · rename_i d hd
      exact ⟨d, h, fun K' => by simp only [hd]⟩
    · cases h
  · cases h
def loadD (P : Program) (st : St El) (o : Oper) (K : D El → Option R) : Option R :=
  match o.op with
  | .load t x => mderef st (ev st x) fun row c => mpart P t row c K
  | _ => none
theorem loadD_par {P : Program} {st : St El} {o : Oper} {K : D El → Option R} {r : R} (h : loadD P st o K = some r) : ∃ d, K d = some r ∧ ∀ {R' : Type} (K' : D El → Option R'), loadD P st o K' = K' d := by
  unfold loadD at h ⊢
  split at h
  · obtain ⟨row, c, h1, p1⟩ := mderef_par h
    obtain ⟨d, h2, p2⟩ := mpart_par h1
    exact ⟨d, h2, fun K' => by rw [p1, p2]⟩
  · cases h
def loadV (P : Program) (ops : Array Oper) (st : St El) (f : Nat) : Option Value :=
  match ops[f]? with
  | some o => loadD P st o toVal0
  | none => none
theorem loadV_run {P : Program} {ops : Array Oper} {st : St El} {f : Nat} {v : Value} {o : Oper} (ho : ops[f]? = some o) (h : loadV P ops st f = some v) {X : Ctx El} {S : Nat → Prop} {β : Beta} {a : Act} {w : World} (hr : Rel X st S β a w) :
    (execOp a.eval o).run P w = .ok (.value v) w := by
  unfold loadV loadD at h
  rw [ho] at h
  dsimp only at h
  split at h
  · rename_i t x hop
    obtain ⟨row, c, h1, s1⟩ := mderef_sound h
    obtain ⟨d, h2, s2⟩ := mpart_sound h1
    obtain ⟨u, k1, k2⟩ := s2 (s1 hr (ev_rel hr x))
    have := toVal0_rel h2 k2
    subst this
    have k1 := k1 w (Stay.refl w)
    simp [execOp, hop, k1]
  · cases h
theorem toVal0_vrel {d : D El} {v : Value} (h : toVal0 d = some v) (w : World) (S : Nat → Prop) (β : Beta) : VRel w S β v d := by
  cases d <;> simp [toVal0] at h <;> subst h <;> constructor
structure FC (El : Nat → Type) where
  e : Nat
  l : List (El e)
  cells : Array Value
def FC.good (x : FC El) : Prop :=
  x.cells.size = x.l.length * width El x.e ∧ x.l.length ≤ maxLen ∧ ∀ (w : World) (S : Nat → Prop) (β : Beta) (i : Nat) y (j : Nat) d, x.l[i]? = some y → (enc x.e y)[j]? = some d → ∃ u, x.cells[i * width El x.e + j]? = some u ∧ VRel w S β u d
def FC.val (x : FC El) (r : Nat) : Value := .slice (some ⟨r, 0, none⟩) x.l.length x.l.length
structure HeldC (X : Ctx El) (st : St El) (S : Nat → Prop) (β : Beta) (a : Act) (w : World) (dst : Nat) (x : FC El) (r : Nat) : Prop where
  tmp : a.tmps.getD dst undef = x.val r
  lt : dst < a.tmps.size
  heap : w.heap[r]? = some (.cells x.cells x.e (0, 0))
  out : ¬ S r
  big : X.w0.heap.size ≤ r
  off : Off st β r
structure HeldB (a : Act) (dst : Nat) (v : Value) : Prop where
  tmp : a.tmps.getD dst undef = v
  lt : dst < a.tmps.size
theorem HeldC.ltw {X : Ctx El} {st : St El} {S : Nat → Prop} {β : Beta} {a : Act} {w : World} {dst : Nat} {x : FC El} {r : Nat} (h : HeldC X st S β a w dst x r) : r < w.heap.size := (Array.getElem?_eq_some_iff.1 h.heap).1
theorem HeldC.step {X : Ctx El} {st st' : St El} {S S' : Nat → Prop} {β β' : Beta} {a a' : Act} {w w' : World} {dst r : Nat} {x : FC El} {d : Option Nat} {v : Value} (h : HeldC X st S β a w dst x r)
    (hk : r < w.heap.size → ¬ S r → Off st β r → w'.heap[r]? = w.heap[r]? ∧ ¬ S' r ∧ Off st' β' r) (hd : d ≠ some dst) (ha : a'.tmps = (a.put d v).tmps) : HeldC X st' S' β' a' w' dst x r := by
  obtain ⟨k1, k2, k3⟩ := hk h.ltw h.out h.off
  exact ⟨by rw [ha, put_getD hd]; exact h.tmp, by rw [ha, put_size]; exact h.lt, k1.trans h.heap, k2, h.big, k3⟩
theorem HeldC.congr {X : Ctx El} {st st' : St El} {S : Nat → Prop} {β : Beta} {a : Act} {w : World} {dst r : Nat} {x : FC El} (h : HeldC X st S β a w dst x r) (ho : st'.objs = st.objs) : HeldC X st' S β a w dst x r :=
  ⟨h.tmp, h.lt, h.heap, h.out, h.big, by intro o l; rw [ho] at l; exact h.off o l⟩
theorem HeldB.step {a a' : Act} {dst : Nat} {v u : Value} {d : Option Nat} (h : HeldB a dst v) (hd : d ≠ some dst) (ha : a'.tmps = (a.put d u).tmps) : HeldB a' dst v :=
  ⟨by rw [ha, put_getD hd]; exact h.tmp, by rw [ha, put_size]; exact h.lt⟩
theorem put_self {a : Act} {d : Nat} (h : d < a.tmps.size) : a.put (some d) (a.tmps.getD d undef) = a := by
  simp only [Act.put]
  have : a.tmps.setIfInBounds d (a.tmps.getD d undef) = a.tmps := by
    apply Array.ext
    · simp
    · intro i h1 h2
      rw [Array.getElem_setIfInBounds h2]
      split
      · rename_i hi
        subst hi
        simp [Array.getD, h]
      · rfl
  rw [this]
theorem put_dead {st : St El} {d : Nat} (h : nth st.tmps d = .dead) : st.put (some d) .dead = st := by
  show ({ st with tmps := setNth st.tmps d .dead } : St El) = st
  rw [← h, setNth_nth']
theorem heldB_in {st : St El} {dst : Nat} {d : D El} {v : Value} (hd : toVal0 d = some v) {X : Ctx El} {S : Nat → Prop} {β : Beta} {a : Act} {w : World} (hr : Rel X st S β a w) (hb : HeldB a dst v) : Rel X (st.put (some dst) d) S β a w := by
  have h := hr.put (some dst) (v := v) (d := d) (toVal0_vrel hd w S β)
  rw [← hb.tmp, put_self hb.lt] at h
  exact h
theorem heldC_in {st : St El} {dst : Nat} {x : FC El} (hg : x.good) {X : Ctx El} {S : Nat → Prop} {β : Beta} {a : Act} {w : World} (hr : Rel X st S β a w) {r : Nat} (hf : HeldC X st S β a w dst x r) :
    ∃ β', Rel X ((st.new (.arr x.e x.l)).put (some dst) (.all st.next (width El x.e))) S β' a w ∧ ∀ r', r' ≠ r → Off st β r' → Off ((st.new (.arr x.e x.l)).put (some dst) (.all st.next (width El x.e))) β' r' := by
  have hno := hr.fresh st.next (Nat.le_refl _)
  let v : Value := x.val r
  have hu : upB β st.next v st.next = some v := by unfold upB; rw [if_pos rfl]
  have hb : ∀ o y, β o = some y → upB β st.next v o = some y := fun o y hy => by
    unfold upB
    rw [if_neg (fun e => by rw [e, hno] at hy; cases hy)]
    exact hy
  have hl : ∀ o, o ≠ st.next → look (st.new (.arr x.e x.l)).objs o = look st.objs o := fun o ho => by
    show look (_ :: _) _ = _
    rw [look_cons, if_neg (fun q => ho q.symm)]
  have hn : ∀ o, o ≠ st.next → upB β st.next v o = β o := fun o ho => by unfold upB; rw [if_neg ho]
  have e0 : look (st.new (.arr x.e x.l)).objs st.next = .arr x.e x.l := by show look (_ :: _) _ = _; rw [look_cons, if_pos rfl]
  have h1 : Rel X (st.new (.arr x.e x.l)) S (upB β st.next v) a w := by
    refine hr.on (T := fun k => k = r) (Grew.refl w _) (fun k hk => by subst hk; exact ⟨hf.out, fun hlt => absurd hf.big (by omega)⟩) rfl hb ?_ ?_ ?_
    · intro o ho
      have : st.next + 1 ≤ o := ho
      rw [hn o (by omega)]
      exact hr.fresh o (by omega)
    · intro o hlv
      by_cases ho : o = st.next
      · subst ho
        rw [e0] at hlv
        cases hlv
      · exact .inr (hl o ho)
    · intro o hlv
      by_cases ho : o = st.next
      · subst ho
        refine .inr ⟨?_, ?_⟩
        · rw [e0]
          refine ⟨v, x.cells.toList, hu, ⟨by simpa using hg.1, .inr ⟨r, x.l.length, x.cells, rfl, Nat.zero_le _, hf.heap, Nat.le_refl _, hg.2.1, hg.1, by rw [← hg.1]; exact List.take_of_length_le (by simp)⟩⟩, fun i y j d p q => ?_⟩
          obtain ⟨u, k1, k2⟩ := hg.2.2 w S (upB β st.next v) i y j d p q
          exact ⟨u, by simpa using k1, k2⟩
        · rintro k ⟨v', hv', hk⟩
          rw [hu] at hv'
          cases hv'
          have hk : some r = some k := hk
          cases hk
          refine ⟨.inr rfl, fun o2 hne l2 hat => ?_⟩
          rw [hl o2 hne] at l2
          refine hf.off o2 l2 ?_
          obtain ⟨v2, b2, k2⟩ := hat
          rw [hn o2 hne] at b2
          exact ⟨v2, b2, k2⟩
      · rw [hl o ho] at hlv
        refine .inl ⟨hl o ho, hn o ho, fun k hat hk => ?_⟩
        subst hk
        exact hf.off o hlv hat
  have h2 := h1.put (some dst) (v := a.tmps.getD dst undef) (d := .all st.next (width El x.e)) (by
    rw [hf.tmp]
    exact .all _ _ _ _ _ hu)
  rw [put_self hf.lt] at h2
  refine ⟨_, h2, fun r' hne hoff o' l hat => ?_⟩
  have l : (look (st.new (.arr x.e x.l)).objs o').live = true := l
  obtain ⟨v', b, k⟩ := hat
  by_cases ho : o' = st.next
  · subst ho
    rw [hu] at b
    cases b
    have k : some r = some r' := k
    cases k
    exact hne rfl
  · rw [hl o' ho] at l
    rw [hn o' ho] at b
    exact hoff o' l ⟨v', b, k⟩
theorem heldB_step {P : Program} {ops : Array Oper} {o : Oper} {f dst : Nat} {v : Value} (ho : ops[f]? = some o) (hd : o.dst = some dst) {st : St El} (hv : loadV P ops st f = some v) (hdead : nth st.tmps dst = .dead) {X : Ctx El} {S : Nat → Prop} {β : Beta} {a : Act} {w : World} (hr : Rel X st S β a w) (hlt : dst < st.tmps.length) (Q : Exit → Act → World → Prop) :
    o.wp P a w (fun a' w' => w' = w ∧ Rel X st S β a' w ∧ HeldB a' dst v ∧ a'.tmps = (a.put (some dst) v).tmps) Q := by
  unfold Oper.wp
  rw [loadV_run ho hv hr]
  show _ ∧ _
  rw [hd]
  have h2 := hr.put (some dst) (v := v) (d := .dead) (.dead _)
  rw [put_dead hdead] at h2
  have : dst < a.tmps.size := by rw [hr.size]; exact hlt
  exact ⟨rfl, h2, ⟨by simp [Act.put, Array.getD, this], by rw [put_size]; exact this⟩, rfl⟩
def FC.runs (P : Program) (x : FC El) (o : Oper) (a : Act) : Prop := ∀ w, (execOp a.eval o).run P w = .ok (.value (x.val w.heap.size)) (w.alloc (.cells x.cells x.e))
theorem heldC_step {P : Program} {o : Oper} {dst : Nat} {x : FC El} (hd : o.dst = some dst) {st : St El} (hdead : nth st.tmps dst = .dead) {X : Ctx El} {S : Nat → Prop} {β : Beta} {a : Act} {w : World} (hx : x.runs P o a) (hr : Rel X st S β a w) (hlt : dst < st.tmps.length) (Q : Exit → Act → World → Prop) :
    o.wp P a w (fun a' w' => Rel X st S β a' w' ∧ HeldC X st S β a' w' dst x w.heap.size ∧ (∀ r, r < w.heap.size → w'.heap[r]? = w.heap[r]?) ∧ w'.heap.size = w.heap.size + 1 ∧ a'.tmps = (a.put (some dst) (x.val w.heap.size)).tmps) Q := by
  unfold Oper.wp
  rw [hx w]
  show _ ∧ _
  rw [hd]
  have h1 : Rel X st S β a (w.alloc (.cells x.cells x.e)) := hr.on (T := fun _ => False) (Grew.alloc w _) (fun r h => h.elim) rfl (fun o x h => h) hr.fresh (fun o _ => .inr rfl) (fun o _ => .inl ⟨rfl, rfl, fun r _ h => h⟩)
  have h2 := h1.put (some dst) (v := x.val w.heap.size) (d := .dead) (.dead _)
  rw [put_dead hdead] at h2
  have : dst < a.tmps.size := by rw [hr.size]; exact hlt
  refine ⟨h2, ⟨by simp [Act.put, Array.getD, this], by rw [put_size]; exact this, heap_alloc_new w _, fun hS => absurd (hr.inside _ hS) (Nat.lt_irrefl _), hr.grown, ?_⟩, fun r hl => heap_alloc_old w _ r hl, by show (w.heap.push _).size = _; simp, rfl⟩
  intro o' l hat
  have := (hr.objs o').lt l hat
  omega
end Go.M
namespace Go.M
set_option linter.unusedVariables false
set_option linter.unusedSectionVars false
open Uni
variable {El : Nat → Type} [Uni El] [UniOK El] {R : Type}
structure FE (El : Nat → Type) where
  b : Nat → Value
  c : Nat → FC El
inductive Mat (ops : Array Oper) (E : FE El) : List Nat → St El → St El → Prop where
  | nil (st) : Mat ops E [] st st
  | b (f r st st' d) : isB ops f = true → toVal0 d = some (E.b f) → Mat ops E r (st.put (some (dstF ops f)) d) st' → Mat ops E (f :: r) st st'
  | c (f r st st') : isC ops f = true → (E.c f).good → Mat ops E r ((st.new (.arr (E.c f).e (E.c f).l)).put (some (dstF ops f)) (.all st.next (width El (E.c f).e))) st' → Mat ops E (f :: r) st st'
def Held (X : Ctx El) (ops : Array Oper) (E : FE El) (st : St El) (S : Nat → Prop) (β : Beta) (a : Act) (w : World) (D : Nat → Prop) (ρ : Nat → Nat) : Prop :=
  (∀ f, D f → (isB ops f = true → HeldB a (dstF ops f) (E.b f)) ∧ (isC ops f = true → HeldC X st S β a w (dstF ops f) (E.c f) (ρ f))) ∧ ∀ f g, D f → D g → isC ops f = true → isC ops g = true → ρ f = ρ g → f = g
theorem mat_in {X : Ctx El} {ops : Array Oper} {E : FE El} {S : Nat → Prop} {a : Act} {w : World} {ρ : Nat → Nat} {D : Nat → Prop} {M : List Nat} {st st' : St El} (h : Mat ops E M st st') :
    ∀ {β : Beta}, Rel X st S β a w → Held X ops E st S β a w D ρ → (∀ f ∈ M, D f) → M.Nodup → ∃ β', Rel X st' S β' a w ∧ Held X ops E st' S β' a w (fun f => D f ∧ f ∉ M) ρ := by
  induction h generalizing D with
  | nil st => intro β hr hh _ _; exact ⟨β, hr, ⟨fun f hf => hh.1 f hf.1, fun f g hf hg => hh.2 f g hf.1 hg.1⟩⟩
  | b f r st st' d hb hd hm ih =>
    intro β hr hh hD hn
    obtain ⟨hn1, hn2⟩ := List.nodup_cons.1 hn
    have h1 := heldB_in hd hr ((hh.1 f (hD f (List.mem_cons_self ..))).1 hb)
    obtain ⟨β', k1, k2⟩ := ih (D := fun g => D g ∧ g ≠ f) h1 ⟨fun g hg => ⟨(hh.1 g hg.1).1, fun hc => ((hh.1 g hg.1).2 hc).congr rfl⟩, fun g1 g2 q1 q2 => hh.2 g1 g2 q1.1 q2.1⟩ (fun g hg => ⟨hD g (List.mem_cons_of_mem _ hg), fun e => hn1 (e ▸ hg)⟩) hn2
    exact ⟨β', k1, ⟨fun g hg => k2.1 g ⟨⟨hg.1, fun e => hg.2 (by rw [e]; exact List.mem_cons_self ..)⟩, fun e => hg.2 (List.mem_cons_of_mem _ e)⟩, fun g1 g2 q1 q2 => k2.2 g1 g2 ⟨⟨q1.1, fun e => q1.2 (by rw [e]; exact List.mem_cons_self ..)⟩, fun e => q1.2 (List.mem_cons_of_mem _ e)⟩ ⟨⟨q2.1, fun e => q2.2 (by rw [e]; exact List.mem_cons_self ..)⟩, fun e => q2.2 (List.mem_cons_of_mem _ e)⟩⟩⟩
  | c f r st st' hc hg hm ih =>
    intro β hr hh hD hn
    obtain ⟨hn1, hn2⟩ := List.nodup_cons.1 hn
    have hf := (hh.1 f (hD f (List.mem_cons_self ..))).2 hc
    obtain ⟨β1, h1, h2⟩ := heldC_in hg hr hf
    obtain ⟨β', k1, k2⟩ := ih (D := fun g => D g ∧ g ≠ f) h1 ⟨fun g hg => ⟨(hh.1 g hg.1).1, fun hgc => by
      have hgf := (hh.1 g hg.1).2 hgc
      exact ⟨hgf.tmp, hgf.lt, hgf.heap, hgf.out, hgf.big, h2 _ (fun e => hg.2 (hh.2 g f hg.1 (hD f (List.mem_cons_self ..)) hgc hc e)) hgf.off⟩⟩, fun g1 g2 q1 q2 => hh.2 g1 g2 q1.1 q2.1⟩ (fun g hg => ⟨hD g (List.mem_cons_of_mem _ hg), fun e => hn1 (e ▸ hg)⟩) hn2
    exact ⟨β', k1, ⟨fun g hg => k2.1 g ⟨⟨hg.1, fun e => hg.2 (by rw [e]; exact List.mem_cons_self ..)⟩, fun e => hg.2 (List.mem_cons_of_mem _ e)⟩, fun g1 g2 q1 q2 => k2.2 g1 g2 ⟨⟨q1.1, fun e => q1.2 (by rw [e]; exact List.mem_cons_self ..)⟩, fun e => q1.2 (List.mem_cons_of_mem _ e)⟩ ⟨⟨q2.1, fun e => q2.2 (by rw [e]; exact List.mem_cons_self ..)⟩, fun e => q2.2 (List.mem_cons_of_mem _ e)⟩⟩⟩
theorem mat_len {ops : Array Oper} {E : FE El} {M : List Nat} {st st' : St El} (h : Mat ops E M st st') : st'.tmps.length = st.tmps.length := by
  induction h with
  | nil => rfl
  | b f r st st' d _ _ _ ih => rw [ih]; exact length_setNth ..
  | c f r st st' _ _ _ ih => rw [ih]; exact length_setNth ..
inductive Run3 (P : Program) (ops : Array Oper) (calm : Bool) (E : FE El) (F0 : List Nat) : List (Nat × Nat × List Nat) → List Nat → St El → St El → Prop where
  | nil (U st) : (∀ f ∈ U, isB ops f = true → loadV P ops st f = some (E.b f)) → Run3 P ops calm E F0 [] U st st
  | cons (c t M cs W o st stM st1 stm) : (∀ f ∈ M ++ W, isB ops f = true → loadV P ops st f = some (E.b f)) → Mat ops E M st stM → ops[c]? = some o → (∀ f ∈ F0, o.dst ≠ some (dstF ops f)) → (calm = true → kindOf o ≠ 2) →
      StepOK P ops o calm stM st1 → Run3 P ops calm E F0 cs W (deads ops W st1) stm → Run3 P ops calm E F0 ((c, t, M) :: cs) (M ++ W) st stm
theorem Run3.look {P : Program} {ops : Array Oper} {calm : Bool} {E : FE El} {F0 : List Nat} {cs : List (Nat × Nat × List Nat)} {U : List Nat} {st stm : St El} (h : Run3 P ops calm E F0 cs U st stm) : ∀ f ∈ U, isB ops f = true → loadV P ops st f = some (E.b f) := by
  cases h with
  | nil _ _ h => exact h
  | cons _ _ _ _ _ _ _ _ _ _ h => exact h
structure At (ops : Array Oper) (L0 L : Array Bool) (G : Nat → Prop) (left : Nat → Prop) : Prop where
  size : L.size = L0.size
  undone : ∀ j, L.getD j true = false ↔ (L0.getD j true = false ∧ (G j → left j))
structure GroupOK (ops : Array Oper) (L0 : Array Bool) (cs0 : List (Nat × Nat × List Nat)) (Fe : List Nat) (F0 : List Nat) : Prop where
  kinds : ∀ f ∈ F0, isB ops f = true ∨ isC ops f = true
  dsts : ∀ f ∈ F0, ∀ g ∈ F0, dstF ops f = dstF ops g → f = g
  nodup : F0.Nodup
  low : ∀ (i : Nat) o, ops[i]? = some o → ∀ e ∈ o.after, Region.binds .any e = true → e.on < i
  undone : ∀ j, (j ∈ F0 ∨ j ∈ cs0.map (·.1)) → L0.getD j true = false
  ok : ∀ (L : Array Bool) (cs : List (Nat × Nat × List Nat)) (U F : List Nat), Closed .any ops L → At ops L0 L (fun j => j ∈ F0 ∨ j ∈ cs0.map (·.1)) (fun j => j ∈ F ∨ j ∈ cs.map (·.1)) → (∃ pre, cs0 = pre ++ cs ∧ F0 = pre.flatMap (·.2.2) ++ U) → (∀ f ∈ F, f ∈ U) →
    (cs ≠ [] ∨ F ≠ []) → ∀ j ∈ Region.ready .any ops L, (j ∈ F ∧ (∀ t n ps o, ops[j]? = some o → o.op = .buildSlice t n ps → ∀ x ∈ ps.toList, (∃ v, x.2 = .const v) ∨ ∃ g ∈ U, g ∉ F ∧ isB ops g = true ∧ x.2 = .tmp (dstF ops g))) ∨
      ∃ c t M r, cs = (c, t, M) :: r ∧ j = c ∧ (∀ f ∈ M, f ∉ F)
theorem some_ready {ops : Array Oper} {L : Array Bool} (hs : L.size = ops.size) (low : ∀ (i : Nat) o, ops[i]? = some o → ∀ e ∈ o.after, Region.binds .any e = true → e.on < i) : ∀ (n j : Nat), j ≤ n → L.getD j true = false → Region.ready .any ops L ≠ [] := by
  intro n
  induction n with
  | zero =>
    intro j hj hu h
    have e : j = 0 := by omega
    subst e
    have hlt : 0 < ops.size := by
      rcases Nat.eq_zero_or_pos ops.size with h0 | h0
      · simp [Array.getD, hs, h0] at hu
      · exact h0
    have : 0 ∈ Region.ready .any ops L := mem_ready.2 ⟨hu, ops[0], by simp [hlt], fun e he hb => by
      have := low 0 ops[0] (by simp [hlt]) e he hb
      omega⟩
    rw [h] at this
    cases this
  | succ n ih =>
    intro j hj hu h
    have hlt : j < ops.size := by
      rcases Nat.lt_or_ge j ops.size with h0 | h0
      · exact h0
      · simp [Array.getD, hs, Nat.not_lt.2 h0] at hu
    by_cases hall : ∀ e ∈ (ops[j]).after, Region.binds .any e = true → L.getD e.on false = true
    · have : j ∈ Region.ready .any ops L := mem_ready.2 ⟨hu, ops[j], by simp [hlt], hall⟩
      rw [h] at this
      cases this
    · simp only [Classical.not_forall] at hall
      obtain ⟨e, he, hb, hd⟩ := hall
      have hl := low j ops[j] (by simp [hlt]) e he hb
      refine ih e.on (by omega) ?_ h
      have : e.on < L.size := by rw [hs]; omega
      simp [Array.getD, this] at hd ⊢
      exact hd
theorem group3_wp {P : Program} {ops : Array Oper} {Q : Exit → Act → World → Prop} {X : Ctx El} {w0 : World} {calm : Bool} {stm : St El} {m : Nat} {L0 : Array Bool} {cs0 : List (Nat × Nat × List Nat)} {Fe F0 : List Nat} {E : FE El}
    (hG : GroupOK ops L0 cs0 Fe F0) (hs0 : L0.size = ops.size) (hF0 : F0 = cs0.flatMap (·.2.2) ++ Fe)
    (hC : ∀ f ∈ F0, isC ops f = true → ∀ o a, ops[f]? = some o → (∀ t n ps, o.op = .buildSlice t n ps → ∀ x ∈ ps.toList, (∃ v, x.2 = .const v) ∨ ∃ g ∈ F0, isB ops g = true ∧ x.2 = .tmp (dstF ops g) ∧ a.tmps.getD (dstF ops g) undef = E.b g) → (E.c f).runs P o a)
    (hend : ∀ {L S β a w ρ}, Closed .any ops L → At ops L0 L (fun j => j ∈ F0 ∨ j ∈ cs0.map (·.1)) (fun _ => False) → Rel X stm S β a w → Held X ops E stm S β a w (· ∈ Fe) ρ → (calm = false → Broke P ops L) → (calm = true → ¬ Broke P ops L ∧ Stay w0 w) → wpG P .any ops Q (SB P ops w0) m L a w) :
    ∀ (n : Nat) (L : Array Bool) (cs : List (Nat × Nat × List Nat)) (U F : List Nat) (st : St El) (S : Nat → Prop) (β : Beta) (a : Act) (w : World) (ρ : Nat → Nat), n = cs.length + F.length → Closed .any ops L → At ops L0 L (fun j => j ∈ F0 ∨ j ∈ cs0.map (·.1)) (fun j => j ∈ F ∨ j ∈ cs.map (·.1)) →
      (∃ pre, cs0 = pre ++ cs ∧ F0 = pre.flatMap (·.2.2) ++ U) → (cs0.map (·.1)).Nodup → (∀ j ∈ cs0.map (·.1), j ∉ F0) → F.Nodup → Run3 P ops calm E F0 cs U st stm → (∀ f ∈ F, f ∈ U) → (∀ f ∈ U, nth st.tmps (dstF ops f) = .dead ∧ dstF ops f < st.tmps.length) →
      Rel X st S β a w → Held X ops E st S β a w (fun f => f ∈ U ∧ f ∉ F) ρ → (calm = false → Broke P ops L) → (calm = true → ¬ Broke P ops L ∧ Stay w0 w) → wpG P .any ops Q (SB P ops w0) (n + m) L a w := by
  intro n
  induction n with
  | zero =>
    intro L cs U F st S β a w ρ hn hcl hat hpre hnd hdj hFn hrun hsub hdead hr hh hb1 hb2
    have e1 : cs = [] := List.eq_nil_of_length_eq_zero (by omega)
    have e2 : F = [] := List.eq_nil_of_length_eq_zero (by omega)
    subst e1; subst e2
    obtain ⟨pre, hp1, hp2⟩ := hpre
    have hUF : U = Fe := by
      rw [List.append_nil] at hp1
      subst hp1
      rw [hF0] at hp2
      exact (List.append_cancel_left hp2).symm
    subst hUF
    cases hrun
    rw [Nat.zero_add]
    exact hend hcl ⟨hat.size, fun j => by rw [hat.undone]; simp⟩ hr ⟨fun f hf => hh.1 f ⟨hf, by simp⟩, fun f g hf hg => hh.2 f g ⟨hf, by simp⟩ ⟨hg, by simp⟩⟩ hb1 hb2
  | succ n ih =>
    intro L cs U F st S β a w ρ hn hcl hat hpre hnd hdj hFn hrun hsub hdead hr hh hb1 hb2
    have hUF0 : ∀ f ∈ U, f ∈ F0 := fun f hf => by obtain ⟨pre, _, hp2⟩ := hpre; rw [hp2]; exact List.mem_append_right _ hf
    have hUn : U.Nodup := by obtain ⟨pre, _, hp2⟩ := hpre; have := hG.nodup; rw [hp2] at this; exact (List.nodup_append.1 this).2.1
    have e : n + 1 + m = (n + m) + 1 := by omega
    rw [e]
    have hne : cs ≠ [] ∨ F ≠ [] := by
      rcases cs with _ | ⟨c, cs⟩
      · refine .inr fun h => ?_
        rw [h] at hn
        simp at hn
      · exact .inl (by simp)
    have hcsub : ∀ j ∈ cs.map (·.1), j ∈ cs0.map (·.1) := fun j hj => by
      obtain ⟨pre, hp1, _⟩ := hpre
      rw [hp1, List.map_append]
      exact List.mem_append_right _ hj
    have hsz : L.size = ops.size := hat.size.trans hs0
    have hleft : ∀ j, (j ∈ F ∨ j ∈ cs.map (·.1)) → L.getD j true = false := fun j hj => (hat.undone j).2 ⟨hG.undone j (hj.imp (fun h => hUF0 _ (hsub _ h)) (hcsub j)), fun _ => hj⟩
    have hrd : Region.ready .any ops L ≠ [] := by
      rcases hne with h | h
      · obtain ⟨x, r, e⟩ := List.exists_cons_of_ne_nil h
        exact some_ready hsz hG.low x.1 x.1 (Nat.le_refl _) (hleft x.1 (.inr (by rw [e]; simp)))
      · obtain ⟨x, r, e⟩ := List.exists_cons_of_ne_nil h
        exact some_ready hsz hG.low x x (Nat.le_refl _) (hleft x (.inl (by rw [e]; simp)))
    refine ⟨fun h => absurd h hrd, fun i hi => ?_⟩
    have hin : ∀ (x : Nat) (left : Nat → Prop), (∀ j, left j ↔ (j ∈ F ∨ j ∈ cs.map (·.1)) ∧ j ≠ x) → (x ∈ F ∨ x ∈ cs.map (·.1)) → At ops L0 (L.setIfInBounds x true) (fun j => j ∈ F0 ∨ j ∈ cs0.map (·.1)) left := by
      intro x left hl hx
      refine ⟨by simp [hat.size], fun j => ?_⟩
      by_cases hj : x = j
      · subst hj
        constructor
        · intro h
          exfalso
          have hlt : x < L.size := by
            rcases Nat.lt_or_ge x L.size with h0 | h0
            · exact h0
            · have := hleft x hx
              simp [Array.getD, Nat.not_lt.2 h0] at this
          simp [Array.getD, hlt] at h
        · rintro ⟨h1, h2⟩
          exfalso
          exact ((hl x).1 (h2 (hx.imp (fun h => hUF0 _ (hsub _ h)) (hcsub x)))).2 rfl
      · rw [getD_set_ne true hj, hat.undone]
        constructor
        · rintro ⟨h1, h2⟩
          exact ⟨h1, fun hg => (hl j).2 ⟨h2 hg, fun e => hj e.symm⟩⟩
        · rintro ⟨h1, h2⟩
          exact ⟨h1, fun hg => ((hl j).1 (h2 hg)).1⟩
    rcases hG.ok L cs U F hcl hat hpre hsub hne i hi with ⟨hiF, hdep⟩ | ⟨c, t, M, r, hcs, hic, hMF⟩
    · -- a float's step
      have hiU := hsub i hiF
      obtain ⟨hd1, hd2⟩ := hdead i hiU
      have hat' := hin i (fun j => j ∈ F.erase i ∨ j ∈ cs.map (·.1)) (fun j => by
        rw [hFn.mem_erase_iff]
        constructor
        · rintro (⟨h1, h2⟩ | h)
          · exact ⟨.inl h2, h1⟩
          · exact ⟨.inr h, fun e => hdj j (hcsub j h) (e ▸ hUF0 i hiU)⟩
        · rintro ⟨h1 | h1, h2⟩
          · exact .inl ⟨h2, h1⟩
          · exact .inr h1) (.inl hiF)
      have hlen : n = cs.length + (F.erase i).length := by
        rw [List.length_erase_of_mem hiF]
        have := List.length_pos_of_mem hiF
        omega
      have next : ∀ (a' : Act) (w' : World) (ρ' : Nat → Nat) (o : Oper), ops[i]? = some o → kindOf o ≠ 2 → Rel X st S β a' w' → Held X ops E st S β a' w' (fun f => f ∈ U ∧ f ∉ F.erase i) ρ' → Stay w w' →
          SB P ops w0 (L.setIfInBounds i true) w' ∧ wpG P .any ops Q (SB P ops w0) (n + m) (L.setIfInBounds i true) a' w' := by
        intro a' w' ρ' o ho hkind k1 k2 hst
        have b1 : calm = false → Broke P ops (L.setIfInBounds i true) := fun hc => (hb1 hc).set
        have b2 : calm = true → ¬ Broke P ops (L.setIfInBounds i true) ∧ Stay w0 w' := fun hc => ⟨fun hb => (hb2 hc).1 (broke_set ho hkind hb), (hb2 hc).2.trans hst⟩
        refine ⟨?_, ih _ cs U (F.erase i) st S β a' w' ρ' hlen (hcl.step hi) hat' hpre hnd hdj (hFn.erase i) hrun (fun f hf => hsub f (List.mem_of_mem_erase hf)) hdead k1 k2 b1 b2⟩
        cases hcalm : calm with
        | false => exact .inl (b1 hcalm)
        | true => exact .inr (b2 hcalm).2
      have hne2 : ∀ g, g ∈ U ∧ g ∉ F.erase i → g ≠ i → g ∈ U ∧ g ∉ F := fun g hg he => ⟨hg.1, fun h => hg.2 ((hFn.mem_erase_iff).2 ⟨he, h⟩)⟩
      rcases hG.kinds i (hUF0 i hiU) with hB | hC'
      · obtain ⟨o, t, x, ho, hop, hdst, hg⟩ := isB_spec hB
        refine wpOp_yes' ho (by simp [Region.wanted, hg]) ?_
        refine Oper.wp_mono ?_ (heldB_step ho hdst (hrun.look i hiU hB) hd1 hr hd2 Q)
        rintro a' w' ⟨rfl, k1, k2, k3⟩
        refine next a' w' ρ o ho (by simp [kindOf, hop]) k1 ⟨fun g hg => ?_, fun g1 g2 q1 q2 c1 c2 => ?_⟩ (Stay.refl w')
        · by_cases he : g = i
          · subst he
            exact ⟨fun _ => k2, fun hc => (isBC hB hc).elim⟩
          · obtain ⟨z1, z2⟩ := hh.1 g (hne2 g hg he)
            have hdd : some (dstF ops i) ≠ some (dstF ops g) := fun e => he (hG.dsts g (hUF0 g hg.1) i (hUF0 i hiU) (Option.some.inj e).symm)
            exact ⟨fun hb => (z1 hb).step hdd k3, fun hc => (z2 hc).step (fun h1 h2 h3 => ⟨rfl, h2, h3⟩) hdd k3⟩
        · have n1 : g1 ≠ i := fun e => isBC hB (e ▸ c1)
          have n2 : g2 ≠ i := fun e => isBC hB (e ▸ c2)
          exact hh.2 g1 g2 (hne2 g1 q1 n1) (hne2 g2 q2 n2) c1 c2
      · obtain ⟨o, t, len, ps, ho, hop, hdst, hg⟩ := isC_spec hC'
        have hx : (E.c i).runs P o a := by
          refine hC i (hUF0 i hiU) hC' o a ho fun t' n' ps' hop' x hx => ?_
          rcases hdep t' n' ps' o ho hop' x hx with h | ⟨g, g1, g2, g3, g4⟩
          · exact .inl h
          · exact .inr ⟨g, hUF0 g g1, g3, g4, ((hh.1 g ⟨g1, g2⟩).1 g3).tmp⟩
        refine wpOp_yes' ho (by simp [Region.wanted, hg]) ?_
        refine Oper.wp_mono ?_ (heldC_step hdst hd1 hx hr hd2 Q)
        rintro a' w' ⟨k1, k2, k3, k4, k5⟩
        refine next a' w' (fun g => if g = i then w.heap.size else ρ g) o ho (by simp [kindOf, hop]) k1 ⟨fun g hg => ?_, fun g1 g2 q1 q2 c1 c2 heq => ?_⟩ (fun r hl => k3 r hl)
        · by_cases he : g = i
          · subst he
            exact ⟨fun hb => (isBC hb hC').elim, fun _ => by dsimp only; rw [if_pos rfl]; exact k2⟩
          · obtain ⟨z1, z2⟩ := hh.1 g (hne2 g hg he)
            have hdd : some (dstF ops i) ≠ some (dstF ops g) := fun e => he (hG.dsts g (hUF0 g hg.1) i (hUF0 i hiU) (Option.some.inj e).symm)
            refine ⟨fun hb => (z1 hb).step hdd k5, fun hc => ?_⟩
            dsimp only
            rw [if_neg he]
            exact (z2 hc).step (fun h1 h2 h3 => ⟨k3 _ h1, h2, h3⟩) hdd k5
        · dsimp only at heq
          by_cases e1 : g1 = i
          · by_cases e2 : g2 = i
            · rw [e1, e2]
            · rw [if_pos e1, if_neg e2] at heq
              have := ((hh.1 g2 (hne2 g2 q2 e2)).2 c2).ltw
              omega
          · by_cases e2 : g2 = i
            · rw [if_neg e1, if_pos e2] at heq
              have := ((hh.1 g1 (hne2 g1 q1 e1)).2 c1).ltw
              omega
            · rw [if_neg e1, if_neg e2] at heq
              exact hh.2 g1 g2 (hne2 g1 q1 e1) (hne2 g2 q2 e2) c1 c2 heq
    · -- the chain's step
      subst hic
      subst hcs
      cases hrun with
      | cons _ _ _ _ W o _ stM st1 _ hlook hmat ho hdst hkind hstep hrest =>
        have hWn : M.Nodup ∧ W.Nodup ∧ ∀ a ∈ M, ∀ b ∈ W, a ≠ b := List.nodup_append.1 hUn
        have hFW : ∀ f ∈ F, f ∈ W := fun f hf => by
          rcases List.mem_append.1 (hsub f hf) with h | h
          · exact absurd hf (hMF f h)
          · exact h
        obtain ⟨βM, hrM, hhM⟩ := mat_in hmat hr hh (fun f hf => ⟨List.mem_append_left _ hf, hMF f hf⟩) hWn.1
        have hat' := hin i (fun j => j ∈ F ∨ j ∈ r.map (·.1)) (fun j => by
          have hnr : i ∉ r.map (·.1) := by
            obtain ⟨pre, hp1, _⟩ := hpre
            rw [hp1, List.map_append, List.map_cons] at hnd
            exact (List.nodup_cons.1 (List.nodup_append.1 hnd).2.1).1
          have hiF : i ∉ F := fun h => hdj i (hcsub i (by simp)) (hUF0 i (hsub i h))
          constructor
          · rintro (h | h)
            · exact ⟨.inl h, fun e => hiF (e ▸ h)⟩
            · exact ⟨.inr (by simp only [List.map_cons, List.mem_cons]; exact .inr h), fun e => hnr (e ▸ h)⟩
          · rintro ⟨h1 | h1, h2⟩
            · exact .inl h1
            · simp only [List.map_cons, List.mem_cons] at h1
              exact .inr (h1.resolve_left h2)) (.inr (by simp))
        have hpre' : ∃ pre, cs0 = pre ++ r ∧ F0 = pre.flatMap (·.2.2) ++ W := by
          obtain ⟨pre, hp1, hp2⟩ := hpre
          exact ⟨pre ++ [(i, t, M)], by rw [hp1]; simp, by rw [hp2]; simp⟩
        have hmlen := mat_len hmat
        have fin : ∀ (a' : Act) (w' : World) (S' : Nat → Prop) (β' : Beta) v, Rel X st1 S' β' a' w' → (∀ r, r < w.heap.size → ¬ S r → Off stM βM r → w'.heap[r]? = w.heap[r]? ∧ ¬ S' r ∧ Off st1 β' r) → (calm = true → Stay w w') → a'.tmps = (a.put o.dst v).tmps →
            SB P ops w0 (L.setIfInBounds i true) w' ∧ wpG P .any ops Q (SB P ops w0) (n + m) (L.setIfInBounds i true) a' w' := by
          intro a' w' S' β' v hr1 hk hst hv
          have b1 : calm = false → Broke P ops (L.setIfInBounds i true) := fun hc => (hb1 hc).set
          have b2 : calm = true → ¬ Broke P ops (L.setIfInBounds i true) ∧ Stay w0 w' := fun hc => ⟨fun hb => (hb2 hc).1 (broke_set ho (hkind hc) hb), (hb2 hc).2.trans (hst hc)⟩
          have hlen : st1.tmps.length = st.tmps.length := by rw [← hr1.size, ← hr.size, hv, put_size]
          have hW : ∀ f ∈ W, f ∈ M ++ W := fun f hf => List.mem_append_right _ hf
          refine ⟨?_, ih _ r W F (deads ops W st1) S' β' a' w' ρ (by simp only [List.length_cons] at hn; omega) (hcl.step hi) hat' hpre' hnd hdj hFn hrest hFW (fun f hf => ⟨deads_dead ops W st1 f hf (by rw [hlen]; exact (hdead f (hW f hf)).2), by rw [deads_len, hlen]; exact (hdead f (hW f hf)).2⟩) (hr1.deads W) ⟨?_, ?_⟩ b1 b2⟩
          · cases hcalm : calm with
            | false => exact .inl (b1 hcalm)
            | true => exact .inr (b2 hcalm).2
          · rintro f ⟨hfW, hfn⟩
            obtain ⟨z1, z2⟩ := hhM.1 f ⟨⟨hW f hfW, hfn⟩, fun hm => hWn.2.2 f hm f hfW rfl⟩
            exact ⟨fun hb => (z1 hb).step (hdst f (hUF0 f (hW f hfW))) hv, fun hc => ((z2 hc).step (hk (ρ f)) (hdst f (hUF0 f (hW f hfW))) hv).congr (deads_objs ops W st1)⟩
          · rintro f g ⟨hf, hfn⟩ ⟨hg, hgn⟩
            exact hh.2 f g ⟨hW f hf, hfn⟩ ⟨hW g hg, hgn⟩
        rcases hstep with ⟨hw, hg⟩ | ⟨hw, rfl⟩
        · refine wpOp_yes' ho (hw hrM) (Oper.wp_mono ?_ (chain_step (fun {X S β a w} hr Q => hg hr Q) hrM Q))
          rintro a' w' ⟨⟨S', β', k1, k2⟩, k3, _, v, k4⟩
          exact fin a' w' S' β' v k1 k2 k3 k4
        · refine wpOp_no' ho (hw hrM) ?_
          exact fin _ w S βM undef (hrM.put o.dst .undef) (fun r h1 h2 h3 => ⟨rfl, h2, fun o' l => h3 o' (by cases hd : o.dst <;> rw [hd] at l <;> exact l)⟩) (fun _ => Stay.refl w) rfl
end Go.M
namespace Go.M
set_option linter.unusedVariables false
set_option linter.unusedSectionVars false
open Uni
variable {El : Nat → Type} [Uni El] [UniOK El] {R : Type}
def waitsOn (ops : Array Oper) : Nat → Oper → Nat → Bool
  | 0, _, _ => false
  | n + 1, o, i => o.after.toList.any fun e => Region.binds .any e && (Nat.beq e.on i || match ops[e.on]? with
    | some o' => waitsOn ops n o' i
    | none => false)
theorem waitsOn_done {ops : Array Oper} {L : Array Bool} (hcl : Closed .any ops L) {i : Nat} : ∀ (n : Nat) (o : Oper), waitsOn ops n o i = true → (∀ e ∈ o.after, Region.binds .any e = true → L.getD e.on false = true) → L.getD i false = true
  | 0, o, h, _ => by cases h
  | n + 1, o, h, ha => by
    unfold waitsOn at h
    obtain ⟨e, he, hx⟩ := List.any_eq_true.1 h
    obtain ⟨x1, x2⟩ := Bool.and_eq_true_iff.1 hx
    have hd := ha e (Array.mem_toList_iff.1 he) x1
    rcases Bool.or_eq_true_iff.1 x2 with h1 | h1
    · rw [← beq_true h1]
      exact hd
    · split at h1
      · rename_i o' ho'
        exact waitsOn_done hcl n o' h1 (hcl e.on o' ho' hd)
      · cases h1
def direct (ops : Array Oper) (x y : Nat) : Bool :=
  match ops[x]? with
  | some o => o.after.toList.any fun e => Region.binds .any e && Nat.beq e.on y
  | none => false
theorem direct_done {ops : Array Oper} {L : Array Bool} {x y : Nat} (h : direct ops x y = true) (hr : x ∈ Region.ready .any ops L) : L.getD y false = true := by
  obtain ⟨_, o, ho, hall⟩ := mem_ready.1 hr
  unfold direct at h
  rw [ho] at h
  obtain ⟨e, he, hx⟩ := List.any_eq_true.1 h
  obtain ⟨x1, x2⟩ := Bool.and_eq_true_iff.1 hx
  rw [← beq_true x2]
  exact hall e (Array.mem_toList_iff.1 he) x1
def waits (ops : Array Oper) (x y : Nat) : Bool :=
  match ops[x]? with
  | some o => waitsOn ops 6 o y
  | none => false
theorem waits_done {ops : Array Oper} {L : Array Bool} (hcl : Closed .any ops L) {x y : Nat} (h : waits ops x y = true) (hr : x ∈ Region.ready .any ops L) : L.getD y false = true := by
  obtain ⟨_, o, ho, hall⟩ := mem_ready.1 hr
  unfold waits at h
  rw [ho] at h
  exact waitsOn_done hcl 6 o h hall
def linkB (ops : Array Oper) : List Nat → Bool
  | a :: b :: r => direct ops b a && linkB ops (b :: r)
  | _ => true
theorem linkB_tail {ops : Array Oper} : ∀ {l m : List Nat}, linkB ops (l ++ m) = true → linkB ops m = true
  | [], m, h => h
  | [a], [], h => rfl
  | [a], b :: m, h => (Bool.and_eq_true_iff.1 h).2
  | a :: b :: l, m, h => linkB_tail (l := b :: l) (Bool.and_eq_true_iff.1 h).2
theorem linkB_prev {ops : Array Oper} : ∀ {l : List Nat} {c j : Nat}, linkB ops (c :: l) = true → j ∈ l → ∃ p ∈ c :: l, direct ops j p = true
  | [], c, j, _, hj => by cases hj
  | b :: l, c, j, h, hj => by
    obtain ⟨h1, h2⟩ := Bool.and_eq_true_iff.1 h
    rcases List.mem_cons.1 hj with rfl | hj
    · exact ⟨c, List.mem_cons_self .., h1⟩
    · obtain ⟨p, p1, p2⟩ := linkB_prev h2 hj
      exact ⟨p, List.mem_cons_of_mem _ p1, p2⟩
def memB (x : Nat) (l : List Nat) : Bool := subN.memN' x l
theorem memB_iff {x : Nat} {l : List Nat} : memB x l = true ↔ x ∈ l := memN'_iff
def nodupB : List Nat → Bool
  | [] => true
  | f :: r => !(memB f r) && nodupB r
theorem nodupB_iff : ∀ {l : List Nat}, nodupB l = true → l.Nodup
  | [], _ => List.nodup_nil
  | f :: r, h => by
    obtain ⟨h1, h2⟩ := Bool.and_eq_true_iff.1 h
    refine List.nodup_cons.2 ⟨fun hm => ?_, nodupB_iff h2⟩
    rw [memB_iff.2 hm] at h1
    cases h1
def lowB (ops : Array Oper) : Bool := (List.range ops.size).all fun i => match ops[i]? with
  | some o => o.after.toList.all fun e => !(Region.binds .any e) || Nat.blt e.on i
  | none => true
def partsB (ops : Array Oper) (segs : List (List Nat)) (f : Nat) : Bool :=
  match ops[f]? with
  | some o => match o.op with
    | .buildSlice _ _ ps => ps.toList.all fun x => match x.2 with
      | .const _ => true
      | .tmp t => segs.any fun s => memB f s && s.any fun g => isB ops g && (Nat.beq (dstF ops g) t && waits ops f g)
      | _ => false
    | _ => true
  | none => false
def okG3 (ops : Array Oper) (L0 : Array Bool) (cs0 : List (Nat × Nat × List Nat)) (Fe : List Nat) : Bool :=
  let F0 := cs0.flatMap (·.2.2) ++ Fe
  let C := cs0.map (·.1)
  let segs := cs0.map (·.2.2) ++ [Fe]
  F0.all (fun f => isB ops f || isC ops f) && (F0.all (fun f => F0.all fun g => !(Nat.beq (dstF ops f) (dstF ops g)) || Nat.beq f g) && (nodupB F0 && (nodupB C && (C.all (fun c => !(memB c F0)) && (lowB ops &&
    ((F0 ++ C).all (fun j => !(L0.getD j true)) && (linkB ops C && (cs0.all (fun p => p.2.2.all fun f => waits ops p.1 f) && (F0.all (partsB ops segs) &&
    ((List.range ops.size).all fun x => L0.getD x true || (memB x (F0 ++ C) || ((match ops[x]? with
      | some o => o.after.toList.any fun e => Region.binds .any e && (!(L0.getD e.on true) && !(memB e.on (F0 ++ C)))
      | none => false) || ((match C.getLast? with | some c => waits ops x c | none => true) && Fe.all fun f => waits ops x f)))))))))))))
theorem okG3_ok {ops : Array Oper} {L0 : Array Bool} {cs0 : List (Nat × Nat × List Nat)} {Fe : List Nat} (hs0 : L0.size = ops.size) (h : okG3 ops L0 cs0 Fe = true) :
    GroupOK ops L0 cs0 Fe (cs0.flatMap (·.2.2) ++ Fe) ∧ (cs0.map (·.1)).Nodup ∧ (∀ j ∈ cs0.map (·.1), j ∉ cs0.flatMap (·.2.2) ++ Fe) ∧
    (∀ f ∈ cs0.flatMap (·.2.2) ++ Fe, ∀ t n ps o, ops[f]? = some o → o.op = .buildSlice t n ps → ∀ x ∈ ps.toList, (∃ v, x.2 = .const v) ∨ ∃ s ∈ cs0.map (·.2.2) ++ [Fe], f ∈ s ∧ ∃ g ∈ s, isB ops g = true ∧ x.2 = .tmp (dstF ops g)) := by
  unfold okG3 at h
  dsimp only at h
  obtain ⟨k1, h⟩ := Bool.and_eq_true_iff.1 h
  obtain ⟨k2, h⟩ := Bool.and_eq_true_iff.1 h
  obtain ⟨k3, h⟩ := Bool.and_eq_true_iff.1 h
  obtain ⟨k4, h⟩ := Bool.and_eq_true_iff.1 h
  obtain ⟨k5, h⟩ := Bool.and_eq_true_iff.1 h
  obtain ⟨k6, h⟩ := Bool.and_eq_true_iff.1 h
  obtain ⟨k7, h⟩ := Bool.and_eq_true_iff.1 h
  obtain ⟨k8, h⟩ := Bool.and_eq_true_iff.1 h
  obtain ⟨k9, h⟩ := Bool.and_eq_true_iff.1 h
  obtain ⟨k10, k11⟩ := Bool.and_eq_true_iff.1 h
  clear h
  generalize hF0 : cs0.flatMap (·.2.2) ++ Fe = F0 at *
  have hparts : ∀ f ∈ F0, ∀ t n ps o, ops[f]? = some o → o.op = .buildSlice t n ps → ∀ x ∈ ps.toList, (∃ v, x.2 = .const v) ∨ ∃ s ∈ cs0.map (·.2.2) ++ [Fe], f ∈ s ∧ ∃ g ∈ s, isB ops g = true ∧ x.2 = .tmp (dstF ops g) ∧ waits ops f g = true := by
    intro f hf t n ps o ho hop x hx
    have := List.all_eq_true.1 k10 f hf
    unfold partsB at this
    rw [ho] at this
    dsimp only at this
    rw [hop] at this
    have := List.all_eq_true.1 this x hx
    split at this
    · rename_i v hv
      exact .inl ⟨v, hv⟩
    · rename_i t ht
      obtain ⟨s, hs, h1⟩ := List.any_eq_true.1 this
      obtain ⟨h1, h2⟩ := Bool.and_eq_true_iff.1 h1
      obtain ⟨g, hg, h3⟩ := List.any_eq_true.1 h2
      obtain ⟨h3, h4⟩ := Bool.and_eq_true_iff.1 h3
      obtain ⟨h4, h5⟩ := Bool.and_eq_true_iff.1 h4
      exact .inr ⟨s, hs, memB_iff.1 h1, g, hg, h3, by rw [ht, beq_true h4], h5⟩
    · cases this
  have hn := nodupB_iff k3
  have hund : ∀ j, (j ∈ F0 ∨ j ∈ cs0.map (·.1)) → L0.getD j true = false := fun j hj => by
    have := List.all_eq_true.1 k7 j (List.mem_append.2 hj)
    simpa using this
  refine ⟨⟨fun f hf => Bool.or_eq_true_iff.1 (List.all_eq_true.1 k1 f hf), fun f hf g hg he => ?_, hn, fun i o ho e he hb => ?_, hund, ?_⟩, nodupB_iff k4, fun j hj hm => ?_, fun f hf t n ps o ho hop x hx => ?_⟩
  · have := List.all_eq_true.1 (List.all_eq_true.1 k2 f hf) g hg
    rw [he] at this
    simp only [Nat.beq_refl, Bool.not_true, Bool.false_or] at this
    exact beq_true this
  · have hlt : i < ops.size := (Array.getElem?_eq_some_iff.1 ho).1
    have := List.all_eq_true.1 k6 i (List.mem_range.2 hlt)
    rw [ho] at this
    have := List.all_eq_true.1 this e (Array.mem_toList_iff.2 he)
    rw [hb] at this
    simpa [Nat.blt_eq] using this
  · intro L cs U F hcl hat hpre hsub hne j hj
    obtain ⟨hjun, o, ho, hall⟩ := mem_ready.1 hj
    obtain ⟨hj0, hjl⟩ := (hat.undone j).1 hjun
    obtain ⟨pre, hp1, hp2⟩ := hpre
    have hU : U = cs.flatMap (·.2.2) ++ Fe := by
      rw [← hF0, hp1, List.flatMap_append, List.append_assoc] at hp2
      exact (List.append_cancel_left hp2).symm
    have hsz : L.size = ops.size := hat.size.trans hs0
    have und : ∀ x, (x ∈ F ∨ x ∈ cs.map (·.1)) → L.getD x false = true → False := fun x hx hd => by
      have h1 : L.getD x true = false := (hat.undone x).2 ⟨hund x (hx.imp (fun h => by rw [hp2]; exact List.mem_append_right _ (hsub x h)) (fun h => by rw [hp1, List.map_append]; exact List.mem_append_right _ h)), fun _ => hx⟩
      rw [Array.getD_eq_getD_getElem?] at h1 hd
      cases hg : L[x]? with
      | none => rw [hg] at h1; cases h1
      | some b => rw [hg] at h1 hd; cases b <;> cases hd <;> cases h1
    by_cases hG : j ∈ F0 ∨ j ∈ cs0.map (·.1)
    · rcases hjl hG with hF | hc
      · refine .inl ⟨hF, fun t n ps o' ho' hop x hx => ?_⟩
        have hjF0 : j ∈ F0 := by rw [hp2]; exact List.mem_append_right _ (hsub j hF)
        rcases hparts j hjF0 t n ps o' ho' hop x hx with h1 | ⟨s, hs, hjs, g, hgs, h2, h3, h4⟩
        · exact .inl h1
        · refine .inr ⟨g, ?_, fun hg => und g (.inl hg) (waits_done hcl h4 hj), h2, h3⟩
          rw [hU]
          rw [hp1, List.map_append, List.append_assoc] at hs
          rcases List.mem_append.1 hs with hs | hs
          · exfalso
            have hjp : j ∈ pre.flatMap (·.2.2) := by
              obtain ⟨p, hp, rfl⟩ := List.mem_map.1 hs
              exact List.mem_flatMap.2 ⟨p, hp, hjs⟩
            rw [hp2] at hn
            exact (List.nodup_append.1 hn).2.2 j hjp j (hsub j hF) rfl
          · rcases List.mem_append.1 hs with hs | hs
            · obtain ⟨p, hp, rfl⟩ := List.mem_map.1 hs
              exact List.mem_append_left _ (List.mem_flatMap.2 ⟨p, hp, hgs⟩)
            · rw [List.mem_singleton] at hs
              subst hs
              exact List.mem_append_right _ hgs
      · right
        cases cs with
        | nil => cases hc
        | cons p r =>
          obtain ⟨c, t, M⟩ := p
          rw [List.map_cons, List.mem_cons] at hc
          rcases hc with rfl | hc
          · refine ⟨j, t, M, r, rfl, rfl, fun f hf hfF => ?_⟩
            have := List.all_eq_true.1 k9 (j, t, M) (by rw [hp1]; exact List.mem_append_right _ (List.mem_cons_self ..))
            exact und f (.inl hfF) (waits_done hcl (List.all_eq_true.1 this f hf) hj)
          · exfalso
            have hl : linkB ops (((c, t, M) :: r).map (·.1)) = true := by
              rw [hp1, List.map_append] at k8
              exact linkB_tail k8
            obtain ⟨q, q1, q2⟩ := linkB_prev hl hc
            exact und q (.inr q1) (direct_done q2 hj)
    · exfalso
      have hlt : j < ops.size := (Array.getElem?_eq_some_iff.1 ho).1
      have := List.all_eq_true.1 k11 j (List.mem_range.2 hlt)
      rw [hj0, Bool.false_or] at this
      have hnm : memB j (F0 ++ cs0.map (·.1)) = false := by
        cases hb : memB j (F0 ++ cs0.map (·.1)) with
        | false => rfl
        | true => exact absurd (List.mem_append.1 (memB_iff.1 hb)) hG
      rw [hnm, Bool.false_or, ho] at this
      rcases Bool.or_eq_true_iff.1 this with h1 | h1
      · obtain ⟨e, he, h2⟩ := List.any_eq_true.1 h1
        obtain ⟨h2, h3⟩ := Bool.and_eq_true_iff.1 h2
        obtain ⟨h3, h4⟩ := Bool.and_eq_true_iff.1 h3
        have hd := hall e (Array.mem_toList_iff.1 he) h2
        have h5 : L.getD e.on true = false := (hat.undone e.on).2 ⟨by simpa using h3, fun hg => by
          rw [memB_iff.2 (List.mem_append.2 hg)] at h4
          cases h4⟩
        rw [Array.getD_eq_getD_getElem?] at h5 hd
        cases hg : L[e.on]? with
        | none => rw [hg] at h5; cases h5
        | some b => rw [hg] at h5 hd; cases b <;> cases hd <;> cases h5
      · obtain ⟨h2, h3⟩ := Bool.and_eq_true_iff.1 h1
        have hcs : cs = [] := by
          cases hcs : cs with
          | nil => rfl
          | cons p r =>
            exfalso
            have hne2 : cs.map (·.1) ≠ [] := by rw [hcs]; simp
            have hl : (cs0.map (·.1)).getLast? = (cs.map (·.1)).getLast? := by rw [hp1, List.map_append, List.getLast?_append, List.getLast?_eq_some_getLast hne2, Option.some_or]
            rw [hl, List.getLast?_eq_some_getLast hne2] at h2
            exact und _ (.inr (List.getLast_mem hne2)) (waits_done hcl h2 hj)
        subst hcs
        rcases hne with h | h
        · exact h rfl
        · obtain ⟨f, r, e⟩ := List.exists_cons_of_ne_nil h
          have hf : f ∈ F := by rw [e]; exact List.mem_cons_self ..
          have hfe : f ∈ Fe := by have := hsub f hf; rw [hU] at this; simpa using this
          exact und f (.inl hf) (waits_done hcl (List.all_eq_true.1 h3 f hfe) hj)
  · have := List.all_eq_true.1 k5 j hj
    rw [memB_iff.2 hm] at this
    cases this
  · rcases hparts f hf t n ps o ho hop x hx with h1 | ⟨s, hs, hjs, g, hgs, h2, h3, h4⟩
    · exact .inl h1
    · exact .inr ⟨s, hs, hjs, g, hgs, h2, h3⟩
end Go.M
namespace Go.M
set_option linter.unusedVariables false
set_option linter.unusedSectionVars false
open Uni
variable {El : Nat → Type} [Uni El] [UniOK El] {R : Type}
theorem buildC1_sound {P : Program} {acc : St El} {t len : Nat} {parts : List (Nat × D El)} {K : St El → D El → Option R} {r : R} (h : mbuildSlice1 P acc t len parts K = some r) : ∃ (e : Nat) (l : List (El e)), K (acc.new (.arr e l)) (.all acc.next (width El e)) = some r ∧
    ∀ (vparts : Array (Nat × Value)), vparts.toList.map (·.1) = parts.map (·.1) → (∀ (i : Nat) p q, vparts.toList[i]? = some p → parts[i]? = some q → toVal0 q.2 = some p.2) →
      ∃ cells, (⟨e, l, cells⟩ : FC El).good ∧ ∀ w, (Instr.buildSlice t len vparts).run P w = .ok (.slice (some ⟨w.heap.size, 0, none⟩) l.length l.length) (w.alloc (.cells cells e)) := by
  unfold mbuildSlice1 at h
  split at h
  · rename_i e hu
    split at h
    · rename_i i zs hi hz
      obtain ⟨hk, h0⟩ := cond_some h
      clear h
      obtain ⟨k1, hk⟩ := Bool.and_eq_true_iff.1 hk
      obtain ⟨k2, hk⟩ := Bool.and_eq_true_iff.1 hk
      obtain ⟨k3, k4⟩ := Bool.and_eq_true_iff.1 hk
      have k1 := beq_true k1
      have k2 := Nat.le_of_ble_eq_true k2
      have k3 := Nat.le_of_ble_eq_true k3
      have k4 := beq_true k4
      split at h0
      · rename_i ds hds
        split at h0
        · rename_i l hl
          refine ⟨e, l, h0, fun vparts hm hv => ?_⟩
          obtain ⟨i', z, hi', hz1, hs, hrun, hc⟩ := mzero_sound hz
          rw [hi] at hi'
          cases hi'
          have hzpos : 0 < zs.length := by
            rcases Nat.eq_zero_or_pos zs.length with h0 | h0
            · rw [← k4, h0] at k2; omega
            · exact h0
          have hpt : ∀ w S β, Pt w S β ((Array.range (len * i.size)).map (z.cells[· % z.cells.size]!)) (mzeros len zs) := by
            intro w S β
            refine ⟨by rw [mzeros_length, k4]; simp, fun j v d q1 q2 => ?_⟩
            have hzd := mzeros_get zs hzpos len j d q2
            have hjm : j % z.cells.size < z.cells.size := Nat.mod_lt _ (by omega)
            rw [Array.getElem?_map] at q1
            have hj : j < len * i.size := by
              have := (List.getElem?_eq_some_iff.1 q2).1
              rwa [mzeros_length, k4] at this
            rw [Array.getElem?_range, if_pos hj] at q1
            simp only [Option.map_some, Option.some.injEq] at q1
            rw [← hs] at hzd
            have hv' : z.cells[j % z.cells.size]? = some v := by
              rw [← q1]
              simp [hjm]
            exact hc w S β _ v d hv' hzd
          have fill : ∀ w S β, ∃ C', Instr.fill (fun j => some (j * i.size, i.size)) ((Array.range (len * i.size)).map (z.cells[· % z.cells.size]!)) vparts.toList = some C' ∧ Pt w S β C' ds := fun w S β =>
            mfill_sound (w := w) (S := S) (β := β) hds hm (fun i p q a b => toVal0_vrel (hv i p q a b) w S β) (hpt w S β)
          obtain ⟨C', f1, f2⟩ := fill default (fun _ => False) (fun _ => none)
          obtain ⟨c1, c2⟩ := chunks_sound hl
          have hlen : ds.length = len * i.size := by rw [mfill_length hds, mzeros_length, k4]
          refine ⟨C', ⟨by rw [f2.1, hlen, k1, c1], ?_, fun w S β ii y j d q1 q2 => ?_⟩, fun w => ?_⟩
          · show l.length ≤ maxLen
            have : len ≤ len * i.size := Nat.le_mul_of_pos_right _ (by rw [← k4]; exact hzpos)
            rw [c1]
            simp only [maxLen]
            omega
          · obtain ⟨C2, g1, g2⟩ := fill w S β
            rw [f1] at g1
            cases g1
            obtain ⟨u, u1, u2⟩ := c2 (w := w) (S := S) (β := β) (vs := C'.toList) (fun j v d a b => (g2.2 j v d (by simpa using a) b).1) (by simpa using g2.1) ii y j d q1 q2
            exact ⟨u, by simpa using u1, u2⟩
          · rw [c1]
            exact run_buildSlice (P := P) w t e len vparts C' i z hu hi hz1 (by show ¬ len * i.size > 16777216; omega) (by omega) f1
        · cases h0
      · cases h0
    · cases h
  · cases h
theorem buildC_sound {P : Program} {acc : St El} {t len : Nat} {parts : List (Nat × D El)} {K : St El → D El → Option R} {r : R} (h : mbuildSlice P acc t len parts K = some r) : ∃ (e : Nat) (l : List (El e)), K (acc.new (.arr e l)) (.all acc.next (width El e)) = some r ∧
    ∀ (vparts : Array (Nat × Value)), vparts.toList.map (·.1) = parts.map (·.1) → (∀ (i : Nat) p q, vparts.toList[i]? = some p → parts[i]? = some q → toVal0 q.2 = some p.2) →
      ∃ cells, (⟨e, l, cells⟩ : FC El).good ∧ ∀ w, (Instr.buildSlice t len vparts).run P w = .ok (.slice (some ⟨w.heap.size, 0, none⟩) l.length l.length) (w.alloc (.cells cells e)) := by
  unfold mbuildSlice at h
  split at h
  · rename_i e he
    unfold emptySlice at he
    split at he
    · rename_i e2 hu
      split at he
      · rename_i i hi
        cases he
        refine ⟨e, [], h, fun vparts hm hv => ?_⟩
        have hp : vparts = #[] := by
          cases vparts with
          | mk l =>
            cases l with
            | nil => rfl
            | cons x l => simp at hm
        subst hp
        refine ⟨#[], ⟨by simp, by simp [maxLen], fun w S β i y j d q => by simp at q⟩, fun w => ?_⟩
        simp [Instr.buildSlice, run_underlying hu, sizeOf, typeInfo, hi, newRow, Instr.fill]
        rw [show (Array.range 0) = #[] from rfl, Array.map_empty]
      · cases he
    · cases he
  · exact buildC1_sound h
def mlook (P : Program) (ops : Array Oper) (st : St El) : List Nat → (List Value → Option R) → Option R
  | [], K => K []
  | f :: r, K => cond (isB ops f) (match ops[f]? with
      | some o => loadD P st o fun d => (match toVal0 d with | some v => mlook P ops st r fun vs => K (v :: vs) | none => none)
      | none => none) (mlook P ops st r K)
def lookL (P : Program) (ops : Array Oper) (st : St El) : List Nat → Option (List Value)
  | [] => some []
  | f :: r => cond (isB ops f) (match loadV P ops st f, lookL P ops st r with | some v, some vs => some (v :: vs) | _, _ => none) (lookL P ops st r)
theorem mlook_sound {P : Program} {ops : Array Oper} {st : St El} : ∀ {W : List Nat} {K : List Value → Option R} {r : R}, mlook P ops st W K = some r → ∃ vs, K vs = some r ∧ lookL P ops st W = some vs := by
  intro W
  induction W with
  | nil => intro K r h; exact ⟨[], h, rfl⟩
  | cons f W ih =>
    intro K r h
    unfold mlook at h
    unfold lookL
    cases hb : isB ops f with
    | false =>
      rw [hb] at h
      exact ih h
    | true =>
      rw [hb] at h
      simp only [cond_true] at h ⊢
      split at h
      · rename_i o ho
        obtain ⟨d, h1, h2⟩ := loadD_par h
        split at h1
        · rename_i v hv
          obtain ⟨vs, h3, h4⟩ := ih h1
          refine ⟨v :: vs, h3, ?_⟩
          have : loadV P ops st f = some v := by
            unfold loadV
            rw [ho]
            exact (h2 toVal0).trans hv
          rw [this, h4]
        · cases h1
      · cases h
theorem lookL_same {P : Program} {ops : Array Oper} {st st2 : St El} : ∀ {W : List Nat} {vs : List Value}, lookL P ops st W = some vs → lookL P ops st2 W = some vs → ∀ f ∈ W, isB ops f = true → ∃ v, loadV P ops st f = some v ∧ loadV P ops st2 f = some v := by
  intro W
  induction W with
  | nil => intro vs _ _ f hf; cases hf
  | cons g W ih =>
    intro vs h1 h2 f hf hb
    unfold lookL at h1 h2
    cases hg : isB ops g with
    | false =>
      rw [hg] at h1 h2
      rcases List.mem_cons.1 hf with rfl | hf
      · rw [hg] at hb; cases hb
      · exact ih h1 h2 f hf hb
    | true =>
      rw [hg] at h1 h2
      simp only [cond_true] at h1 h2
      split at h1
      · rename_i v vs1 e1 e2
        split at h2
        · rename_i v2 vs2 e3 e4
          cases h1
          cases h2
          rcases List.mem_cons.1 hf with rfl | hf
          · exact ⟨v, e1, e3⟩
          · exact ih e2 e4 f hf hb
        · cases h2
      · cases h1
def eqVals : List Value → List Value → Option R → Option R
  | [], [], K => K
  | .int k m :: r, .int k' n :: r', K => if k = k' then (if m = n then eqVals r r' K else none) else none
  | .bool b :: r, .bool c :: r', K => if b = c then eqVals r r' K else none
  | .string s :: r, .string s' :: r', K => if s = s' then eqVals r r' K else none
  | _, _, _ => none
theorem eqVals_sound : ∀ {l l' : List Value} {K : Option R} {r : R}, eqVals l l' K = some r → l = l' ∧ K = some r := by
  intro l
  induction l with
  | nil =>
    intro l' K r h
    cases l' with
    | nil => exact ⟨rfl, h⟩
    | cons x l' => simp [eqVals] at h
  | cons v l ih =>
    intro l' K r h
    cases l' with
    | nil => cases v <;> simp [eqVals] at h
    | cons v' l' =>
      unfold eqVals at h
      split at h
      · rename_i e1 e2; cases e1
      · rename_i e1 e2
        cases e1; cases e2
        split at h
        · rename_i hk
          split at h
          · rename_i hm
            obtain ⟨h1, h2⟩ := ih h
            subst hk; subst hm; subst h1
            exact ⟨rfl, h2⟩
          · cases h
        · cases h
      · rename_i e1 e2
        cases e1; cases e2
        split at h
        · rename_i hm
          obtain ⟨h1, h2⟩ := ih h
          subst hm; subst h1
          exact ⟨rfl, h2⟩
        · cases h
      · rename_i e1 e2
        cases e1; cases e2
        split at h
        · rename_i hm
          obtain ⟨h1, h2⟩ := ih h
          subst hm; subst h1
          exact ⟨rfl, h2⟩
        · cases h
      · cases h
def plainPart (acc : St El) (x : Operand) : Bool := match toVal0 (ev acc x) with | some _ => true | none => false
def mmat (P : Program) (ops : Array Oper) (st0 : St El) : List Nat → St El → (St El → Option R) → Option R
  | [], acc, K => K acc
  | f :: r, acc, K => match ops[f]? with
    | some o => match o.op with
      | .load _ _ => loadD P st0 o fun d => (match toVal0 d with | some _ => mmat P ops st0 r (acc.put (some (dstF ops f)) d) K | none => none)
      | .buildSlice t len ps => cond (ps.toList.all fun p => plainPart acc p.2) (mbuildSlice P acc t len (ps.toList.map fun p => (p.1, ev acc p.2)) fun st2 d => mmat P ops st0 r (st2.put (some (dstF ops f)) d) K) none
      | _ => none
    | none => none
def RunsC (P : Program) (ops : Array Oper) (E : FE El) (f : Nat) (G : Nat → Prop) : Prop :=
  ∀ o a, ops[f]? = some o → (∀ t n ps, o.op = .buildSlice t n ps → ∀ x ∈ ps.toList, (∃ v, x.2 = .const v) ∨ ∃ g, G g ∧ isB ops g = true ∧ x.2 = .tmp (dstF ops g) ∧ a.tmps.getD (dstF ops g) undef = E.b g) → (E.c f).runs P o a
theorem Mat.congr {ops : Array Oper} {E E' : FE El} {M : List Nat} {st st' : St El} (h : Mat ops E M st st') : (∀ f ∈ M, E'.b f = E.b f ∧ E'.c f = E.c f) → Mat ops E' M st st' := by
  induction h with
  | nil st => intro _; exact .nil st
  | b f r st st' d hb hd _ ih => intro he; exact .b f r st st' d hb (by rw [(he f (List.mem_cons_self ..)).1]; exact hd) (ih fun g hg => he g (List.mem_cons_of_mem _ hg))
  | c f r st st' hc hg _ ih =>
    intro he
    have e := (he f (List.mem_cons_self ..)).2
    refine .c f r st st' hc (by rw [e]; exact hg) ?_
    rw [e]
    exact ih fun g hg => he g (List.mem_cons_of_mem _ hg)
theorem mmat_sound {P : Program} {ops : Array Oper} {st0 : St El} (hd : ∀ f g, (isB ops f = true ∨ isC ops f = true) → (isB ops g = true ∨ isC ops g = true) → True) : ∀ {M : List Nat} {acc : St El} {K : St El → Option R} {r : R} (Pre : List Nat) (V : Nat → Value), mmat P ops st0 M acc K = some r →
    (∀ f ∈ M, ∀ g ∈ Pre ++ M, dstF ops f = dstF ops g → f = g) → (Pre ++ M).Nodup → (∀ f ∈ M, nth acc.tmps (dstF ops f) = .dead ∧ dstF ops f < acc.tmps.length) → (∀ g ∈ Pre, isB ops g = true → toVal0 (nth acc.tmps (dstF ops g)) = some (V g)) → (∀ f ∈ M, isB ops f = true ∨ isC ops f = true) →
    ∃ (E : FE El) (stm : St El), K stm = some r ∧ Mat ops E M acc stm ∧ (∀ f ∈ M, isB ops f = true → loadV P ops st0 f = some (E.b f)) ∧ (∀ g ∈ Pre, E.b g = V g) ∧ (∀ f ∈ M, isC ops f = true → RunsC P ops E f (· ∈ Pre ++ M)) := by
  intro M
  induction M with
  | nil => intro acc K r Pre V h _ _ _ _ _; refine ⟨⟨V, fun _ => ⟨0, [], #[]⟩⟩, acc, h, .nil acc, ?_, fun g _ => rfl, ?_⟩ <;> (intro f hf; cases hf)
  | cons f M ih =>
    intro acc K r Pre V h hdst hnd hdead hpre hk
    have hfm : f ∉ Pre ∧ f ∉ M := by
      have h1 := List.nodup_append.1 hnd
      exact ⟨fun hp => h1.2.2 f hp f (List.mem_cons_self ..) rfl, (List.nodup_cons.1 h1.2.1).1⟩
    have eqa : Pre ++ f :: M = (Pre ++ [f]) ++ M := by simp
    have hdst' : ∀ g ∈ M, ∀ g2 ∈ (Pre ++ [f]) ++ M, dstF ops g = dstF ops g2 → g = g2 := fun g hg g2 hg2 => hdst g (List.mem_cons_of_mem _ hg) g2 (by rw [eqa]; exact hg2)
    have hne : ∀ g ∈ Pre, dstF ops f ≠ dstF ops g := fun g hg e => hfm.1 ((hdst f (List.mem_cons_self ..) g (List.mem_append_left _ hg) e) ▸ hg)
    have hne2 : ∀ g ∈ M, dstF ops f ≠ dstF ops g := fun g hg e => hfm.2 ((hdst f (List.mem_cons_self ..) g (List.mem_append_right _ (List.mem_cons_of_mem _ hg)) e) ▸ hg)
    unfold mmat at h
    split at h
    · rename_i o ho
      split at h
      · rename_i t x hop
        obtain ⟨d, h1, h2⟩ := loadD_par h
        split at h1
        · rename_i v hv
          have hB : isB ops f = true := by
            rcases hk f (List.mem_cons_self ..) with h | h
            · exact h
            · obtain ⟨o', t', n, ps, ho', hop', _⟩ := isC_spec h
              rw [ho] at ho'
              cases ho'
              rw [hop] at hop'
              cases hop'
          obtain ⟨E, stm, i1, i2, i3, i4, i5⟩ := ih (Pre ++ [f]) (fun g => if g = f then v else V g) h1 hdst' (by rw [← eqa]; exact hnd) (fun g hg => by
            obtain ⟨a1, a2⟩ := hdead g (List.mem_cons_of_mem _ hg)
            refine ⟨?_, by show _ < (setNth _ _ _).length; rw [length_setNth]; exact a2⟩
            show nth (setNth _ _ _) _ = _
            rw [nth_setNth, if_neg (fun e => hne2 g hg e.1.symm)]
            exact a1) (fun g hg hgb => by
            show toVal0 (nth (setNth _ _ _) _) = _
            rcases List.mem_append.1 hg with hg | hg
            · have hgf : g ≠ f := fun e => hfm.1 (e ▸ hg)
              rw [nth_setNth, if_neg (fun e => hne g hg e.1.symm), if_neg hgf]
              exact hpre g hg hgb
            · rw [List.mem_singleton] at hg
              subst hg
              rw [nth_setNth, if_pos ⟨rfl, (hdead g (List.mem_cons_self ..)).2⟩, if_pos rfl]
              exact hv) (fun g hg => hk g (List.mem_cons_of_mem _ hg))
          have hEf : E.b f = v := by rw [i4 f (by simp), if_pos rfl]
          refine ⟨E, stm, i1, .b f M acc stm d hB (by rw [hEf]; exact hv) i2, fun g hg hgb => ?_, fun g hg => ?_, fun g hg hgc => ?_⟩
          · rcases List.mem_cons.1 hg with rfl | hg
            · rw [hEf]
              unfold loadV
              rw [ho]
              exact (h2 toVal0).trans hv
            · exact i3 g hg hgb
          · have hgf : g ≠ f := fun e => hfm.1 (e ▸ hg)
            rw [i4 g (List.mem_append_left _ hg), if_neg hgf]
          · rcases List.mem_cons.1 hg with rfl | hg
            · exact (isBC hB hgc).elim
            · rw [eqa]
              exact i5 g hg hgc
        · cases h1
      · rename_i t len ps hop
        obtain ⟨hpl, h1⟩ := cond_some h
        have hC : isC ops f = true := by
          rcases hk f (List.mem_cons_self ..) with h | h
          · obtain ⟨o', t', x, ho', hop', _⟩ := isB_spec h
            rw [ho] at ho'
            cases ho'
            rw [hop] at hop'
            cases hop'
          · exact h
        obtain ⟨e, l, h2, h3⟩ := buildC_sound h1
        obtain ⟨cells, h4, h5⟩ := h3 (ps.map fun p => (p.1, (toVal0 (ev acc p.2)).getD undef)) (by simp) (fun i p q q1 q2 => by
          simp only [Array.toList_map, List.getElem?_map] at q1 q2
          cases hl : ps.toList[i]? with
          | none => rw [hl] at q1; cases q1
          | some x =>
            rw [hl] at q1 q2
            cases q1
            cases q2
            have := List.all_eq_true.1 hpl x (List.mem_of_getElem? hl)
            unfold plainPart at this
            split at this
            · rename_i v hv
              simp only [hv, Option.getD_some]
            · cases this)
        obtain ⟨E, stm, i1, i2, i3, i4, i5⟩ := ih (Pre ++ [f]) V h2 hdst' (by rw [← eqa]; exact hnd) (fun g hg => by
            obtain ⟨a1, a2⟩ := hdead g (List.mem_cons_of_mem _ hg)
            refine ⟨?_, by show _ < (setNth _ _ _).length; rw [length_setNth]; exact a2⟩
            show nth (setNth _ _ _) _ = _
            rw [nth_setNth, if_neg (fun e => hne2 g hg e.1.symm)]
            exact a1) (fun g hg hgb => by
            show toVal0 (nth (setNth _ _ _) _) = _
            rcases List.mem_append.1 hg with hg | hg
            · rw [nth_setNth, if_neg (fun e => hne g hg e.1.symm)]
              exact hpre g hg hgb
            · rw [List.mem_singleton] at hg
              subst hg
              exact (isBC hgb hC).elim) (fun g hg => hk g (List.mem_cons_of_mem _ hg))
        let E' : FE El := ⟨E.b, fun g => if g = f then ⟨e, l, cells⟩ else E.c g⟩
        have hE : ∀ g ∈ M, E'.b g = E.b g ∧ E'.c g = E.c g := fun g hg => ⟨rfl, by
          have hgf : g ≠ f := fun e => hfm.2 (e ▸ hg)
          show (if g = f then _ else E.c g) = _
          rw [if_neg hgf]⟩
        have hEf : E'.c f = ⟨e, l, cells⟩ := by show (if f = f then _ else E.c f) = _; rw [if_pos rfl]
        refine ⟨E', stm, i1, .c f M acc stm hC (by rw [hEf]; exact h4) (by rw [hEf]; exact i2.congr hE), fun g hg hgb => ?_, fun g hg => i4 g (List.mem_append_left _ hg), fun g hg hgc => ?_⟩
        · rcases List.mem_cons.1 hg with rfl | hg
          · exact (isBC hgb hC).elim
          · exact i3 g hg hgb
        · rcases List.mem_cons.1 hg with rfl | hg
          · intro o' a ho' hparts
            rw [ho] at ho'
            cases ho'
            rw [hEf]
            intro w
            have hv : ps.map (fun p => (p.1, a.eval p.2)) = ps.map fun p => (p.1, (toVal0 (ev acc p.2)).getD undef) := by
              apply Array.ext'
              rw [Array.toList_map, Array.toList_map]
              refine List.map_congr_left fun x hx => ?_
              have hp := List.all_eq_true.1 hpl x hx
              unfold plainPart at hp
              split at hp
              · rename_i v hv
                rw [hv]
                show (x.1, a.eval x.2) = (x.1, v)
                congr 1
                rcases hparts t len ps hop x hx with ⟨c, hc⟩ | ⟨g2, g3, g4, g5, g6⟩
                · rw [hc] at hv ⊢
                  exact toVal0_rel (w := default) (S := fun _ => False) (β := fun _ => none) hv (ofVal_rel _ _ _ c)
                · rw [g5] at hv ⊢
                  show a.tmps.getD _ undef = v
                  rw [g6]
                  have hv : toVal0 (nth acc.tmps (dstF ops g2)) = some v := hv
                  rcases List.mem_append.1 g3 with h | h
                  · have := hpre g2 h g4
                    rw [hv] at this
                    cases this
                    exact (i4 g2 (List.mem_append_left _ h))
                  · rw [(hdead g2 h).1] at hv
                    cases hv
              · cases hp
            simp only [execOp, hop, Sem.run_bind]
            rw [hv, h5 w]
            simp [FC.val]
          · rw [eqa]
            intro o' a ho' hparts
            rw [(hE g hg).2]
            exact i5 g hg hgc o' a ho' hparts
      · cases h
    · cases h
end Go.M
namespace Go.M
set_option linter.unusedVariables false
set_option linter.unusedSectionVars false
open Uni
variable {El : Nat → Type} [Uni El] [UniOK El] {R : Type}
def waitsFor (ops : Array Oper) (i : Nat) : Bool :=
  ops.toList.all fun o => cond (Nat.beq (kindOf o) 2) (waitsOn ops 4 o i) true
def takeable (ops : Array Oper) (L : Array Bool) (i : Nat) : Bool :=
  match ops[i]? with
  | some o => Nat.beq (kindOf o) 0 && (Region.free .any ops L i && waitsFor ops i)
  | none => false
def chainOf (ops : Array Oper) (F : List Nat) (broke : Bool) : Nat → Array Bool → Option (List (Nat × Nat) × Array Bool)
  | 0, _ => none
  | k + 1, L =>
    match (Region.ready .any ops L).filter (fun i => !subN.memN' i F) with
    | [] => some ([], L)
    | [c] =>
      match ops[c]? with
      | some o => (chainOf ops F broke k (L.setIfInBounds c true)).map fun p => ((c, cond broke 2 (cond (Nat.beq (kindOf o) 0) 3 1)) :: p.1, p.2)
      | none => none
    | _ => none
def okStat (ops : Array Oper) (broke : Bool) (F : List Nat) (cs : List (Nat × Nat)) : Bool :=
  F.all (isFlo ops) && ((F.all fun f => F.all fun g => cond (Nat.beq (dstF ops f) (dstF ops g)) (Nat.beq f g) true) && ((cs.all fun p => match ops[p.1]? with
    | some o => (match o.dst with | some d => F.all fun f => !(Nat.beq d (dstF ops f)) | none => true) && cond broke (Nat.beq p.2 2) ((Nat.beq p.2 1 || Nat.beq p.2 3) && !(Nat.beq (kindOf o) 2))
    | none => false) && nodupF F))
where nodupF : List Nat → Bool
  | [] => true
  | f :: r => !(subN.memN' f r) && nodupF r
def mgroup (ops : Array Oper) (L : Array Bool) (broke : Bool) : Option (List (Nat × Nat) × List Nat × Array Bool) :=
  match (Region.ready .any ops L).filter (isFlo ops) with
  | [] => none
  | f :: F =>
    match chainOf ops (f :: F) broke (ops.size + 1) L with
    | some (cs, L1) =>
      cond (okStat ops broke (f :: F) cs && okGroup ops ((f :: F).foldl (fun L f => L.setIfInBounds f true) L1).toList (cs.length + (f :: F).length) L cs (f :: F)) (some (cs, f :: F, (f :: F).foldl (fun L f => L.setIfInBounds f true) L1)) none
    | none => none
theorem mgroup_spec {ops : Array Oper} {L : Array Bool} {broke : Bool} {cs : List (Nat × Nat)} {F : List Nat} {Le : Array Bool} (h : mgroup ops L broke = some (cs, F, Le)) : okStat ops broke F cs = true ∧ okGroup ops Le.toList (cs.length + F.length) L cs F = true := by
  unfold mgroup at h
  split at h
  · cases h
  · split at h
    · obtain ⟨hc, h1⟩ := cond_some h
      cases h1
      exact Bool.and_eq_true_iff.1 hc
    · cases h
inductive PI where
  | op (i tag : Nat)
  | chain (c t : Nat) (M W : List Nat)
  | fin (M : List Nat)
def groupPlan (F : List Nat) (cs : List (Nat × Nat)) : List PI := F.map (fun f => .op f 4) ++ ((cs.flatMap fun p => .op p.1 p.2 :: F.map (fun f => .op f 4)) ++ F.map (fun f => .op f 1))
def chainPlan (Fe : List Nat) : List (Nat × Nat × List Nat) → List PI
  | [] => [.fin Fe]
  | p :: r => .chain p.1 p.2.1 p.2.2 (r.flatMap (·.2.2) ++ Fe) :: chainPlan Fe r
def group3Plan (Fe : List Nat) (cs : List (Nat × Nat × List Nat)) : List PI := (cs.flatMap (·.2.2) ++ Fe).map (fun f => .op f 4) ++ chainPlan Fe cs
def pureOp (o : Oper) : Bool :=
  match o.op with
  | .move _ | .nilCheck _ | .fieldAddr _ _ _ | .binOp _ _ _ _ _ | .extract _ _ => true
  | _ => false
def pureTake (ops : Array Oper) (L : Array Bool) (i : Nat) : Bool :=
  match ops[i]? with
  | some o => pureOp o && Region.free .any ops L i
  | none => false
def floats3 (ops : Array Oper) : Nat → Array Bool → List Nat
  | 0, _ => []
  | k + 1, L =>
    match (Region.ready .any ops L).filter (fun i => isB ops i || isC ops i) with
    | [] => []
    | l => l ++ floats3 ops k (l.foldl (fun L f => L.setIfInBounds f true) L)
def chain3 (ops : Array Oper) (broke : Bool) : Nat → Array Bool → List Nat → List (Nat × Nat × List Nat) × List Nat
  | 0, _, F => ([], F)
  | k + 1, L, F =>
    match Region.ready .any ops L with
    | [c] =>
      cond (F.all fun f => waits ops c f) ([], F)
        (match ops[c]? with
        | some o =>
          let p := chain3 ops broke k (L.setIfInBounds c true) (F.filter fun f => !(waits ops c f))
          ((c, cond broke 2 (cond (Nat.beq (kindOf o) 0) 3 1), F.filter fun f => waits ops c f) :: p.1, p.2)
        | none => ([], F))
    | _ => ([], F)
def okStat3 (ops : Array Oper) (broke : Bool) (F0 : List Nat) (cs : List (Nat × Nat × List Nat)) : Bool :=
  cs.all fun p => match ops[p.1]? with
    | some o => (match o.dst with | some d => F0.all fun f => !(Nat.beq d (dstF ops f)) | none => true) && cond broke (Nat.beq p.2.1 2) ((Nat.beq p.2.1 1 || Nat.beq p.2.1 3) && !(Nat.beq (kindOf o) 2))
    | none => false
def group3Set (cs : List (Nat × Nat × List Nat)) (Fe : List Nat) (L : Array Bool) : Array Bool := ((cs.flatMap (·.2.2) ++ Fe) ++ cs.map (·.1)).foldl (fun L f => L.setIfInBounds f true) L
def mgroup3 (ops : Array Oper) (L : Array Bool) (broke : Bool) : Option (List (Nat × Nat × List Nat) × List Nat) :=
  let F := floats3 ops (ops.size + 1) L
  let p := chain3 ops broke (ops.size + 1) (F.foldl (fun L f => L.setIfInBounds f true) L) F
  cond (Nat.beq L.size ops.size && (okG3 ops L p.1 p.2 && (okStat3 ops broke (p.1.flatMap (·.2.2) ++ p.2) p.1 && !(p.1.isEmpty && p.2.isEmpty)))) (some p) none
def mplan (ops : Array Oper) : Nat → Nat → Array Bool → Bool → Option (List PI)
  | 0, _, _, _ => none
  | k + 1, n, L, broke =>
    match Region.ready .any ops L with
    | [] => some []
    | j :: rd =>
      match n with
      | 0 => none
      | n + 1 =>
        match cond broke none ((j :: rd).find? (takeable ops L)) with
        | some i => (mplan ops k n (L.setIfInBounds i true) broke).map (.op i 0 :: ·)
        | none =>
          match rd, ops[j]? with
          | [], some o =>
            match broke, kindOf o with
            | false, 0 => (mplan ops k n (L.setIfInBounds j true) false).map (.op j 3 :: ·)
            | false, 1 => (mplan ops k n (L.setIfInBounds j true) false).map (.op j 1 :: ·)
            | false, 2 => (mplan ops k n (L.setIfInBounds j true) true).map (.op j 2 :: ·)
            | true, _ => (mplan ops k n (L.setIfInBounds j true) true).map (.op j 2 :: ·)
            | _, _ => none
          | _, _ =>
            match (j :: rd).find? (pureTake ops L) with
            | some i => (mplan ops k n (L.setIfInBounds i true) broke).map (.op i 6 :: ·)
            | none =>
              match mgroup ops L broke with
              | some (cs, F, Le) => cond (Nat.ble (cs.length + F.length) (n + 1)) ((mplan ops k (n + 1 - (cs.length + F.length)) Le broke).map (groupPlan F cs ++ ·)) none
              | none =>
                match mgroup3 ops L broke with
                | some (cs, Fe) => cond (Nat.ble (cs.length + (cs.flatMap (·.2.2) ++ Fe).length) (n + 1)) ((mplan ops k (n + 1 - (cs.length + (cs.flatMap (·.2.2) ++ Fe).length)) (group3Set cs Fe L) broke).map (group3Plan Fe cs ++ ·)) none
                | none => none
def mgd (ops : Array Oper) (o : Oper) (yes no : St El → Option R) (st : St El) : Option R :=
  match o.guard with
  | none => yes st
  | some (j, want) =>
    match (ops[j]?).bind (·.dst) with
    | some t =>
      match nth st.tmps t with
      | .bool b => cond b (cond want (yes (st.know t true)) (no (st.know t true))) (cond want (no (st.know t false)) (yes (st.know t false)))
      | .tup [] => no st
      | _ => none
    | none => none
def mpure (P : Program) (o : Oper) (K : St El → Option R) (st : St El) : Option R :=
  match o.op with
  | .move x => K (st.put o.dst (ev st x))
  | .nilCheck x =>
    match ev st x with
    | .ptr a b c d => K (st.put o.dst (.ptr a b c d))
    | .fptr a b c d => K (st.put o.dst (.fptr a b c d))
    | _ => none
  | .fieldAddr s x f => mfield P s f (ev st x) fun d => K (st.put o.dst d)
  | .binOp op t x y _ => mbin P op t x y (ev st x) (ev st y) fun d => K (st.put o.dst d)
  | .extract x i =>
    match ev st x with
    | .tup l => match l[i]? with | some d => K (st.put o.dst d) | none => none
    | _ => none
  | _ => none
def GoesP (P : Program) (X : Ctx El) (o : Oper) (st' : St El) (a : Act) (w : World) : Prop :=
  ∃ v, (∀ w', (execOp a.eval o).run P w' = .ok (.value v) w') ∧ ∃ S' β', Rel X st' S' β' (a.put o.dst v) w
theorem goesp {P : Program} {X : Ctx El} {o : Oper} {st : St El} {d : D El} {v : Value} {S : Nat → Prop} {β : Beta} {a : Act} {w : World}
    (h : ∀ w', (execOp a.eval o).run P w' = .ok (.value v) w') (hr : Rel X st S β a w) (hv : VRel w S β v d) : GoesP P X o (st.put o.dst d) a w :=
  ⟨v, h, S, β, hr.put o.dst hv⟩
theorem mpure_sound {P : Program} {o : Oper} {K : St El → Option R} {st : St El} {r : R} (h : mpure P o K st = some r) : ∃ st', K st' = some r ∧
    ∀ {X : Ctx El} {S β a w}, Rel X st S β a w → GoesP P X o st' a w := by
  unfold mpure at h
  split at h
  · rename_i x ho
    exact ⟨_, h, fun {X S β a w} hr => goesp (fun w' => by simp [execOp, ho]) hr (ev_rel hr x)⟩
  · rename_i x ho
    split at h
    · rename_i o' k i c hx
      refine ⟨_, h, fun {X S β a w} hr => ?_⟩
      have hv := ev_rel hr x
      rw [hx] at hv
      generalize hv2 : a.eval x = v at hv
      cases hv with
      | ptr _ _ _ _ g base b1 b2 => exact goesp (fun w' => by simp [execOp, ho, hv2]) hr (.ptr _ _ _ _ g base b1 b2)
    · rename_i t l i c hx
      refine ⟨_, h, fun {X S β a w} hr => ?_⟩
      have hv := ev_rel hr x
      rw [hx] at hv
      generalize hv2 : a.eval x = v at hv
      have hv3 := hv
      cases hv with
      | fptr g off _ _ _ _ C ty fr vs b1 b2 b3 b4 => exact goesp (fun w' => by simp [execOp, ho, hv2]) hr hv3
    · cases h
  · rename_i s x f ho
    obtain ⟨e, h', s⟩ := mfield_sound h
    refine ⟨_, h', fun {X S β a w} hr => ?_⟩
    obtain ⟨u, k1, k2⟩ := s (ev_rel hr x)
    exact goesp (fun w' => by simp only [execOp, ho, Sem.run_bind, k1 w', Result.andThen_ok, Sem.run_pure]) hr k2
  · rename_i op t x y yt ho
    obtain ⟨d, h', s⟩ := mbin_sound h
    refine ⟨_, h', fun {X S β a w} hr => ?_⟩
    obtain ⟨z, k1, k2⟩ := s w S β _ _ (ev_rel hr x) (ev_rel hr y)
    exact goesp (fun w' => by simp only [execOp, ho, Sem.run_bind, k1 w', Result.andThen_ok, Sem.run_pure]) hr k2
  · rename_i x i ho
    split at h
    · rename_i l hx
      split at h
      · rename_i d hd
        refine ⟨_, h, fun {X S β a w} hr => ?_⟩
        have hv := ev_rel hr x
        rw [hx] at hv
        generalize hv2 : a.eval x = v at hv
        cases hv with
        | tup vs _ b1 b2 =>
          have hi : i < vs.size := by rw [b1]; exact (List.getElem?_eq_some_iff.1 hd).1
          have hg : vs[i]? = some vs[i] := by simp [hi]
          exact goesp (fun w' => by simp only [execOp, ho, hv2, Instr.extract, hg, Sem.run_bind, Result.andThen_ok, Sem.run_pure]) hr (b2 i _ d hg hd)
      · cases h
    · cases h
  · cases h
def mstep (P : Program) (C Cc : St El → Nat → List (D El) → (St El → D El → Option R) → Option R) (tag : Nat) (o : Oper) (K : St El → Option R) (st : St El) : Option R :=
  match tag with
  | 0 => mquiet P o K st
  | 3 => mquiet P o K st
  | 6 => mpure P o K st
  | 1 => mcalm P Cc o K st
  | 4 => match o.dst with
    | some d => cond (Nat.blt d st.tmps.length) (K (st.put (some d) .dead)) none
    | none => none
  | _ => mop P C o K st
def mafter (P : Program) (ops : Array Oper) (W : List Nat) (vs : List Value) (K : St El → Option R) (st1 : St El) : Option R :=
  cond (W.all fun f => Nat.blt (dstF ops f) st1.tmps.length) (mlook P ops (deads ops W st1) W fun vs2 => eqVals vs vs2 (K (deads ops W st1))) none
def mchain3 (P : Program) (C Cc : St El → Nat → List (D El) → (St El → D El → Option R) → Option R) (ops : Array Oper) (c t : Nat) (M W : List Nat) (K : St El → Option R) (st : St El) : Option R :=
  match ops[c]? with
  | some o => mlook P ops st W fun vs => mmat P ops st M st fun stM => mgd ops o (mstep P C Cc t o (mafter P ops W vs K)) (fun s => mafter P ops W vs K (s.put o.dst (.tup []))) stM
  | none => none
def mdrawL (P : Program) (C Cc : St El → Nat → List (D El) → (St El → D El → Option R) → Option R) (ops : Array Oper) : List PI → (St El → Option R) → St El → Option R
  | [], K, st => K st
  | .op i tag :: r, K, st =>
    match ops[i]? with
    | some o => mgd ops o (mstep P C Cc tag o (mdrawL P C Cc ops r K)) (fun st => mdrawL P C Cc ops r K (st.put o.dst (.tup []))) st
    | none => none
  | .chain c t M W :: r, K, st => mchain3 P C Cc ops c t M W (mdrawL P C Cc ops r K) st
  | .fin M :: r, K, st => mmat P ops st M st (mdrawL P C Cc ops r K)
theorem mgd_sound {ops : Array Oper} {o : Oper} {yes no : St El → Option R} {st : St El} {r : R} (h : mgd ops o yes no st = some r) :
    (yes st = some r ∧ ∀ {X : Ctx El} {S β a w}, Rel X st S β a w → Region.wanted o (yielded ops a.tmps) = true) ∨
    (no st = some r ∧ ∀ {X : Ctx El} {S β a w}, Rel X st S β a w → Region.wanted o (yielded ops a.tmps) = false) := by
  unfold mgd at h
  split at h
  · rename_i hg
    exact .inl ⟨h, fun {X S β a w} hr => by simp [Region.wanted, hg]⟩
  · rename_i j want hg
    split at h
    · rename_i t ht
      split at h
      · rename_i b hb
        have hy : ∀ {X : Ctx El} {S β a w}, Rel X st S β a w → yielded ops a.tmps j = some b := by
          intro X S β a w hr
          have hv := hr.tmps t
          rw [hb] at hv
          unfold yielded
          rw [ht]
          simp only [Option.bind_some]
          have hlt : t < a.tmps.size := by
            rcases Nat.lt_or_ge t a.tmps.size with hl | hl
            · exact hl
            · have e : a.tmps.getD t undef = undef := by simp [Array.getD, Nat.not_lt.2 hl]
              rw [e] at hv
              cases hv
          have e : a.tmps[t]? = some (a.tmps.getD t undef) := by simp [Array.getD, hlt]
          rw [e]
          generalize a.tmps.getD t undef = v at hv
          cases hv
          rfl
        have hk : st.know t b = st := St.know_eq hb
        cases b with
        | true =>
          simp only [cond_true, hk] at h
          cases want with
          | true => exact .inl ⟨h, fun {X S β a w} hr => by simp [Region.wanted, hg, hy hr]⟩
          | false => exact .inr ⟨h, fun {X S β a w} hr => by simp [Region.wanted, hg, hy hr]⟩
        | false =>
          simp only [cond_false, hk] at h
          cases want with
          | true => exact .inr ⟨h, fun {X S β a w} hr => by simp [Region.wanted, hg, hy hr]⟩
          | false => exact .inl ⟨h, fun {X S β a w} hr => by simp [Region.wanted, hg, hy hr]⟩
      · rename_i hb
        refine .inr ⟨h, fun {X S β a w} hr => ?_⟩
        have hy : yielded ops a.tmps j = none := by
          have hv := hr.tmps t
          rw [hb] at hv
          unfold yielded
          rw [ht]
          simp only [Option.bind_some]
          cases ha : a.tmps[t]? with
          | none => rfl
          | some v =>
            have e : a.tmps.getD t undef = v := by simp [Array.getD_eq_getD_getElem?, ha]
            rw [e] at hv
            cases hv
            rfl
        simp [Region.wanted, hg, hy]
      · cases h
    · cases h
theorem wpOp_yes {P : Program} {ops : Array Oper} {Q : Exit → Act → World → Prop} {i : Nat} {o : Oper} (hi : ops[i]? = some o) {K : Act → World → Prop} {a : Act} {w : World} (hw : Region.wanted o (yielded ops a.tmps) = true) (h : o.wp P a w K Q) : wpOp P ops Q i K a w := by
  unfold wpOp
  simp only [hi, hw, if_true]
  exact .inl h
theorem wpOp_no {P : Program} {ops : Array Oper} {Q : Exit → Act → World → Prop} {i : Nat} {o : Oper} (hi : ops[i]? = some o) {K : Act → World → Prop} {a : Act} {w : World} (hw : Region.wanted o (yielded ops a.tmps) = false) (h : K (a.put o.dst undef) w) : wpOp P ops Q i K a w := by
  unfold wpOp
  simp only [hi, hw]
  exact h
theorem map_some {α β : Type} {f : α → β} {x : Option α} {y : β} (h : x.map f = some y) : ∃ z, x = some z ∧ y = f z := by
  cases x with
  | none => cases h
  | some z => cases h; exact ⟨z, rfl, rfl⟩
def Good (P : Program) (ops : Array Oper) (n : Nat) (L : Array Bool) (broke : Bool) (st st' : St El) : Prop :=
  ∀ {X : Ctx El} {S β a w} {Q : Exit → Act → World → Prop}, Closed .any ops L → Rel X st S β a w → After P X st' Q → (∀ c a w, ¬ Q (.panic c) a w) → (broke = true → Broke P ops L) → (broke = false → ¬ Broke P ops L) → wpG P .any ops Q (SB P ops w) n L a w
section
variable {P : Program} {C Cc : St El → Nat → List (D El) → (St El → D El → Option R) → Option R} {ops : Array Oper}
theorem deads_run' : ∀ {F : List Nat} {rest : List PI} {K : St El → Option R} {st : St El} {r : R}, (∀ f ∈ F, ∃ o, ops[f]? = some o ∧ o.dst = some (dstF ops f) ∧ o.guard = none) → mdrawL P C Cc ops (F.map (fun f => PI.op f 4) ++ rest) K st = some r →
    mdrawL P C Cc ops rest K (deads ops F st) = some r ∧ ∀ f ∈ F, dstF ops f < st.tmps.length := by
  intro F
  induction F with
  | nil => intro rest K st r _ h; exact ⟨h, fun f hf => by cases hf⟩
  | cons f F ih =>
    intro rest K st r hF h
    obtain ⟨o, ho, hd, hg⟩ := hF f (List.mem_cons_self ..)
    simp only [List.map_cons, List.cons_append, mdrawL, ho, mgd, hg, mstep, hd] at h
    obtain ⟨hlt, h⟩ := cond_some h
    obtain ⟨h1, h2⟩ := ih (fun g hg => hF g (List.mem_cons_of_mem _ hg)) h
    have hlt : dstF ops f < st.tmps.length := by rw [Nat.blt_eq] at hlt; exact hlt
    refine ⟨h1, fun g hg => ?_⟩
    rcases List.mem_cons.1 hg with rfl | hg
    · exact hlt
    · have := h2 g hg
      simpa [St.put, length_setNth] using this
theorem deads_run {F : List Nat} {rest : List PI} {K : St El → Option R} {st : St El} {r : R} (hF : ∀ f ∈ F, isFlo ops f = true) (h : mdrawL P C Cc ops (F.map (fun f => PI.op f 4) ++ rest) K st = some r) :
    mdrawL P C Cc ops rest K (deads ops F st) = some r ∧ ∀ f ∈ F, dstF ops f < st.tmps.length :=
  deads_run' (fun f hf => by obtain ⟨o, ho, _, hd, hg⟩ := isFlo_spec (hF f hf); exact ⟨o, ho, hd, hg⟩) h
theorem chain_run (hC : CallOK P C) (hCc : CalmOK P Cc) {broke : Bool} {F : List Nat} (hF : ∀ f ∈ F, isFlo ops f = true) : ∀ {cs : List (Nat × Nat)} {rest : List PI} {K : St El → Option R} {st : St El} {r : R},
    (∀ p ∈ cs, ∃ o, ops[p.1]? = some o ∧ (∀ f ∈ F, o.dst ≠ some (dstF ops f)) ∧ (broke = true → p.2 = 2) ∧ (broke = false → (p.2 = 1 ∨ p.2 = 3) ∧ kindOf o ≠ 2)) →
    mdrawL P C Cc ops ((cs.flatMap fun p => PI.op p.1 p.2 :: F.map (fun f => PI.op f 4)) ++ rest) K st = some r → ∃ stm, mdrawL P C Cc ops rest K stm = some r ∧ Run P ops (!broke) F cs st stm := by
  intro cs
  induction cs with
  | nil => intro rest K st r _ h; exact ⟨st, h, .nil st⟩
  | cons p cs ih =>
    intro rest K st r hcs h
    obtain ⟨c, t⟩ := p
    obtain ⟨o, ho, hd, hb1, hb2⟩ := hcs (c, t) (List.mem_cons_self ..)
    simp only [List.flatMap_cons, List.cons_append, List.append_assoc, mdrawL, ho] at h
    have go : ∀ {st1 : St El}, StepOK P ops o (!broke) st st1 → mdrawL P C Cc ops (F.map (fun f => PI.op f 4) ++ ((cs.flatMap fun p => PI.op p.1 p.2 :: F.map (fun f => PI.op f 4)) ++ rest)) K st1 = some r → ∃ stm, mdrawL P C Cc ops rest K stm = some r ∧ Run P ops (!broke) F ((c, t) :: cs) st stm := by
      intro st1 hs h1
      obtain ⟨h2, _⟩ := deads_run hF h1
      obtain ⟨stm, h3, h4⟩ := ih (fun p hp => hcs p (List.mem_cons_of_mem _ hp)) h2
      exact ⟨stm, h3, .cons c t cs o st st1 stm ho hd (fun hc => (hb2 (by simpa using hc)).2) hs h4⟩
    rcases mgd_sound h with ⟨h1, hw⟩ | ⟨h1, hw⟩
    · cases hbr : broke with
      | true =>
        have e : t = 2 := hb1 hbr
        subst e
        obtain ⟨st1, h2, s2⟩ := mop_sound hC (show mop P C o _ st = some r from h1)
        rw [← hbr]
        exact go (.inl ⟨hw, fun {X S β a w} hr Q => Oper.wp_mono (fun a' w' k => ⟨k, fun hc => by rw [hbr] at hc; cases hc⟩) (s2 hr Q)⟩) h2
      | false =>
        rw [← hbr]
        rcases (hb2 hbr).1 with e | e
        · have e : t = 1 := e
          subst e
          obtain ⟨st1, h2, s2⟩ := mcalm_sound hCc (show mcalm P Cc o _ st = some r from h1)
          exact go (.inl ⟨hw, fun {X S β a w} hr Q => Oper.wp_mono (fun a' w' k => ⟨k.1, fun _ => k.2⟩) (s2 hr Q)⟩) h2
        · have e : t = 3 := e
          subst e
          obtain ⟨st1, h2, s2⟩ := mquiet_sound (show mquiet P o _ st = some r from h1)
          refine go (.inl ⟨hw, fun {X S β a w} hr Q => ?_⟩) h2
          obtain ⟨v, hv, S1, β1, hr1⟩ := s2 hr
          unfold Oper.wp
          rw [hv w (Stay.refl w)]
          exact ⟨⟨S1, β1, hr1⟩, fun _ => Stay.refl w⟩
    · exact go (.inr ⟨hw, rfl⟩) h1
theorem floats_run : ∀ {F : List Nat} {rest : List PI} {K : St El → Option R} {st : St El} {r : R}, (∀ f ∈ F, isFlo ops f = true) → okStat.nodupF F = true → mdrawL P C Cc ops (F.map (fun f => PI.op f 1) ++ rest) K st = some r →
    (∀ f ∈ F, ∃ ds : List (D El), mzero P (tyF ops f) = some ds) ∧ ∃ ste, mdrawL P C Cc ops rest K ste = some r ∧ ∀ {X : Ctx El} {S β a w ρ}, Rel X st S β a w → Flos X P ops st S β a w (· ∈ F) ρ → ∃ β', Rel X ste S β' a w := by
  intro F
  induction F with
  | nil => intro rest K st r _ _ h; exact ⟨fun f hf => by (cases hf), st, h, fun {X S β a w ρ} hr _ => ⟨β, hr⟩⟩
  | cons f F ih =>
    intro rest K st r hF hn h
    obtain ⟨o, ho, hop, hd, hg⟩ := isFlo_spec (hF f (List.mem_cons_self ..))
    simp only [List.map_cons, List.cons_append, mdrawL, ho, mgd, hg, mstep, mcalm, hop, mop] at h
    obtain ⟨hn1, hn2⟩ := Bool.and_eq_true_iff.1 hn
    have hnm : f ∉ F := fun hm => by rw [memN'_iff.2 hm] at hn1; cases hn1
    split at h
    · rename_i ds hz
      rw [hd] at h
      obtain ⟨i1, ste, i2, i3⟩ := ih (fun g hg => hF g (List.mem_cons_of_mem _ hg)) hn2 h
      refine ⟨fun g hg => ?_, ste, i2, fun {X S β a w ρ} hr hfl => ?_⟩
      · rcases List.mem_cons.1 hg with rfl | hg
        · exact ⟨ds, hz⟩
        · exact i1 g hg
      · have hf := hfl.1 f (List.mem_cons_self ..)
        obtain ⟨β', h1, h2⟩ := float_in hz hr hf
        refine i3 (ρ := ρ) h1 ⟨fun g hg => ?_, fun g1 g2 k1 k2 => hfl.2 g1 g2 (List.mem_cons_of_mem _ k1) (List.mem_cons_of_mem _ k2)⟩
        have hgf := hfl.1 g (List.mem_cons_of_mem _ hg)
        exact ⟨hgf.tmp, hgf.lt, hgf.heap, hgf.out, hgf.big, h2 _ (fun e => hnm (by
          have := hfl.2 g f (List.mem_cons_of_mem _ hg) (List.mem_cons_self ..) e
          rw [← this]; exact hg)) hgf.off⟩
    · cases h
theorem okStat_spec {broke : Bool} {F : List Nat} {cs : List (Nat × Nat)} (h : okStat ops broke F cs = true) : (∀ f ∈ F, isFlo ops f = true) ∧ (∀ f ∈ F, ∀ g ∈ F, dstF ops f = dstF ops g → f = g) ∧
    (∀ p ∈ cs, ∃ o, ops[p.1]? = some o ∧ (∀ f ∈ F, o.dst ≠ some (dstF ops f)) ∧ (broke = true → p.2 = 2) ∧ (broke = false → (p.2 = 1 ∨ p.2 = 3) ∧ kindOf o ≠ 2)) ∧ okStat.nodupF F = true := by
  unfold okStat at h
  obtain ⟨h1, h⟩ := Bool.and_eq_true_iff.1 h
  obtain ⟨h2, h⟩ := Bool.and_eq_true_iff.1 h
  obtain ⟨h3, h4⟩ := Bool.and_eq_true_iff.1 h
  refine ⟨List.all_eq_true.1 h1, fun f hf g hg he => ?_, fun p hp => ?_, h4⟩
  · have := List.all_eq_true.1 (List.all_eq_true.1 h2 f hf) g hg
    rw [he] at this
    simp only [Nat.beq_refl, cond_true] at this
    exact beq_true this
  · have := List.all_eq_true.1 h3 p hp
    split at this
    · rename_i o ho
      obtain ⟨k1, k2⟩ := Bool.and_eq_true_iff.1 this
      refine ⟨o, ho, fun f hf e => ?_, fun hb => ?_, fun hb => ?_⟩
      · rw [e] at k1
        have := List.all_eq_true.1 k1 f hf
        simp at this
      · rw [hb] at k2
        exact beq_true k2
      · rw [hb] at k2
        obtain ⟨k3, k4⟩ := Bool.and_eq_true_iff.1 k2
        refine ⟨?_, fun e => by rw [e] at k4; cases k4⟩
        rcases Bool.or_eq_true_iff.1 k3 with k | k
        · exact .inl (beq_true k)
        · exact .inr (beq_true k)
    · cases this
end
theorem Run3.congr {P : Program} {ops : Array Oper} {calm : Bool} {E E' : FE El} {F0 : List Nat} {cs : List (Nat × Nat × List Nat)} {U : List Nat} {st stm : St El} (h : Run3 P ops calm E F0 cs U st stm) : (∀ f ∈ U, E'.b f = E.b f ∧ E'.c f = E.c f) → Run3 P ops calm E' F0 cs U st stm := by
  induction h with
  | nil U st h => intro he; exact .nil U st fun f hf hb => by rw [(he f hf).1]; exact h f hf hb
  | cons c t M cs W o st stM st1 stm h1 h2 h3 h4 h5 h6 _ ih => intro he; exact .cons c t M cs W o st stM st1 stm (fun f hf hb => by rw [(he f hf).1]; exact h1 f hf hb) (h2.congr fun f hf => he f (List.mem_append_left _ hf)) h3 h4 h5 h6 (ih fun f hf => he f (List.mem_append_right _ hf))
theorem RunsC.congr {P : Program} {ops : Array Oper} {E E' : FE El} {f : Nat} {G : Nat → Prop} (h : RunsC P ops E f G) (hf : E'.c f = E.c f) (hg : ∀ g, G g → E'.b g = E.b g) : RunsC P ops E' f G := by
  intro o a ho hp
  rw [hf]
  refine h o a ho fun t n ps hop x hx => ?_
  rcases hp t n ps hop x hx with h1 | ⟨g, g1, g2, g3, g4⟩
  · exact .inl h1
  · exact .inr ⟨g, g1, g2, g3, by rw [g4, hg g g1]⟩
section
variable {P : Program} {C Cc : St El → Nat → List (D El) → (St El → D El → Option R) → Option R} {ops : Array Oper}
theorem mafter_sound {W : List Nat} {vs : List Value} {K : St El → Option R} {st1 : St El} {r : R} (h : mafter P ops W vs K st1 = some r) : K (deads ops W st1) = some r ∧ lookL P ops (deads ops W st1) W = some vs ∧ ∀ f ∈ W, dstF ops f < st1.tmps.length := by
  unfold mafter at h
  obtain ⟨h1, h2⟩ := cond_some h
  obtain ⟨vs2, h3, h4⟩ := mlook_sound h2
  obtain ⟨rfl, h5⟩ := eqVals_sound h3
  exact ⟨h5, h4, fun f hf => by have := List.all_eq_true.1 h1 f hf; rwa [Nat.blt_eq] at this⟩
theorem chain_run3 (hC : CallOK P C) (hCc : CalmOK P Cc) {broke : Bool} {F0 : List Nat} (hk : ∀ f ∈ F0, isB ops f = true ∨ isC ops f = true) (hdst : ∀ f ∈ F0, ∀ g ∈ F0, dstF ops f = dstF ops g → f = g) {cs0 : List (Nat × Nat × List Nat)} {Fe : List Nat}
    (hcs0 : ∀ p ∈ cs0, ∃ o, ops[p.1]? = some o ∧ (∀ f ∈ F0, o.dst ≠ some (dstF ops f)) ∧ (broke = true → p.2.1 = 2) ∧ (broke = false → (p.2.1 = 1 ∨ p.2.1 = 3) ∧ kindOf o ≠ 2)) :
    ∀ {cs : List (Nat × Nat × List Nat)} {rest : List PI} {K : St El → Option R} {st : St El} {r : R}, (∀ p ∈ cs, p ∈ cs0) → (∀ f ∈ cs.flatMap (·.2.2) ++ Fe, f ∈ F0) → (cs.flatMap (·.2.2) ++ Fe).Nodup → (∀ f ∈ cs.flatMap (·.2.2) ++ Fe, nth st.tmps (dstF ops f) = .dead ∧ dstF ops f < st.tmps.length) →
    mdrawL P C Cc ops (chainPlan Fe cs ++ rest) K st = some r → ∃ (E : FE El) (stm ste : St El), mdrawL P C Cc ops rest K ste = some r ∧ Run3 P ops (!broke) E F0 cs (cs.flatMap (·.2.2) ++ Fe) st stm ∧ Mat ops E Fe stm ste ∧ (∀ s ∈ cs.map (·.2.2) ++ [Fe], ∀ f ∈ s, isC ops f = true → RunsC P ops E f (· ∈ s)) := by
  intro cs
  induction cs with
  | nil =>
    intro rest K st r _ hsub hn hdead h
    simp only [List.flatMap_nil, List.nil_append] at hsub hn hdead
    obtain ⟨E, ste, i1, i2, i3, _, i5⟩ := mmat_sound (fun _ _ _ _ => trivial) [] (fun _ => undef) (show mmat P ops st Fe st (mdrawL P C Cc ops rest K) = some r from h) (fun f hf g hg => hdst f (hsub f hf) g (hsub g hg)) hn hdead (fun g hg => by cases hg) (fun f hf => hk f (hsub f hf))
    refine ⟨E, st, ste, i1, .nil _ st i3, i2, fun s hs f hf hc => ?_⟩
    simp only [List.map_nil, List.nil_append, List.mem_singleton] at hs
    subst hs
    exact i5 f hf hc
  | cons p cs ih =>
    intro rest K st r hcs hsub hn hdead h
    obtain ⟨c, t, M⟩ := p
    simp only [List.flatMap_cons, List.append_assoc] at hsub hn hdead
    have hW : ∀ f ∈ cs.flatMap (·.2.2) ++ Fe, f ∈ M ++ (cs.flatMap (·.2.2) ++ Fe) := fun f hf => List.mem_append_right _ hf
    have hM : ∀ f ∈ M, f ∈ M ++ (cs.flatMap (·.2.2) ++ Fe) := fun f hf => List.mem_append_left _ hf
    obtain ⟨hn1, hn2, hn3⟩ := List.nodup_append.1 hn
    obtain ⟨o, ho, hd, hb1, hb2⟩ := hcs0 (c, t, M) (hcs _ (List.mem_cons_self ..))
    simp only [chainPlan, List.cons_append, mdrawL, mchain3, ho] at h
    obtain ⟨vs, h1, hvs⟩ := mlook_sound h
    obtain ⟨E1, stM, i1, i2, i3, _, i5⟩ := mmat_sound (fun _ _ _ _ => trivial) [] (fun _ => undef) h1 (fun f hf g hg => hdst f (hsub f (hM f hf)) g (hsub g (hM g hg))) hn1 (fun f hf => hdead f (hM f hf)) (fun g hg => by cases hg) (fun f hf => hk f (hsub f (hM f hf)))
    have go : ∀ {st1 : St El}, StepOK P ops o (!broke) stM st1 → mafter P ops (cs.flatMap (·.2.2) ++ Fe) vs (mdrawL P C Cc ops (chainPlan Fe cs ++ rest) K) st1 = some r →
        ∃ (E : FE El) (stm ste : St El), mdrawL P C Cc ops rest K ste = some r ∧ Run3 P ops (!broke) E F0 ((c, t, M) :: cs) (((c, t, M) :: cs).flatMap (·.2.2) ++ Fe) st stm ∧ Mat ops E Fe stm ste ∧ (∀ s ∈ ((c, t, M) :: cs).map (·.2.2) ++ [Fe], ∀ f ∈ s, isC ops f = true → RunsC P ops E f (· ∈ s)) := by
      intro st1 hs h2
      obtain ⟨h3, h4, h5⟩ := mafter_sound h2
      obtain ⟨E2, stm, ste, j1, j2, j3, j4⟩ := ih (fun p hp => hcs p (List.mem_cons_of_mem _ hp)) (fun f hf => hsub f (hW f hf)) hn2 (fun f hf => ⟨deads_dead ops _ st1 f hf (h5 f hf), by rw [deads_len]; exact h5 f hf⟩) h3
      let E : FE El := ⟨fun f => if f ∈ M then E1.b f else E2.b f, fun f => if f ∈ M then E1.c f else E2.c f⟩
      have e1 : ∀ f ∈ M, E.b f = E1.b f ∧ E.c f = E1.c f := fun f hf => ⟨if_pos hf, if_pos hf⟩
      have e2 : ∀ f ∈ cs.flatMap (·.2.2) ++ Fe, E.b f = E2.b f ∧ E.c f = E2.c f := fun f hf => ⟨if_neg fun hm => hn3 f hm f hf rfl, if_neg fun hm => hn3 f hm f hf rfl⟩
      have eqU : ((c, t, M) :: cs).flatMap (·.2.2) ++ Fe = M ++ (cs.flatMap (·.2.2) ++ Fe) := by simp
      refine ⟨E, stm, ste, j1, ?_, j3.congr fun f hf => e2 f (List.mem_append_right _ hf), fun s hs f hf hc => ?_⟩
      · rw [eqU]
        refine .cons c t M cs _ o st stM st1 stm (fun f hf hb => ?_) (i2.congr e1) ho hd (fun hc => (hb2 (by simpa using hc)).2) hs (j2.congr e2)
        rcases List.mem_append.1 hf with hf | hf
        · rw [(e1 f hf).1]
          exact i3 f hf hb
        · obtain ⟨v, v1, v2⟩ := lookL_same hvs h4 f hf hb
          have := j2.look f hf hb
          rw [v2] at this
          rw [(e2 f hf).1, v1]
          exact this
      · rw [List.map_cons, List.cons_append] at hs
        rcases List.mem_cons.1 hs with rfl | hs
        · exact (i5 f hf hc).congr (e1 f hf).2 fun g hg => (e1 g hg).1
        · have hin : ∀ g ∈ s, g ∈ cs.flatMap (·.2.2) ++ Fe := fun g hg => by
            rcases List.mem_append.1 hs with h | h
            · obtain ⟨q, q1, rfl⟩ := List.mem_map.1 h
              exact List.mem_append_left _ (List.mem_flatMap.2 ⟨q, q1, hg⟩)
            · rw [List.mem_singleton] at h
              subst h
              exact List.mem_append_right _ hg
          exact (j4 s hs f hf hc).congr (e2 f (hin f hf)).2 fun g hg => (e2 g (hin g hg)).1
    rcases mgd_sound i1 with ⟨h2, hw⟩ | ⟨h2, hw⟩
    · rcases Bool.eq_false_or_eq_true broke with hbr | hbr
      · have e : t = 2 := hb1 hbr
        subst e
        obtain ⟨st1, h3, s2⟩ := mop_sound hC (show mop P C o _ stM = some r from h2)
        exact go (.inl ⟨hw, fun {X S β a w} hr Q => Oper.wp_mono (fun a' w' k => ⟨k, fun hc => by rw [hbr] at hc; cases hc⟩) (s2 hr Q)⟩) h3
      · rcases (hb2 hbr).1 with e | e
        · have e : t = 1 := e
          subst e
          obtain ⟨st1, h3, s2⟩ := mcalm_sound hCc (show mcalm P Cc o _ stM = some r from h2)
          exact go (.inl ⟨hw, fun {X S β a w} hr Q => Oper.wp_mono (fun a' w' k => ⟨k.1, fun _ => k.2⟩) (s2 hr Q)⟩) h3
        · have e : t = 3 := e
          subst e
          obtain ⟨st1, h3, s2⟩ := mquiet_sound (show mquiet P o _ stM = some r from h2)
          refine go (.inl ⟨hw, fun {X S β a w} hr Q => ?_⟩) h3
          obtain ⟨v, hv, S1, β1, hr1⟩ := s2 hr
          unfold Oper.wp
          rw [hv w (Stay.refl w)]
          exact ⟨⟨S1, β1, hr1⟩, fun _ => Stay.refl w⟩
    · exact go (.inr ⟨hw, rfl⟩) h2
theorem okStat3_spec {broke : Bool} {F0 : List Nat} {cs : List (Nat × Nat × List Nat)} (h : okStat3 ops broke F0 cs = true) : ∀ p ∈ cs, ∃ o, ops[p.1]? = some o ∧ (∀ f ∈ F0, o.dst ≠ some (dstF ops f)) ∧ (broke = true → p.2.1 = 2) ∧ (broke = false → (p.2.1 = 1 ∨ p.2.1 = 3) ∧ kindOf o ≠ 2) := by
  intro p hp
  have := List.all_eq_true.1 h p hp
  split at this
  · rename_i o ho
    obtain ⟨k1, k2⟩ := Bool.and_eq_true_iff.1 this
    refine ⟨o, ho, fun f hf e => ?_, fun hb => ?_, fun hb => ?_⟩
    · rw [e] at k1
      have := List.all_eq_true.1 k1 f hf
      simp at this
    · rw [hb] at k2
      exact beq_true k2
    · rw [hb] at k2
      obtain ⟨k3, k4⟩ := Bool.and_eq_true_iff.1 k2
      refine ⟨?_, fun e => by rw [e] at k4; cases k4⟩
      rcases Bool.or_eq_true_iff.1 k3 with k | k
      · exact .inl (beq_true k)
      · exact .inr (beq_true k)
  · cases this
theorem mgroup3_spec {L : Array Bool} {broke : Bool} {cs : List (Nat × Nat × List Nat)} {Fe : List Nat} (h : mgroup3 ops L broke = some (cs, Fe)) : L.size = ops.size ∧ okG3 ops L cs Fe = true ∧ okStat3 ops broke (cs.flatMap (·.2.2) ++ Fe) cs = true ∧ (cs.isEmpty && Fe.isEmpty) = false := by
  unfold mgroup3 at h
  dsimp only at h
  obtain ⟨hc, h1⟩ := cond_some h
  have h1 := Option.some.inj h1
  rw [h1] at hc
  obtain ⟨c1, hc⟩ := Bool.and_eq_true_iff.1 hc
  obtain ⟨c2, hc⟩ := Bool.and_eq_true_iff.1 hc
  obtain ⟨c3, c4⟩ := Bool.and_eq_true_iff.1 hc
  refine ⟨beq_true c1, c2, c3, ?_⟩
  cases hb : (cs.isEmpty && Fe.isEmpty) with
  | false => rfl
  | true =>
    have c4 : (!(cs.isEmpty && Fe.isEmpty)) = true := c4
    rw [hb] at c4
    cases c4
theorem setAll_getD : ∀ (l : List Nat) (L : Array Bool) (j : Nat) (d : Bool), (l.foldl (fun L f => L.setIfInBounds f true) L).getD j d = if j ∈ l ∧ j < L.size then true else L.getD j d
  | [], L, j, d => by simp
  | x :: l, L, j, d => by
    rw [List.foldl_cons, setAll_getD l]
    simp only [Array.size_setIfInBounds, List.mem_cons]
    by_cases hj : j < L.size
    · by_cases hl : j ∈ l
      · simp [hl, hj]
      · by_cases hx : j = x
        · subst hx
          simp [hl, hj]
        · rw [if_neg (fun h => hl h.1), if_neg (fun h => h.1.elim hx hl), getD_set_ne d (Ne.symm hx)]
    · rw [if_neg (fun h => hj h.2), if_neg (fun h => hj h.2)]
      have h1 : ¬ j < (L.setIfInBounds x true).size := by simpa using hj
      simp only [Array.getD, dif_neg h1, dif_neg hj]
theorem setAll_size : ∀ (l : List Nat) (L : Array Bool), (l.foldl (fun L f => L.setIfInBounds f true) L).size = L.size
  | [], L => rfl
  | x :: l, L => by rw [List.foldl_cons, setAll_size l]; simp
theorem at_set {L L' : Array Bool} {cs : List (Nat × Nat × List Nat)} {Fe : List Nat} (hu : ∀ j, (j ∈ cs.flatMap (·.2.2) ++ Fe ∨ j ∈ cs.map (·.1)) → L.getD j true = false) (h : At ops L L' (fun j => j ∈ cs.flatMap (·.2.2) ++ Fe ∨ j ∈ cs.map (·.1)) (fun _ => False)) : L' = group3Set cs Fe L := by
  have hsz : (group3Set cs Fe L).size = L.size := by
    unfold group3Set
    exact setAll_size _ L
  apply Array.ext
  · rw [hsz, h.size]
  · intro j h1 h2
    have k1 := h.undone j
    have hj : j < L.size := by rw [← h.size]; exact h1
    have k2 := setAll_getD ((cs.flatMap (·.2.2) ++ Fe) ++ cs.map (·.1)) L j true
    have e1 : L'.getD j true = L'[j] := by simp [Array.getD, h1]
    have e2 : (group3Set cs Fe L).getD j true = (group3Set cs Fe L)[j] := by simp [Array.getD, h2]
    rw [← e1, ← e2]
    unfold group3Set
    rw [k2]
    by_cases hm : j ∈ (cs.flatMap (·.2.2) ++ Fe) ++ cs.map (·.1)
    · rw [if_pos ⟨hm, hj⟩]
      cases hv : L'.getD j true with
      | true => rfl
      | false => exact ((k1.1 hv).2 (List.mem_append.1 hm)).elim
    · rw [if_neg (fun h => hm h.1)]
      cases hv : L.getD j true with
      | false => exact k1.2 ⟨hv, fun hg => absurd (List.mem_append.2 hg) hm⟩
      | true =>
        cases hv2 : L'.getD j true with
        | true => rfl
        | false => rw [(k1.1 hv2).1] at hv; cases hv
end
theorem seg_same {cs : List (Nat × Nat × List Nat)} {Fe : List Nat} (hn : (cs.flatMap (·.2.2) ++ Fe).Nodup) {s s2 : List Nat} {f : Nat} (hs : s ∈ cs.map (·.2.2) ++ [Fe]) (hf : f ∈ s) (hs2 : s2 ∈ cs.map (·.2.2) ++ [Fe]) (hf2 : f ∈ s2) : s2 = s := by
  induction cs with
  | nil =>
    simp only [List.map_nil, List.nil_append, List.mem_singleton] at hs hs2
    rw [hs, hs2]
  | cons p cs ih =>
    simp only [List.flatMap_cons, List.append_assoc] at hn
    obtain ⟨n1, n2, n3⟩ := List.nodup_append.1 hn
    have hin : ∀ s ∈ cs.map (·.2.2) ++ [Fe], f ∈ s → f ∈ cs.flatMap (·.2.2) ++ Fe := fun s hs hg => by
      rcases List.mem_append.1 hs with h | h
      · obtain ⟨q, q1, rfl⟩ := List.mem_map.1 h
        exact List.mem_append_left _ (List.mem_flatMap.2 ⟨q, q1, hg⟩)
      · rw [List.mem_singleton] at h
        subst h
        exact List.mem_append_right _ hg
    rw [List.map_cons, List.cons_append] at hs hs2
    rcases List.mem_cons.1 hs with rfl | hs
    · rcases List.mem_cons.1 hs2 with rfl | hs2
      · rfl
      · exact (n3 f hf f (hin _ hs2 hf2) rfl).elim
    · rcases List.mem_cons.1 hs2 with rfl | hs2
      · exact (n3 f hf2 f (hin _ hs hf) rfl).elim
      · exact ih n2 hs hs2
theorem mdrawL_sound {P : Program} {C Cc : St El → Nat → List (D El) → (St El → D El → Option R) → Option R} (hC : CallOK P C) (hCc : CalmOK P Cc) {ops : Array Oper} (hsel : Region.noSelect ops = true) :
    ∀ (k n : Nat) (L : Array Bool) (broke : Bool) (pl : List PI) (K : St El → Option R) (st : St El) (r : R), mplan ops k n L broke = some pl → mdrawL P C Cc ops pl K st = some r → ∃ st', K st' = some r ∧ Good P ops n L broke st st' := by
  intro k
  induction k with
  | zero =>
    intro n L broke pl K st r hp h
    cases hp
  | succ k ih =>
    intro n L broke pl K st r hp h
    unfold mplan at hp
    split at hp
    · rename_i hrd
      cases hp
      exact ⟨st, h, fun {X S β a w Q} hcl hr hq hQ _ _ => wpG_done hrd (hq a w ⟨S, β, hr⟩) _⟩
    · rename_i j rd hrd
      split at hp
      · cases hp
      rename_i n
      split at hp
      · rename_i i hfind
        cases broke with
        | true => cases hfind
        | false =>
          have hfind : (j :: rd).find? (takeable ops L) = some i := hfind
          have hmem : i ∈ Region.ready .any ops L := by rw [hrd]; exact List.mem_of_find?_eq_some hfind
          have htk : takeable ops L i = true := List.find?_some hfind
          obtain ⟨pl', hp', rfl⟩ := map_some hp
          unfold takeable at htk
          split at htk
          · rename_i o hi
            obtain ⟨hk0, htk⟩ := Bool.and_eq_true_iff.1 htk
            obtain ⟨hfree, hwt⟩ := Bool.and_eq_true_iff.1 htk
            have hk0 := beq_true hk0
            have hk2 : kindOf o ≠ 2 := by rw [hk0]; decide
            have hbrk : ∀ (L : Array Bool), Closed .any ops L → ∀ (s : Nat) (os : Oper), ops[s]? = some os → kindOf os = 2 → s ∈ Region.ready .any ops L → L.getD i false = true := by
              intro L hcl s os hs hks hrdy
              unfold waitsFor at hwt
              have hm : os ∈ ops.toList := by
                rw [← Array.getElem?_toList] at hs
                exact List.mem_of_getElem? hs
              have := List.all_eq_true.1 hwt os hm
              rw [hks] at this
              have this : waitsOn ops 4 os i = true := this
              obtain ⟨_, oj, hoj, hall⟩ := mem_ready.1 hrdy
              rw [hs] at hoj
              cases hoj
              exact waitsOn_done hcl 4 os this hall
            unfold mdrawL at h
            rw [hi] at h
            dsimp only at h
            have nb : ¬ Broke P ops L → ¬ Broke P ops (L.setIfInBounds i true) := fun hb k => hb (broke_set hi hk2 k)
            rcases mgd_sound h with ⟨h1, hw⟩ | ⟨h1, hw⟩
            · obtain ⟨st1, h2, s2⟩ := mquiet_sound (show mquiet P o (mdrawL P C Cc ops pl' K) st = some r from h1)
              obtain ⟨st', h3, s3⟩ := ih _ _ _ _ _ _ _ hp' h2
              refine ⟨st', h3, fun {X S β a w Q} hcl hr hq hQ hb1 hb2 => ?_⟩
              obtain ⟨v, hv, S1, β1, hr1⟩ := s2 hr
              exact wpG_first hi hk2 (Region.noSelect_spec hsel) hQ hbrk n L a w hcl (Region.free_spec hi hfree) hmem (hb2 rfl) (.inl ⟨hw hr, hv⟩) (Stay.refl w) (s3 (hcl.step hmem) hr1 hq hQ (fun h => by cases h) (fun _ => nb (hb2 rfl)))
            · obtain ⟨st', h3, s3⟩ := ih _ _ _ _ _ _ _ hp' h1
              refine ⟨st', h3, fun {X S β a w Q} hcl hr hq hQ hb1 hb2 => ?_⟩
              exact wpG_first hi hk2 (Region.noSelect_spec hsel) hQ hbrk n L a w hcl (Region.free_spec hi hfree) hmem (hb2 rfl) (.inr ⟨hw hr, rfl⟩) (Stay.refl w) (s3 (hcl.step hmem) (hr.put o.dst .undef) hq hQ (fun h => by cases h) (fun _ => nb (hb2 rfl)))
          · cases htk
      · split at hp
        · rename_i o hi hfn
          -- forced
          have forced : ∀ (br' : Bool) (tag : Nat) (pl' : List PI), mplan ops k n (L.setIfInBounds j true) br' = some pl' → pl = .op j tag :: pl' → (br' = false → kindOf o ≠ 2 ∧ broke = false) → (br' = true → broke = true ∨ kindOf o = 2) → (br' = true → tag = 2) → (br' = false → tag = 1 ∨ tag = 3) →
              ∃ st', K st' = some r ∧ Good P ops (n + 1) L broke st st' := by
            intro br' tag pl' hp' hpl hf ht htag ftag
            subst hpl
            unfold mdrawL at h
            rw [hi] at h
            dsimp only at h
            have hjm : j ∈ Region.ready .any ops L := by rw [hrd]; exact List.mem_singleton.2 rfl
            have hjl := (ready_lt hjm).2
            have bt : br' = true → (broke = true → Broke P ops L) → Broke P ops (L.setIfInBounds j true) := fun hbt hb1 => by
              rcases ht hbt with hb | hk
              · exact (hb1 hb).set
              · exact .inr ⟨j, o, hi, hk, by simp [hjl]⟩
            have bf : br' = false → (broke = false → ¬ Broke P ops L) → ¬ Broke P ops (L.setIfInBounds j true) := fun hbf hb2 k => hb2 (hf hbf).2 (broke_set hi (hf hbf).1 k)
            have next : ∀ {st1 st' : St El}, Good P ops n (L.setIfInBounds j true) br' st1 st' → ∀ {X : Ctx El} {S β a w w0} {Q : Exit → Act → World → Prop}, Closed .any ops L → Rel X st1 S β a w → After P X st' Q → (∀ c a w, ¬ Q (.panic c) a w) → (broke = true → Broke P ops L) → (broke = false → ¬ Broke P ops L) → (Stay w0 w ∨ br' = true) →
                SB P ops w0 (L.setIfInBounds j true) w ∧ wpG P .any ops Q (SB P ops w0) n (L.setIfInBounds j true) a w := by
              intro st1 st' s3 X S β a w w0 Q hcl hr hq hQ hb1 hb2 hst
              have hg := s3 (hcl.step hjm) hr hq hQ (fun hbt => bt hbt hb1) (fun hbf => bf hbf hb2)
              rcases hst with hst | hbt
              · exact ⟨.inr hst, wpG_mono n _ _ _ (fun L' w' he k => k.imp id (fun k => hst.trans k)) hg⟩
              · refine ⟨.inl (bt hbt hb1), wpG_mono n _ _ _ (fun L' w' he k => .inl ?_) hg⟩
                exact (bt hbt hb1).ext he
            rcases mgd_sound h with ⟨h1, hw⟩ | ⟨h1, hw⟩
            · cases br' with
              | true =>
                have e := htag rfl
                subst e
                obtain ⟨st1, h2, s2⟩ := mop_sound hC (show mop P C o (mdrawL P C Cc ops pl' K) st = some r from h1)
                obtain ⟨st', h3, s3⟩ := ih _ _ _ _ _ _ _ hp' h2
                refine ⟨st', h3, fun {X S β a w Q} hcl hr hq hQ hb1 hb2 => wpG_all hrd (wpOp_yes hi (hw hr) ?_)⟩
                exact Oper.wp_mono (fun a' w' ⟨S1, β1, hr1⟩ => next s3 hcl hr1 hq hQ hb1 hb2 (.inr rfl)) (s2 hr Q)
              | false =>
                rcases ftag rfl with e | e
                · subst e
                  obtain ⟨st1, h2, s2⟩ := mcalm_sound hCc (show mcalm P Cc o (mdrawL P C Cc ops pl' K) st = some r from h1)
                  obtain ⟨st', h3, s3⟩ := ih _ _ _ _ _ _ _ hp' h2
                  refine ⟨st', h3, fun {X S β a w Q} hcl hr hq hQ hb1 hb2 => wpG_all hrd (wpOp_yes hi (hw hr) ?_)⟩
                  exact Oper.wp_mono (fun a' w' ⟨⟨S1, β1, hr1⟩, hst⟩ => next s3 hcl hr1 hq hQ hb1 hb2 (.inl hst)) (s2 hr Q)
                · subst e
                  obtain ⟨st1, h2, s2⟩ := mquiet_sound (show mquiet P o (mdrawL P C Cc ops pl' K) st = some r from h1)
                  obtain ⟨st', h3, s3⟩ := ih _ _ _ _ _ _ _ hp' h2
                  refine ⟨st', h3, fun {X S β a w Q} hcl hr hq hQ hb1 hb2 => wpG_all hrd (wpOp_yes hi (hw hr) ?_)⟩
                  obtain ⟨v, hv, S1, β1, hr1⟩ := s2 hr
                  unfold Oper.wp
                  rw [hv w (Stay.refl w)]
                  exact next s3 hcl hr1 hq hQ hb1 hb2 (.inl (Stay.refl w))
            · obtain ⟨st', h3, s3⟩ := ih _ _ _ _ _ _ _ hp' h1
              refine ⟨st', h3, fun {X S β a w Q} hcl hr hq hQ hb1 hb2 => wpG_all hrd (wpOp_no hi (hw hr) ?_)⟩
              exact next s3 hcl (hr.put o.dst .undef) hq hQ hb1 hb2 (.inl (Stay.refl w))
          split at hp
          · rename_i hk
            obtain ⟨pl', hp', e⟩ := map_some hp
            exact forced false 3 pl' hp' e (fun _ => ⟨by rw [hk]; decide, rfl⟩) (fun h => by cases h) (fun h => by cases h) (fun _ => .inr rfl)
          · rename_i hk
            obtain ⟨pl', hp', e⟩ := map_some hp
            exact forced false 1 pl' hp' e (fun _ => ⟨by rw [hk]; decide, rfl⟩) (fun h => by cases h) (fun h => by cases h) (fun _ => .inl rfl)
          · rename_i hk
            obtain ⟨pl', hp', e⟩ := map_some hp
            exact forced true 2 pl' hp' e (fun h => by cases h) (fun _ => .inr hk) (fun _ => rfl) (fun h => by cases h)
          · obtain ⟨pl', hp', e⟩ := map_some hp
            exact forced true 2 pl' hp' e (fun h => by cases h) (fun _ => .inl rfl) (fun _ => rfl) (fun h => by cases h)
          · cases hp
        · split at hp
          · rename_i i hfind
            have hmem : i ∈ Region.ready .any ops L := by rw [hrd]; exact List.mem_of_find?_eq_some hfind
            have htk : pureTake ops L i = true := List.find?_some hfind
            obtain ⟨pl', hp', rfl⟩ := map_some hp
            unfold pureTake at htk
            split at htk
            · rename_i o hi
              obtain ⟨hk0, hfree⟩ := Bool.and_eq_true_iff.1 htk
              have hk2 : kindOf o ≠ 2 := by
                unfold pureOp at hk0
                unfold kindOf
                split at hk0 <;> simp_all
              unfold mdrawL at h
              rw [hi] at h
              dsimp only at h
              have hSB : ∀ (w0 : World) L w, SB P ops w0 (L.setIfInBounds i true) w → SB P ops w0 L w := fun w0 L w h => h.imp (fun hb => broke_set hi hk2 hb) id
              have nb : ¬ Broke P ops L → ¬ Broke P ops (L.setIfInBounds i true) := fun hb k => hb (broke_set hi hk2 k)
              rcases mgd_sound h with ⟨h1, hw⟩ | ⟨h1, hw⟩
              · obtain ⟨st1, h2, s2⟩ := mpure_sound (show mpure P o (mdrawL P C Cc ops pl' K) st = some r from h1)
                obtain ⟨st', h3, s3⟩ := ih _ _ _ _ _ _ _ hp' h2
                refine ⟨st', h3, fun {X S β a w Q} hcl hr hq hQ hb1 hb2 => ?_⟩
                obtain ⟨v, hv, S1, β1, hr1⟩ := s2 hr
                exact wpG_pure hi (Region.noSelect_spec hsel) hQ (hSB w) n L a w (Region.free_spec hi hfree) hmem (.inl ⟨hw hr, fun w' _ => hv w'⟩) (.inr (Stay.refl w)) (s3 (hcl.step hmem) hr1 hq hQ (fun hb => (hb1 hb).set) (fun hb => nb (hb2 hb)))
              · obtain ⟨st', h3, s3⟩ := ih _ _ _ _ _ _ _ hp' h1
                refine ⟨st', h3, fun {X S β a w Q} hcl hr hq hQ hb1 hb2 => ?_⟩
                exact wpG_pure hi (Region.noSelect_spec hsel) hQ (hSB w) n L a w (Region.free_spec hi hfree) hmem (.inr ⟨hw hr, rfl⟩) (.inr (Stay.refl w)) (s3 (hcl.step hmem) (hr.put o.dst .undef) hq hQ (fun hb => (hb1 hb).set) (fun hb => nb (hb2 hb)))
            · cases htk
          · split at hp
            · rename_i cs F Le hmg
              obtain ⟨hble, hp⟩ := cond_some hp
              have hble := Nat.le_of_ble_eq_true hble
              obtain ⟨pl', hp', rfl⟩ := map_some hp
              obtain ⟨hst, hok⟩ := mgroup_spec hmg
              obtain ⟨g1, g2, g3, g4⟩ := okStat_spec hst
              unfold groupPlan at h
              rw [List.append_assoc, List.append_assoc] at h
              obtain ⟨h1, hlen⟩ := deads_run g1 h
              obtain ⟨stm, h2, hrun⟩ := chain_run hC hCc g1 g3 h1
              obtain ⟨hz, ste, h3, hin⟩ := floats_run g1 g4 h2
              obtain ⟨st', h4, hgood⟩ := ih _ _ _ _ _ _ _ hp' h3
              refine ⟨st', h4, fun {X S β a w Q} hcl hr hq hQ hb1 hb2 => ?_⟩
              have e : n + 1 = (cs.length + F.length) + (n + 1 - (cs.length + F.length)) := by omega
              show wpG P .any ops Q (SB P ops w) (n + 1) L a w
              rw [e]
              refine group_wp (X := X) (calm := !broke) (stm := stm) (Lend := Le) (F0 := F) (w0 := w) g1 g2 hz ?_ (cs.length + F.length) L cs F (deads ops F st) S β a w (fun _ => 0) hcl hok hrun (fun f hf => hf) (fun f hf => ⟨deads_dead ops F st f hf (hlen f hf), by rw [deads_len]; exact hlen f hf⟩) (hr.deads F) ⟨fun f hf => absurd hf.1 hf.2, fun f g hf => absurd hf.1 hf.2⟩ (fun hc => hb1 (by simpa using hc)) (fun hc => ⟨hb2 (by simpa using hc), Stay.refl w⟩)
              intro S1 β1 a1 w1 ρ k0 k1 k2 k3 k4
              obtain ⟨β2, k5⟩ := hin k1 k2
              have hg := hgood k0 k5 hq hQ (fun hb => k3 (by simp [hb])) (fun hb => (k4 (by simp [hb])).1)
              refine wpG_mono _ _ _ _ (fun L' w' he k => ?_) hg
              cases hbr : broke with
              | true =>
                exact .inl ((k3 (by simp [hbr])).ext he)
              | false => exact k.imp id (fun k => (k4 (by simp [hbr])).2.trans k)
            · split at hp
              · rename_i cs Fe hmg
                obtain ⟨hble, hp⟩ := cond_some hp
                have hble := Nat.le_of_ble_eq_true hble
                obtain ⟨pl', hp', rfl⟩ := map_some hp
                obtain ⟨hLs, hok, hstat, hnonempty⟩ := mgroup3_spec hmg
                obtain ⟨hG, hnd, hdj, hparts⟩ := okG3_ok hLs hok
                unfold group3Plan at h
                rw [List.append_assoc] at h
                obtain ⟨h1, hlen⟩ := deads_run' (fun f hf => by
                  rcases hG.kinds f hf with hb | hc
                  · obtain ⟨o, _, _, ho, _, hd, hg⟩ := isB_spec hb
                    exact ⟨o, ho, hd, hg⟩
                  · obtain ⟨o, _, _, _, ho, _, hd, hg⟩ := isC_spec hc
                    exact ⟨o, ho, hd, hg⟩) h
                obtain ⟨E, stm, ste, h2, hrun, hmat, hruns⟩ := chain_run3 hC hCc hG.kinds hG.dsts (okStat3_spec hstat) (fun p hp => hp) (fun f hf => hf) hG.nodup (fun f hf => ⟨deads_dead ops _ st f hf (hlen f hf), by rw [deads_len]; exact hlen f hf⟩) h1
                obtain ⟨st', h4, hgood⟩ := ih _ _ _ _ _ _ _ hp' h2
                refine ⟨st', h4, fun {X S β a w Q} hcl hr hq hQ hb1 hb2 => ?_⟩
                have e : n + 1 = (cs.length + (cs.flatMap (·.2.2) ++ Fe).length) + (n + 1 - (cs.length + (cs.flatMap (·.2.2) ++ Fe).length)) := by omega
                show wpG P .any ops Q (SB P ops w) (n + 1) L a w
                rw [e]
                refine group3_wp (X := X) (calm := !broke) (stm := stm) (w0 := w) (E := E) hG hLs rfl ?_ ?_ _ L cs (cs.flatMap (·.2.2) ++ Fe) (cs.flatMap (·.2.2) ++ Fe) (deads ops (cs.flatMap (·.2.2) ++ Fe) st) S β a w (fun _ => 0) rfl hcl ⟨rfl, fun j => ⟨fun hj => ⟨hj, fun hg => hg⟩, fun hj => hj.1⟩⟩ ⟨[], rfl, rfl⟩ hnd hdj hG.nodup hrun (fun f hf => hf) (fun f hf => ⟨deads_dead ops _ st f hf (hlen f hf), by rw [deads_len]; exact hlen f hf⟩) (hr.deads _) ⟨fun f hf => absurd hf.1 hf.2, fun f g hf => absurd hf.1 hf.2⟩ (fun hc => hb1 (by simpa using hc)) (fun hc => ⟨hb2 (by simpa using hc), Stay.refl w⟩)
                · intro f hf hc o a ho hpa
                  obtain ⟨o', t', n', ps', ho', hop', _⟩ := isC_spec hc
                  have hseg : ∃ s ∈ cs.map (·.2.2) ++ [Fe], f ∈ s := by
                    rcases List.mem_append.1 hf with h | h
                    · obtain ⟨p, p1, p2⟩ := List.mem_flatMap.1 h
                      exact ⟨_, List.mem_append_left _ (List.mem_map.2 ⟨p, p1, rfl⟩), p2⟩
                    · exact ⟨Fe, by simp, h⟩
                  obtain ⟨s, hs, hfs⟩ := hseg
                  refine hruns s hs f hfs hc o a ho fun t n ps hop x hx => ?_
                  rcases hpa t n ps hop x hx with h1 | ⟨g, g1, g2, g3, g4⟩
                  · exact .inl h1
                  · rcases hparts f hf t n ps o ho hop x hx with ⟨v, hv⟩ | ⟨s2, hs2, hfs2, g', hgs, k2, k3⟩
                    · exact .inl ⟨v, hv⟩
                    · have e1 : dstF ops g = dstF ops g' := by
                        rw [g3] at k3
                        injection k3
                      have hg' : g' ∈ cs.flatMap (·.2.2) ++ Fe := by
                        rcases List.mem_append.1 hs2 with h | h
                        · obtain ⟨p, p1, rfl⟩ := List.mem_map.1 h
                          exact List.mem_append_left _ (List.mem_flatMap.2 ⟨p, p1, hgs⟩)
                        · rw [List.mem_singleton] at h
                          subst h
                          exact List.mem_append_right _ hgs
                      have e2 := hG.dsts g g1 g' hg' e1
                      subst e2
                      refine .inr ⟨g, ?_, g2, g3, g4⟩
                      exact seg_same hG.nodup hs hfs hs2 hfs2 ▸ hgs
                · intro L' S1 β1 a1 w1 ρ k0 kat k1 k2 k3 k4
                  obtain ⟨β2, k5, _⟩ := mat_in hmat k1 k2 (fun f hf => hf) (List.nodup_append.1 hG.nodup).2.1
                  have eL : L' = group3Set cs Fe L := at_set hG.undone kat
                  subst eL
                  have hg := hgood k0 k5 hq hQ (fun hb => k3 (by simp [hb])) (fun hb => (k4 (by simp [hb])).1)
                  refine wpG_mono _ _ _ _ (fun L' w' he k => ?_) hg
                  cases hbr : broke with
                  | true => exact .inl ((k3 (by simp [hbr])).ext he)
                  | false => exact k.imp id (fun k => (k4 (by simp [hbr])).2.trans k)
              · cases hp
end Go.M
namespace Go.M
set_option linter.unusedVariables false
set_option linter.unusedSectionVars false
open Uni
variable {El : Nat → Type} [Uni El] [UniOK El] {R : Type}
def mdraw (P : Program) (C Cc : St El → Nat → List (D El) → (St El → D El → Option R) → Option R) (id : Nat) (l : List Oper) (K : St El → Option R) (st : St El) : Option R :=
  cond (Region.noSelect l.toArray)
    (match mplan l.toArray (l.length + 1) l.length (Array.replicate l.length false) (freeB P l.toArray) with
    | some pl => mdrawL P C Cc l.toArray pl K st
    | none => none) none
theorem mdraw_sound {P : Program} {C Cc : St El → Nat → List (D El) → (St El → D El → Option R) → Option R} (hm : P.follows .mixedOrders = true) (hC : CallOK P C) (hCc : CalmOK P Cc) {id : Nat} {ops : Array Oper} {K : St El → Option R} {st : St El} {r : R} (h : mdraw P C Cc id ops.toList K st = some r) : ∃ st', K st' = some r ∧
    ∀ {X : Ctx El} {S β a w} {Q : Exit → Act → World → Prop}, Rel X st S β a w → After P X st' Q → (∀ c a w, Q (.panic c) a w ↔ False) → (Code.region id ops true).wp P Q a w := by
  unfold mdraw at h
  obtain ⟨hs, h1⟩ := cond_some h
  split at h1
  · rename_i pl hpl
    rw [Array.toArray_toList] at hs hpl h1
    obtain ⟨st', h2, s2⟩ := mdrawL_sound hC hCc hs _ _ _ _ _ _ _ _ hpl h1
    refine ⟨st', h2, fun {X S β a w Q} hr hq hQ => wp_region_any hm ?_⟩
    have hr' : Rel X st S β a { w with drawn := w.drawn + 1 } := hr.world rfl rfl rfl rfl
    have := s2 (by
      intro s os _ h3
      rw [Array.getD_eq_getD_getElem?, Array.getElem?_replicate] at h3
      split at h3 <;> cases h3) hr' hq (fun c a w k => (hQ c a w).1 k) (fun h => .inl h) (fun hb => by
      rintro (h | ⟨s, o, _, _, h3⟩)
      · rw [hb] at h; cases h
      rw [Array.getD_eq_getD_getElem?, Array.getElem?_replicate] at h3
      split at h3 <;> cases h3)
    exact wpG_any _ _ _ _ this
  · cases h1
def envOf (P : Program) (tab : Tab El) (R : Type) (J : Nat → Bool) (W : Nat → St El → Option (St El)) (X : Nat → MX → St El → Option (St El)) : Env El R :=
  { P := P, C := mcall tab, W := W, X := X, draw := mdraw P (mcall tab) (mcalmCall tab), J := J }
theorem envOf_ok {P : Program} (hm : P.follows .mixedOrders = true) {tab : Tab El} (ht : TabOK P tab) {J : Nat → Bool} {W : Nat → St El → Option (St El)} {X : Nat → MX → St El → Option (St El)} {q : Nat} (hw : ∀ b, WOK q (W b)) (hx : ∀ b e, WOK q (X b e)) : EnvOK q (envOf P tab R J W X) :=
  ⟨mcall_ok ht, hw, hx, fun h => mdraw_sound hm (mcall_ok ht) (mcalmCall_ok ht) h⟩
end Go.M
namespace Go.M
set_option linter.unusedVariables false
set_option linter.unusedSectionVars false
variable {El : Nat → Type} [Uni El]
def rdInt {El : Nat → Type} (k : IntKind) : D El → Option Int
  | .int k' n => if k' = k then some n else none
  | _ => none
def rdBool {El : Nat → Type} : D El → Option Bool
  | .bool b => some b
  | _ => none
def rdStr {El : Nat → Type} : D El → Option ByteArray
  | .str s => some s
  | _ => none
def rdSl {El : Nat → Type} (t : Nat) : D El → Option (List (El t))
  | .frz t' l => if h : t' = t then some (h ▸ l) else none
  | .nilsl => some []
  | _ => none
def Told1 (d d' : D El) : Prop := ∀ w S β v, VRel w S β v d → VRel w S β v d'
theorem rdInt_told {k : IntKind} {d : D El} {x : Int} (h : rdInt k d = some x) : Told1 d (.int k x) := by
  unfold rdInt at h
  split at h
  · split at h
    · rename_i e; subst e; cases h; exact fun _ _ _ _ k => k
    · cases h
  · cases h
theorem rdBool_told {d : D El} {x : Bool} (h : rdBool d = some x) : Told1 d (.bool x) := by
  unfold rdBool at h
  split at h
  · cases h; exact fun _ _ _ _ k => k
  · cases h
theorem rdStr_told {d : D El} {x : ByteArray} (h : rdStr d = some x) : Told1 d (.str x) := by
  unfold rdStr at h
  split at h
  · cases h; exact fun _ _ _ _ k => k
  · cases h
theorem rdSl_told {t : Nat} {d : D El} {x : List (El t)} (h : rdSl t d = some x) : Told1 d (.frz t x) := by
  unfold rdSl at h
  split at h
  · split at h
    · rename_i e; subst e; cases h; exact fun _ _ _ _ k => k
    · cases h
  · cases h; exact fun _ _ _ _ k => by cases k; exact .frz0 _ _ _
  · cases h
def ToldL : List (D El) → List (D El) → Prop
  | [], [] => True
  | d :: r, d' :: r' => Told1 d d' ∧ ToldL r r'
  | _, _ => False
theorem ToldL.len : ∀ {l l' : List (D El)}, ToldL l l' → l.length = l'.length
  | [], [], _ => rfl
  | d :: r, d' :: r', h => by simp [ToldL.len h.2]
  | [], _ :: _, h => h.elim
  | _ :: _, [], h => h.elim
theorem ToldL.get : ∀ {l l' : List (D El)}, ToldL l l' → ∀ (j : Nat) d d', l[j]? = some d → l'[j]? = some d' → Told1 d d'
  | [], [], _, j, d, d', h, _ => by simp at h
  | x :: r, x' :: r', h, 0, d, d', h1, h2 => by simp at h1 h2; subst h1; subst h2; exact h.1
  | x :: r, x' :: r', h, j + 1, d, d', h1, h2 => ToldL.get h.2 j d d' (by simpa using h1) (by simpa using h2)
  | [], _ :: _, h, _, _, _, _, _ => h.elim
  | _ :: _, [], h, _, _, _, _, _ => h.elim
theorem bind_some'' {α β : Type} {x : Option α} {f : α → Option β} {y : β} (h : x.bind f = some y) : ∃ z, x = some z ∧ f z = some y := by
  cases x with
  | none => cases h
  | some z => exact ⟨z, rfl, h⟩
end Go.M
namespace Go.M
set_option linter.unusedVariables false
set_option linter.unusedSectionVars false
open Uni Go.RowKit
variable {El : Nat → Type} [Uni El] [UniOK El]
theorem FnOK.walk {P : Program} {f t : Nat} {A T : Type} {decA : List (D El) → List (Nat × MObj El) → Nat → Option A} {F : A → Option T} {outOf : T → Out El} (h : FnOK P f 0 (specOf decA F outOf))
    {l : List (El t)} {a : A} {y : T} (hd : decA [.frz t l] [] 0 = some a) (hF : F a = some y) {b : Bool} (ho : (outOf y).res = .bool b) {w : World} {S : Nat → Prop} {v : Value} (hv : VRel w S (fun _ => none) v (.frz t l : D El)) (hS : ∀ r, S r → r < w.heap.size) (hL : LaidAt El w S) :
    Calls P f #[v] w fun e w' => e = .returned (.bool b) ∧ Below w.heap.size w w' := by
  obtain ⟨out, hk, s⟩ := h T [.frz t l] [] 0 (fun o => some y) y (by unfold specOf; rw [hd]; simp [hF])
  have hk2 : out = outOf y ∨ True := .inr trivial
  have h2 := h (Out El) [.frz t l] [] 0 some (outOf y) (by unfold specOf; rw [hd]; simp [hF])
  obtain ⟨out2, e2, s2⟩ := h2
  cases e2
  refine (s2 w S (fun _ => none) #[v] ?_ ?_ (fun i hi => by omega)).mono ?_
  · exact PtL.cons hv ⟨rfl, fun i v d p q => by simp at q⟩
  · exact ⟨fun o => trivial, fun o1 o2 v1 v2 r l1 => (by cases l1), fun o v r l1 => (by cases l1), fun o _ => rfl, hS, hL⟩
  · rintro e w' ⟨v', S', γ, rfl, g1, g2, g3, g4, g5, g6, g7⟩
    rw [ho] at g1
    cases g1
    refine ⟨rfl, g3.os, g3.tape, g3.output, g3.size, fun k hk => g3.block k hk ?_⟩
    rintro ⟨o, l1, _⟩
    cases l1
theorem row_rel {k : IntKind} {t : Nat} {w : World} {a : Option Addr} {len cap : Nat} {zs : List Int} {l : List (El t)} (hwid : width El t = 1) (hl : l.length = len)
    (henc : ∀ (i : Nat) (x : El t), l[i]? = some x → ∃ n, zs[i]? = some n ∧ enc t x = [.int k n])
    (h : (a = none ∧ len = 0 ∧ cap = 0 ∧ zs = []) ∨ ∃ x, a = some x ∧ len ≤ cap ∧ zs.length = cap ∧ ∀ i, i < zs.length → w.cell? (x.add i) = some (.int k (zs.getD i 0))) :
    VRel w (fun r => r < w.heap.size) (fun _ => none) (.slice a len cap) (.frz t l : D El) := by
  rcases l with _ | ⟨x0, l'⟩
  · simp at hl
    subst hl
    exact .frz0 _ _ _
  · rcases h with ⟨_, h0, _, _⟩ | ⟨x, rfl, hlc, hz, hcell⟩
    · simp [h0] at hl
    · have h0 := hcell 0 (by rw [hz]; simp at hl; omega)
      have hx : ∃ C ty fr, w.heap[x.block]? = some (.cells C ty fr) ∧ x.spot = none := by
        unfold World.cell? at h0
        have eb : (x.add 0).block = x.block := rfl
        rw [eb] at h0
        split at h0
        · rename_i C ty fr hC
          split at h0
          · cases h0
          · rename_i hs
            refine ⟨C, ty, fr, hC, ?_⟩
            have es : (x.add 0).spot = x.spot := rfl
            rw [es] at hs
            cases hsp : x.spot with
            | none => rfl
            | some _ => rw [hsp] at hs; simp at hs
        · cases h0
      obtain ⟨C, ty, fr, hC, hsp⟩ := hx
      obtain ⟨r, o, spt⟩ := x
      cases hsp
      subst hl
      refine .frz r o cap t (x0 :: l') C ty fr (fun i _ => .int k (zs.getD i 0)) ((Array.getElem?_eq_some_iff.1 hC).1) hC ?_ ?_ hlc
      · intro i y j d hi hj
        obtain ⟨n, hn, he⟩ := henc i y hi
        rw [he] at hj
        have hlt : i < zs.length := (List.getElem?_eq_some_iff.1 hn).1
        have hc := hcell i hlt
        have hj0 : j = 0 := by
          have := (List.getElem?_eq_some_iff.1 hj).1
          simpa using this
        subst hj0
        rw [hwid]
        have ea : (Addr.mk r o none).add i = ⟨r, o + i, none⟩ := by rw [add_off]
        rw [ea, cell_of_row w r _ C ty fr hC] at hc
        simpa using hc
      · intro i y j d hi hj
        obtain ⟨n, hn, he⟩ := henc i y hi
        rw [he] at hj
        have hj0 : j = 0 := by
          have := (List.getElem?_eq_some_iff.1 hj).1
          simpa using this
        subst hj0
        simp at hj
        subst hj
        have : zs.getD i 0 = n := by rw [List.getD_eq_getElem?_getD, hn]; rfl
        rw [this]
        exact .int k n
end Go.M
namespace Go.M
set_option linter.unusedVariables false
set_option linter.unusedSectionVars false
open Uni Go.RowKit
variable {El : Nat → Type} [Uni El] [UniOK El]
theorem FnOK.plain {P : Program} {f : Nat} {A T : Type} {decA : List (D El) → List (Nat × MObj El) → Nat → Option A} {F : A → Option T} {outOf : T → Out El} (h : FnOK P f 0 (specOf decA F outOf))
    {ds : List (D El)} {a : A} {y : T} (hd : decA ds [] 0 = some a) (hF : F a = some y) {vs : Array Value} {v : Value} (hds : ∀ (w : World) S β, PtL w S β vs.toList ds) (hres : ∀ (w : World) S β v', VRel w S β v' (outOf y).res → v' = v) {w : World} (hL : LaidAt El w (fun r => r < w.heap.size)) :
    Calls P f vs w fun e w' => e = .returned v ∧ Below w.heap.size w w' := by
  have h2 := h (Out El) ds [] 0 some (outOf y) (by unfold specOf; rw [hd]; simp [hF])
  obtain ⟨out2, e2, s2⟩ := h2
  cases e2
  refine (s2 w (fun r => r < w.heap.size) (fun _ => none) vs (hds _ _ _) ?_ (fun i hi => by omega)).mono ?_
  · exact ⟨fun o => trivial, fun o1 o2 v1 v2 r l1 => (by cases l1), fun o v r l1 => (by cases l1), fun o _ => rfl, fun r h => h, hL⟩
  · rintro e w' ⟨v', S', γ, rfl, g1, g2, g3, g4, g5, g6, g7⟩
    rw [hres _ _ _ _ g1]
    refine ⟨rfl, g3.os, g3.tape, g3.output, g3.size, fun k hk => g3.block k hk ?_⟩
    rintro ⟨o, l1, _⟩
    cases l1
theorem LaidAt.below {w w' : World} (h : LaidAt El w (fun r => r < w.heap.size)) (hb : Below w.heap.size w w') : LaidAt El w' (fun r => r < w'.heap.size) :=
  ⟨Uni.dep w w' (fun r hr => hb.block r (h.stays r hr).2) h.holds, fun r hr => ⟨Nat.lt_of_lt_of_le (h.stays r hr).2 hb.size, Nat.lt_of_lt_of_le (h.stays r hr).2 hb.size⟩⟩
end Go.M
namespace Go.M
set_option linter.unusedVariables false
set_option linter.unusedSectionVars false
open Uni
variable {El : Nat → Type} [Uni El]
def decS {A : Type} (s : SS) (u : LT2 El s.tmps × LTO El s.objs → A) : List (D El) → List (Nat × MObj El) → Nat → Option A := fun ds objs next => viewS s u ⟨ds, objs, next⟩
theorem decS_eq {A : Type} {s : SS} {u : LT2 El s.tmps × LTO El s.objs → A} {stc : A → St El} (hs : ∀ x, wrS s x = stc (u x)) {ds : List (D El)} {objs : List (Nat × MObj El)} {next : Nat} {a : A} (h : decS s u ds objs next = some a) :
    ds = (stc a).tmps ∧ objs = (stc a).objs ∧ next = (stc a).next := by
  have e := viewS_eq hs _ _ h
  rw [← e]
  exact ⟨rfl, rfl, rfl⟩
end Go.M
