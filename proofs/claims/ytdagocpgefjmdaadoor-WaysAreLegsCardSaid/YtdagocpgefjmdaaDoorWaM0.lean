/-
  The machine M, part 1: symbolic runs of the given code over data, and that they are what the code does. No condition.
-/
import Derived.OrdersHeld
import Derived.Laws.AppendOwn
import Derived.Laws.MakeOwn
import Derived.Laws.Rows
import Derived.Below
import Derived.Laws.StructEq
import Derived.ChangeKeysEq
import Derived.Laws.Strings
import Derived.Laws.Slices
import Derived.Great.BuildSlice
import Derived.MapKept
import Derived.LoopN
set_option linter.unusedVariables false
set_option linter.unusedSectionVars false
set_option linter.unusedSimpArgs false
namespace Go.M
set_option linter.unusedVariables false
inductive D (El : Nat → Type) : Type where
  | int (k : IntKind) (n : Int)
  | bool (b : Bool)
  | str (s : ByteArray)
  | agg (l : List (D El))
  | tup (l : List (D El))
  | nilsl
  | frz (t : Nat) (l : List (El t))
  | all (o k : Nat)
  | sl (o k off len : Nat)
  | ptr (o k i c : Nat)
  | fptr (t : Nat) (l : List (El t)) (i c : Nat)
  | nilptr
  | mapr (o : Nat)
  | fn (f : Nat) (caps : List (D El))
  | nilfn
  | niliface
  | nilmap
  | own (t : Nat) (l : List (El t))
  | boxv (l : List (D El))
  | dead
def D.cell {El : Nat → Type} : D El → Bool
  | .agg _ | .tup _ | .own _ _ | .boxv _ | .dead => false
  | _ => true
def D.pure {El : Nat → Type} : D El → Bool
  | .int _ _ | .bool _ | .str _ | .nilsl | .frz _ _ | .nilptr | .nilfn | .niliface | .nilmap => true
  | _ => false
class Uni (El : Nat → Type) where
  enc : (t : Nat) → El t → List (D El)
  width : Nat → Nat
  enc_len : ∀ t x, (enc t x).length = width t
  enc_cell : ∀ t x, ∀ d ∈ enc t x, d.cell = true
  enc_pure : ∀ t x, ∀ d ∈ enc t x, d.pure = true
  dec : (t : Nat) → List (D El) → Option (El t)
  bound : Nat
  holds : World → Prop
  dep : ∀ w w', (∀ r, r < bound → w'.heap[r]? = w.heap[r]?) → holds w → holds w'
open Uni
variable {El : Nat → Type} [Uni El]
abbrev Beta := Nat → Option Value
def baseOf : Value → Option Nat
  | .pointer (some ⟨r, 0, none⟩) => some r
  | .slice (some ⟨r, 0, none⟩) _ _ => some r
  | _ => none
inductive VRel (w : World) (S : Nat → Prop) (β : Beta) : Value → D El → Prop where
  | int (k n) : VRel w S β (.int k n) (.int k n)
  | bool (b) : VRel w S β (.bool b) (.bool b)
  | str (s) : VRel w S β (.string s) (.str s)
  | agg (vs : Array Value) (ds) : vs.size = ds.length → (∀ (i : Nat) v d, vs[i]? = some v → ds[i]? = some d → VRel w S β v d) → (∀ d ∈ ds, d.cell = true) → VRel w S β (.agg vs) (.agg ds)
  | tup (vs : Array Value) (ds) : vs.size = ds.length → (∀ (i : Nat) v d, vs[i]? = some v → ds[i]? = some d → VRel w S β v d) → VRel w S β (.tuple vs) (.tup ds)
  | nilsl : VRel w S β (.slice none 0 0) .nilsl
  | frz0 (a c t) : VRel w S β (.slice a 0 c) (.frz t [])
  | frz (r o cap t l C ty fr) (vs : Nat → Nat → Value) : S r → w.heap[r]? = some (.cells C ty fr) →
      (∀ (i : Nat) x (j : Nat) d, l[i]? = some x → (enc t x)[j]? = some d → C[o + i * width El t + j]? = some (vs i j)) →
      (∀ (i : Nat) x (j : Nat) d, l[i]? = some x → (enc t x)[j]? = some d → VRel w S β (vs i j) d) → l.length ≤ cap → VRel w S β (.slice (some ⟨r, o, none⟩) l.length cap) (.frz t l)
  | sl (o k off len p n cap p' c') : β o = some (.slice p n cap) → off + len ≤ n → len ≤ c' → (off = 0 → p' = p ∧ c' = cap) → (off ≠ 0 → len ≠ 0 → ∃ r, p = some ⟨r, 0, none⟩ ∧ p' = some ⟨r, off * k, none⟩) → VRel w S β (.slice p' len c') (.sl o k off len)
  | all (o k a n c) : β o = some (.slice a n c) → VRel w S β (.slice a n c) (.all o k)
  | ptr (o k i c r base) : β o = some base → baseOf base = some r → VRel w S β (.pointer (some ⟨r, i * k + c, none⟩)) (.ptr o k i c)
  | fptr (r o t l i c C ty fr) (vs : Nat → Nat → Value) : S r → w.heap[r]? = some (.cells C ty fr) →
      (∀ (i : Nat) x (j : Nat) d, l[i]? = some x → (enc t x)[j]? = some d → C[o + i * width El t + j]? = some (vs i j)) →
      (∀ (i : Nat) x (j : Nat) d, l[i]? = some x → (enc t x)[j]? = some d → VRel w S β (vs i j) d) → VRel w S β (.pointer (some ⟨r, o + i * width El t + c, none⟩)) (.fptr t l i c)
  | nilptr : VRel w S β (.pointer none) .nilptr
  | mapr (o r) : β o = some (.map (some r)) → VRel w S β (.map (some r)) (.mapr o)
  | fn (f caps) (vs : Array Value) : vs.size = caps.length → (∀ (i : Nat) v d, vs[i]? = some v → caps[i]? = some d → VRel w S β v d) → VRel w S β (.func (.func f) #[] vs) (.fn f caps)
  | nilfn : VRel w S β .nilFunc .nilfn
  | niliface : VRel w S β .nilIface .niliface
  | nilmap : VRel w S β (.map none) .nilmap
  | dead (v) : VRel w S β v .dead
theorem VRel.mono {w w' : World} {S S' : Nat → Prop} {β β' : Beta} {v : Value} {d : D El} (h : VRel w S β v d) (hw : ∀ r, S r → w'.heap[r]? = w.heap[r]?) (hS : ∀ r, S r → S' r) (hb : ∀ o x, β o = some x → β' o = some x) : VRel w' S' β' v d := by
  induction h with
  | int k n => exact .int k n
  | bool b => exact .bool b
  | str s => exact .str s
  | agg vs ds h1 h2 h3 ih => exact .agg vs ds h1 (fun i v d a b => ih i v d a b) h3
  | tup vs ds h1 h2 ih => exact .tup vs ds h1 (fun i v d a b => ih i v d a b)
  | nilsl => exact .nilsl
  | frz0 a c t => exact .frz0 a c t
  | frz r o cap t l C ty fr vs h1 h2 h3 h4 h5 ih => exact .frz r o cap t l C ty fr vs (hS r h1) ((hw r h1).trans h2) h3 ih h5
  | sl o k off len p n cap p' c' h1 h0 hc h2 h3 => exact .sl o k off len p n cap p' c' (hb _ _ h1) h0 hc h2 h3
  | all o k a n c h => exact .all o k a n c (hb _ _ h)
  | ptr o k i c r base h h2 => exact .ptr o k i c r base (hb _ _ h) h2
  | fptr r o t l i c C ty fr vs h1 h2 h3 h4 ih => exact .fptr r o t l i c C ty fr vs (hS r h1) ((hw r h1).trans h2) h3 ih
  | nilptr => exact .nilptr
  | mapr o r h => exact .mapr o r (hb _ _ h)
  | fn f caps vs h1 h2 ih => exact .fn f caps vs h1 (fun i v d a b => ih i v d a b)
  | nilfn => exact .nilfn
  | niliface => exact .niliface
  | nilmap => exact .nilmap
  | dead v => exact .dead v
theorem VRel.any {w : World} {S : Nat → Prop} {β γ : Beta} {v : Value} {d : D El} (h : VRel w S β v d) (hp : d.pure = true) : VRel w S γ v d := by
  induction h with
  | int k n => exact .int k n
  | bool b => exact .bool b
  | str s => exact .str s
  | nilsl => exact .nilsl
  | frz0 a c t => exact .frz0 a c t
  | frz r o cap t l C ty fr vs h1 h2 h3 h4 h5 ih => exact .frz r o cap t l C ty fr vs h1 h2 h3 (fun i x j d a b => ih i x j d a b (enc_pure t x d (List.mem_of_getElem? b))) h5
  | nilptr => exact .nilptr
  | nilfn => exact .nilfn
  | niliface => exact .niliface
  | nilmap => exact .nilmap
  | _ => simp [D.pure] at hp
theorem VRel.one {w : World} {S : Nat → Prop} {β : Beta} {v : Value} {d : D El} (h : VRel w S β v d) (hc : d.cell = true) : v.oneCell' = true := by
  cases h <;> first | rfl | (simp [D.cell] at hc)
theorem VRel.undef {w : World} {S : Nat → Prop} {β : Beta} : VRel w S β undef (.tup [] : D El) := .tup _ _ rfl (fun i v d p q => by simp at q)
inductive MObj (El : Nat → Type) where
  | box (ty : Nat) (cells : List (D El))
  | arr (t : Nat) (l : List (El t))
  | ice (t : Nat) (l : List (El t))
  | gone
  | map (kk : Option IntKind) (g : Bool) (e : Nat) (l : List (Value × El e))
structure St (El : Nat → Type) where
  tmps : List (D El)
  objs : List (Nat × MObj El)
  next : Nat
def nth : List (D El) → Nat → D El
  | [], _ => .dead
  | d :: _, 0 => d
  | _ :: r, n + 1 => nth r n
def setNth : List (D El) → Nat → D El → List (D El)
  | [], _, _ => []
  | _ :: r, 0, x => x :: r
  | d :: r, n + 1, x => d :: setNth r n x
def look : List (Nat × MObj El) → Nat → MObj El
  | [], _ => .gone
  | (n, x) :: r, o => cond (Nat.beq n o) x (look r o)
theorem length_setNth (l : List (D El)) (n : Nat) (x : D El) : (setNth l n x).length = l.length := by
  induction l generalizing n with
  | nil => rfl
  | cons d r ih => cases n <;> simp [setNth, ih]
theorem nth_setNth (l : List (D El)) (n : Nat) (x : D El) (i : Nat) : nth (setNth l n x) i = if i = n ∧ n < l.length then x else nth l i := by
  induction l generalizing n i with
  | nil => simp [setNth, nth]
  | cons d r ih =>
    cases n with
    | zero => cases i <;> simp [setNth, nth]
    | succ n => cases i <;> simp [setNth, nth, ih]
theorem look_cons (n : Nat) (x : MObj El) (r : List (Nat × MObj El)) (o : Nat) : look ((n, x) :: r) o = if n = o then x else look r o := by
  show cond (Nat.beq n o) x (look r o) = _
  by_cases h : n = o
  · subst h
    simp
  · have : Nat.beq n o = false := by
      cases hb : Nat.beq n o with
      | false => rfl
      | true => exact absurd (Nat.eq_of_beq_eq_true hb) h
    simp [this, h]
def blkOf : Value → Option Nat
  | .pointer (some a) => some a.block
  | .slice (some a) _ _ => some a.block
  | .map (some r) => some r
  | _ => none
def RowsRel (w : World) (S : Nat → Prop) (β : Beta) (t : Nat) (l : List (El t)) (vs : List Value) : Prop :=
  ∀ (i : Nat) x (j : Nat) d, l[i]? = some x → (enc t x)[j]? = some d → ∃ u, vs[i * width El t + j]? = some u ∧ VRel w S β u d
def keyOK (kk : Option IntKind) (v : Value) : Prop :=
  match kk with
  | none => ∃ s, v = .string s
  | some k => ∃ n, v = .int k n
def MVal (w : World) (S : Nat → Prop) (β : Beta) (g : Bool) (e : Nat) (v : Value) (x : El e) : Prop :=
  match g with
  | true => VRel w S β v (.agg (enc e x))
  | false => ∃ d, enc e x = [d] ∧ VRel w S β v d
theorem MVal.imp {w w' : World} {S S' : Nat → Prop} {β β' : Beta} {g : Bool} {e : Nat} {v : Value} {x : El e} (hv : ∀ v (d : D El), VRel w S β v d → VRel w' S' β' v d) (h : MVal w S β g e v x) : MVal w' S' β' g e v x := by
  cases g with
  | true => exact hv _ _ h
  | false => obtain ⟨d, h1, h2⟩ := h; exact ⟨d, h1, hv _ _ h2⟩
def ORel (w : World) (S : Nat → Prop) (β : Beta) (o : Nat) : MObj El → Prop
  | .box ty cells => ∃ r C, β o = some (.pointer (some ⟨r, 0, none⟩)) ∧ w.heap[r]? = some (.cells C ty (0, 0)) ∧ C.size = cells.length ∧
      ∀ (i : Nat) v d, C[i]? = some v → cells[i]? = some d → VRel w S β v d ∧ d.cell = true
  | .arr t l => ∃ v vs, β o = some v ∧ w.ownsRow 0 t (width El t) v l.length vs ∧ RowsRel w S β t l vs
  | .ice t l => ∃ v vs, β o = some v ∧ w.ownsRow 0 t (width El t) v l.length vs ∧ RowsRel w S β t l vs ∧ ∀ r, blkOf v = some r → S r
  | .gone => True
  | .map kk g e l => ∃ r es clock, β o = some (.map (some r)) ∧ w.heap[r]? = some (.map es clock) ∧ (es.size = l.length ∧ clock = es.size) ∧ ∀ (i : Nat) x y, es[i]? = some x → l[i]? = some y → (x.key = y.1 ∧ keyOK kk y.1 ∧ x.born = i) ∧ MVal w S β g e x.val y.2
def MObj.live : MObj El → Bool
  | .gone => false
  | .ice _ _ => false
  | _ => true
class UniOK (El : Nat → Type) [Uni El] : Prop where
  dec_len : ∀ t ds (x : El t), dec t ds = some x → ds.length = width El t
  dec_rel : ∀ t ds (x : El t), dec t ds = some x → ∀ (j : Nat) d d', ds[j]? = some d → (enc t x)[j]? = some d' → ∀ w S β v, VRel w S β v d → VRel w S β v d'
structure LaidAt (El : Nat → Type) [Uni El] (w : World) (S : Nat → Prop) : Prop where
  holds : Uni.holds El w
  stays : ∀ r, r < Uni.bound El → S r ∧ r < w.heap.size
structure Ctx (El : Nat → Type) [Uni El] where
  w0 : World
  B : Nat → Prop
  S0 : Nat → Prop
  q : Nat
  β0 : Beta
  ok : LaidAt El w0 S0 ∧ ∀ r, S0 r → ¬ B r
structure Rel (X : Ctx El) (st : St El) (S : Nat → Prop) (β : Beta) (a : Act) (w : World) : Prop where
  size : a.tmps.size = st.tmps.length
  tmps : ∀ (i : Nat), VRel w S β (a.tmps.getD i undef) (nth st.tmps i)
  defers : a.defers = []
  objs : ∀ (o : Nat), ORel w S β o (look st.objs o)
  inj : ∀ (o1 o2 : Nat) v1 v2 r, (look st.objs o1).live = true → (look st.objs o2).live = true → β o1 = some v1 → β o2 = some v2 → blkOf v1 = some r → blkOf v2 = some r → o1 = o2
  away : ∀ (o : Nat) v r, (look st.objs o).live = true → β o = some v → blkOf v = some r → ¬ S r ∧ (r < X.w0.heap.size → X.B r)
  fresh : ∀ o, st.next ≤ o → β o = none
  inside : ∀ r, S r → r < w.heap.size
  stay : ∀ r, X.S0 r → S r
  os : w.os = X.w0.os
  tape : w.tape = X.w0.tape
  output : w.output = X.w0.output
  grown : X.w0.heap.size ≤ w.heap.size
  frame : ∀ r, r < X.w0.heap.size → ¬ X.B r → w.heap[r]? = X.w0.heap[r]?
  old : ∀ r, S r → r < X.w0.heap.size → X.S0 r ∨ X.B r
  root : ∀ i, i < X.q → ∃ v, X.β0 i = some v ∧ β i = some v
theorem Rel.laid {X : Ctx El} {st : St El} {S : Nat → Prop} {β : Beta} {a : Act} {w : World} (h : Rel X st S β a w) : LaidAt El w S :=
  ⟨Uni.dep X.w0 w (fun r hr => h.frame r (X.ok.1.stays r hr).2 (X.ok.2 r (X.ok.1.stays r hr).1)) X.ok.1.holds,
   fun r hr => ⟨h.stay r (X.ok.1.stays r hr).1, Nat.lt_of_lt_of_le (X.ok.1.stays r hr).2 h.grown⟩⟩
def St.put (st : St El) (dst : Option Nat) (d : D El) : St El :=
  match dst with
  | some i => { st with tmps := setNth st.tmps i d }
  | none => st
theorem Rel.put {X : Ctx El} {st : St El} {S : Nat → Prop} {β : Beta} {a : Act} {w : World} (h : Rel X st S β a w) (dst : Option Nat) {v : Value} {d : D El} (hv : VRel w S β v d) : Rel X (st.put dst d) S β (a.put dst v) w := by
  cases dst with
  | none => exact h
  | some i =>
    refine ⟨?_, ?_, h.defers, h.objs, h.inj, h.away, h.fresh, h.inside, h.stay, h.os, h.tape, h.output, h.grown, h.frame, h.old, h.root⟩
    · simp [St.put, Act.put, length_setNth, h.size]
    · intro j
      simp only [St.put, Act.put, nth_setNth]
      by_cases hj : j = i ∧ i < st.tmps.length
      · rw [if_pos hj]
        obtain ⟨rfl, hl⟩ := hj
        rw [← h.size] at hl
        have e : (a.tmps.setIfInBounds j v).getD j undef = v := by simp [Array.getD, hl]
        rw [e]
        exact hv
      · rw [if_neg hj]
        have e : (a.tmps.setIfInBounds i v).getD j undef = a.tmps.getD j undef := by
          simp only [Array.getD_eq_getD_getElem?, Array.getElem?_setIfInBounds]
          split
          · rename_i hij
            split
            · rename_i hl
              rw [h.size] at hl
              exact absurd ⟨hij.symm, hl⟩ hj
            · rename_i hl
              rw [Array.getElem?_eq_none (by omega)]
          · rfl
        rw [e]
        exact h.tmps j
theorem Rel.world {X : Ctx El} {st : St El} {S : Nat → Prop} {β : Beta} {a : Act} {w w' : World} (h : Rel X st S β a w) (h1 : w'.heap = w.heap) (h2 : w'.os = w.os) (h3 : w'.tape = w.tape) (h4 : w'.output = w.output) : Rel X st S β a w' := by
  have hv : ∀ v (d : D El), VRel w S β v d → VRel w' S β v d := fun v d h => h.mono (fun r _ => by rw [h1]) (fun _ h => h) (fun _ _ h => h)
  refine ⟨h.size, fun i => hv _ _ (h.tmps i), h.defers, ?_, h.inj, h.away, h.fresh, by rw [h1]; exact h.inside, h.stay, by rw [h2]; exact h.os, by rw [h3]; exact h.tape, by rw [h4]; exact h.output, by rw [h1]; exact h.grown, by rw [h1]; exact h.frame, h.old, h.root⟩
  intro o
  have ho := h.objs o
  revert ho
  cases look st.objs o with
  | box ty cells =>
    rintro ⟨r, C, a1, a2, a3, a4⟩
    exact ⟨r, C, a1, by rw [h1]; exact a2, a3, fun i v d x y => ⟨hv _ _ (a4 i v d x y).1, (a4 i v d x y).2⟩⟩
  | arr t l =>
    rintro ⟨v, vs, a1, a2, a3⟩
    refine ⟨v, vs, a1, ⟨a2.1, ?_⟩, fun i x j d p q => ?_⟩
    · rw [h1]
      exact a2.2
    · obtain ⟨u, k1, k2⟩ := a3 i x j d p q
      exact ⟨u, k1, hv _ _ k2⟩
  | ice t l =>
    rintro ⟨v, vs, a1, a2, a3, a4⟩
    refine ⟨v, vs, a1, ⟨a2.1, ?_⟩, fun i x j d p q => ?_, a4⟩
    · rw [h1]
      exact a2.2
    · obtain ⟨u, k1, k2⟩ := a3 i x j d p q
      exact ⟨u, k1, hv _ _ k2⟩
  | gone => exact fun _ => trivial
  | map kk g e l =>
    rintro ⟨r, es, ck, a1, a2, a3, a4⟩
    exact ⟨r, es, ck, a1, by rw [h1]; exact a2, a3, fun i x y p q => ⟨(a4 i x y p q).1, MVal.imp hv (a4 i x y p q).2⟩⟩
end Go.M
namespace Go.M
set_option linter.unusedVariables false
set_option linter.unusedSectionVars false
open Uni
variable {El : Nat → Type} [Uni El] {R : Type}
def PtV (w : World) (S : Nat → Prop) (β : Beta) (vs : List Value) (ds : List (D El)) : Prop := vs.length = ds.length ∧ ∀ (i : Nat) v d, vs[i]? = some v → ds[i]? = some d → VRel w S β v d
theorem PtV.sub {w : World} {S : Nat → Prop} {β : Beta} {vs : List Value} {ds : List (D El)} (h : PtV w S β vs ds) (o n : Nat) : PtV w S β ((vs.drop o).take n) ((ds.drop o).take n) := by
  refine ⟨by simp [h.1], fun i v d a b => ?_⟩
  rw [List.getElem?_take] at a b
  split at a
  · rename_i hi
    rw [if_pos hi] at b
    rw [List.getElem?_drop] at a b
    exact h.2 _ v d a b
  · cases a
theorem cond_some9 {α : Type} {b : Bool} {x : Option α} {r : α} (h : cond b x none = some r) : b = true ∧ x = some r := by
  cases b
  · cases h
  · exact ⟨rfl, h⟩
def aggB (P : Program) (t : Nat) : Bool :=
  match P.underlying t with
  | some (.struct _) => true
  | some (.array _ _) => true
  | _ => false
def Fits (P : Program) (t : Nat) (vs : List Value) (x : Value) : Prop := (aggB P t = true ∧ x = .agg vs.toArray) ∨ (aggB P t = false ∧ vs = [x])
def meqFs (P : Program) (E : Nat → List (D El) → List (D El) → Option Bool) : List Field → List (D El) → List (D El) → Option Bool
  | [], _, _ => some true
  | f :: fs, xs, ys => cond (f.name == "_") none (match P.info? f.type with
    | some i => cond (Nat.ble (f.offset + i.size) xs.length && Nat.ble (f.offset + i.size) ys.length)
      (match E f.type ((xs.drop f.offset).take i.size) ((ys.drop f.offset).take i.size) with
      | some r => match meqFs P E fs xs ys with
        | some s => some (r && s)
        | none => none
      | none => none) none
    | none => none)
def meqIs (E : List (D El) → List (D El) → Option Bool) (c : Nat) : List Nat → List (D El) → List (D El) → Option Bool
  | [], _, _ => some true
  | i :: is, xs, ys => cond (Nat.ble (i * c + c) xs.length && Nat.ble (i * c + c) ys.length)
      (match E ((xs.drop (i * c)).take c) ((ys.drop (i * c)).take c) with
      | some r => match meqIs E c is xs ys with
        | some s => some (r && s)
        | none => none
      | none => none) none
def meqT (P : Program) : Nat → Nat → List (D El) → List (D El) → Option Bool
  | 0, _, _, _ => none
  | d + 1, t, xs, ys =>
    match P.underlying t with
    | some (.int _) => match xs, ys with
      | [.int k m], [.int k' n] => if k = k' then some (m == n) else none
      | _, _ => none
    | some .bool => match xs, ys with
      | [.bool a], [.bool b] => some (a == b)
      | _, _ => none
    | some .string => match xs, ys with
      | [.str a], [.str b] => some (a.toList == b.toList)
      | _, _ => none
    | some (.struct fs) => cond (P.stoodInHeld t) none (meqFs P (meqT P d) fs.toList xs ys)
    | some (.array n e) => match P.info? e with
      | some i => meqIs (meqT P d e) i.size (List.range n) xs ys
      | none => none
    | _ => none
theorem meqT_one {P : Program} : ∀ {d t : Nat} {xs ys : List (D El)} {r : Bool}, meqT P d t xs ys = some r → aggB P t = false → xs.length = 1 ∧ ys.length = 1 := by
  intro d t xs ys r h ha
  cases d with
  | zero => cases h
  | succ d =>
    unfold meqT at h
    unfold aggB at ha
    split at h
    · split at h <;> first | exact ⟨rfl, rfl⟩ | cases h
    · split at h <;> first | exact ⟨rfl, rfl⟩ | cases h
    · split at h <;> first | exact ⟨rfl, rfl⟩ | cases h
    · rename_i hu; rw [hu] at ha; cases ha
    · rename_i hu; rw [hu] at ha; cases ha
    · cases h
theorem part_fits {P : Program} {t off : Nat} {i : TypeInfo} {vs : List Value} (hi : P.info? t = some i) (hu : ∃ u, P.underlying t = some u) (hl : off + i.size ≤ vs.length) (h1 : aggB P t = false → ((vs.drop off).take i.size).length = 1) :
    ∃ a, (∀ w, (part t vs.toArray off).run P w = .ok a w) ∧ Fits P t ((vs.drop off).take i.size) a := by
  obtain ⟨u, hu⟩ := hu
  have hagg : ∀ w, (isAgg t).run P w = .ok (aggB P t) w := by
    intro w
    unfold isAgg aggB
    simp only [Sem.run_bind, run_underlying hu, Result.andThen_ok, hu]
    cases u <;> rfl
  cases hb : aggB P t with
  | true =>
    refine ⟨.agg (vs.toArray.extract off (off + i.size)), fun w => ?_, .inl ⟨hb, ?_⟩⟩
    · unfold part
      simp only [Sem.run_bind, hagg, hb, Result.andThen_ok, if_true]
      have hs : (sizeOf t).run P w = .ok i.size w := by simp [sizeOf, typeInfo, hi]
      simp [hs]
    · congr 1
      apply Array.ext'
      simp [List.take_drop]
  | false =>
    have hlen := h1 hb
    have hn : i.size ≠ 0 := by
      intro h0
      rw [h0] at hlen
      simp at hlen
    have hlt : off < vs.length := by omega
    refine ⟨vs[off], fun w => ?_, .inr ⟨hb, ?_⟩⟩
    · unfold part
      simp only [Sem.run_bind, hagg, hb, Result.andThen_ok]
      simp [hlt]
    · match hd : (vs.drop off).take i.size, hlen with
      | [x], _ =>
        have : ((vs.drop off).take i.size)[0]? = some x := by rw [hd]; rfl
        rw [List.getElem?_take, if_pos (by omega), List.getElem?_drop] at this
        simp only [Nat.add_zero, List.getElem?_eq_getElem hlt, Option.some.injEq] at this
        rw [this]
def EqOK (P : Program) (dd t : Nat) (E : List (D El) → List (D El) → Option Bool) : Prop :=
  ∀ {xs ys : List (D El)} {r : Bool}, E xs ys = some r → (∃ u, P.underlying t = some u) ∧ (aggB P t = false → xs.length = 1 ∧ ys.length = 1) ∧
    ∀ {w S β vs us x y}, PtV w S β vs xs → PtV w S β us ys → Fits P t vs x → Fits P t us y → ∀ w', (Op.equalIn dd t x y).run P w' = .ok r w'
theorem meqFs_sound {P : Program} {dd : Nat} {E : Nat → List (D El) → List (D El) → Option Bool} (hE : ∀ t, EqOK P dd t (E t)) : ∀ {fs : List Field} {xs ys : List (D El)} {r : Bool}, meqFs P E fs xs ys = some r →
    ∀ {w S β vs us}, PtV w S β vs xs → PtV w S β us ys → ∀ w', (Op.eqFields dd vs.toArray us.toArray fs).run P w' = .ok r w'
  | [], xs, ys, r, h, w, S, β, vs, us, h1, h2, w' => by
    cases h
    simp [Op.eqFields]
  | f :: fs, xs, ys, r, h, w, S, β, vs, us, h1, h2, w' => by
    unfold meqFs at h
    cases hn : f.name == "_" with
    | true => rw [hn] at h; cases h
    | false =>
      rw [hn] at h
      simp only [cond_false] at h
      split at h
      · rename_i i hi
        obtain ⟨hc, h⟩ := cond_some9 h
        obtain ⟨c1, c2⟩ := Bool.and_eq_true_iff.1 hc
        have c1 := Nat.le_of_ble_eq_true c1
        have c2 := Nat.le_of_ble_eq_true c2
        split at h
        · rename_i r0 hr
          split at h
          · rename_i s hs
            cases h
            obtain ⟨e1, e2, e3⟩ := hE f.type hr
            have p1 := h1.sub f.offset i.size
            have p2 := h2.sub f.offset i.size
            obtain ⟨a, a1, a2⟩ := part_fits (vs := vs) hi e1 (by rw [h1.1]; exact c1) (fun ha => by rw [p1.1]; exact (e2 ha).1)
            obtain ⟨b, b1, b2⟩ := part_fits (vs := us) hi e1 (by rw [h2.1]; exact c2) (fun ha => by rw [p2.1]; exact (e2 ha).2)
            have e4 := e3 p1 p2 a2 b2
            have ih := meqFs_sound hE hs h1 h2 w'
            have hn' : f.name ≠ "_" := by simpa using hn
            rw [Op.eqFields]
            simp only [if_pos hn', Sem.run_bind, a1, b1, e4, Result.andThen_ok]
            cases r0
            · simp
            · simpa using ih
          · cases h
        · cases h
      · cases h
theorem meqIs_sound {P : Program} {dd e c : Nat} {i : TypeInfo} (hi : P.info? e = some i) (hc : i.size = c) {E : List (D El) → List (D El) → Option Bool} (hE : EqOK P dd e E) : ∀ {is : List Nat} {xs ys : List (D El)} {r : Bool}, meqIs E c is xs ys = some r →
    ∀ {w S β vs us}, PtV w S β vs xs → PtV w S β us ys → ∀ w', (Op.eqItems dd e c vs.toArray us.toArray is).run P w' = .ok r w'
  | [], xs, ys, r, h, w, S, β, vs, us, h1, h2, w' => by
    cases h
    simp [Op.eqItems]
  | j :: is, xs, ys, r, h, w, S, β, vs, us, h1, h2, w' => by
    subst hc
    unfold meqIs at h
    obtain ⟨hc, h⟩ := cond_some9 h
    obtain ⟨c1, c2⟩ := Bool.and_eq_true_iff.1 hc
    have c1 := Nat.le_of_ble_eq_true c1
    have c2 := Nat.le_of_ble_eq_true c2
    split at h
    · rename_i r0 hr
      split at h
      · rename_i s hs
        cases h
        obtain ⟨e1, e2, e3⟩ := hE hr
        have p1 := h1.sub (j * i.size) i.size
        have p2 := h2.sub (j * i.size) i.size
        obtain ⟨a, a1, a2⟩ := part_fits (vs := vs) hi e1 (by rw [h1.1]; exact c1) (fun ha => by rw [p1.1]; exact (e2 ha).1)
        obtain ⟨b, b1, b2⟩ := part_fits (vs := us) hi e1 (by rw [h2.1]; exact c2) (fun ha => by rw [p2.1]; exact (e2 ha).2)
        have e4 := e3 p1 p2 a2 b2
        have ih := meqIs_sound hi rfl hE hs h1 h2 w'
        rw [Op.eqItems]
        simp only [Sem.run_bind, a1, b1, e4, Result.andThen_ok]
        cases r0
        · simp
        · simpa using ih
      · cases h
    · cases h
theorem meqT_sound {P : Program} (dd : Nat) : ∀ (d t : Nat), EqOK (El := El) P (dd + d) t (meqT P d t)
  | 0, t => by intro h; cases h
  | d + 1, t => by
    intro h
    have hone := meqT_one h
    refine ⟨?_, hone, ?_⟩
    · unfold meqT at h
      cases hu : P.underlying t with
      | none => rw [hu] at h; cases h
      | some u => exact ⟨u, rfl⟩
    · intro w S β vs us x y h1 h2 f1 f2 w'
      unfold meqT at h
      have nag : aggB P t = false → vs = [x] ∧ us = [y] := by
        intro ha
        rcases f1 with ⟨e, _⟩ | ⟨_, e1⟩
        · rw [ha] at e; cases e
        · rcases f2 with ⟨e, _⟩ | ⟨_, e2⟩
          · rw [ha] at e; cases e
          · exact ⟨e1, e2⟩
      have yag : aggB P t = true → x = .agg vs.toArray ∧ y = .agg us.toArray := by
        intro ha
        rcases f1 with ⟨_, e1⟩ | ⟨e, _⟩
        · rcases f2 with ⟨_, e2⟩ | ⟨e, _⟩
          · exact ⟨e1, e2⟩
          · rw [ha] at e; cases e
        · rw [ha] at e; cases e
      rw [show dd + (d + 1) = (dd + d) + 1 from rfl]
      split at h
      · rename_i q hu
        obtain ⟨rfl, rfl⟩ := nag (by simp [aggB, hu])
        split at h
        · split at h
          · rename_i hk
            subst hk
            cases h
            have g1 := h1.2 0 x _ rfl rfl
            have g2 := h2.2 0 y _ rfl rfl
            cases g1; cases g2
            exact run_equalIn_int _ (dd + d) t _ q _ _ hu
          · cases h
        · cases h
      · rename_i hu
        obtain ⟨rfl, rfl⟩ := nag (by simp [aggB, hu])
        split at h
        · cases h
          have g1 := h1.2 0 x _ rfl rfl
          have g2 := h2.2 0 y _ rfl rfl
          cases g1; cases g2
          exact run_equalIn_bool _ (dd + d) t _ _ hu
        · cases h
      · rename_i hu
        obtain ⟨rfl, rfl⟩ := nag (by simp [aggB, hu])
        split at h
        · cases h
          have g1 := h1.2 0 x _ rfl rfl
          have g2 := h2.2 0 y _ rfl rfl
          cases g1; cases g2
          exact run_equalIn_string _ (dd + d) t _ _ hu
        · cases h
      · rename_i fs hu
        obtain ⟨rfl, rfl⟩ := yag (by simp [aggB, hu])
        cases hp : P.stoodInHeld t with
        | true => rw [hp] at h; cases h
        | false =>
          rw [hp] at h
          have hfs : P.fieldsOf t = fs := by simp [Program.fieldsOf, hu]
          rw [run_equalIn_struct w' (dd + d) t _ _ (by rw [hfs]; exact hu) hp, hfs]
          exact meqFs_sound (fun t => meqT_sound dd d t) h h1 h2 w'
      · rename_i n e hu
        obtain ⟨rfl, rfl⟩ := yag (by simp [aggB, hu])
        split at h
        · rename_i i hi
          rw [run_equalIn_array w' (dd + d) _ _ hu hi]
          have hc : P.cellsOf e = i.size := by simp [Program.cellsOf, hi]
          first | (rw [hc]; exact meqIs_sound hi rfl (meqT_sound dd d e) h h1 h2 w') | exact meqIs_sound hi rfl (meqT_sound dd d e) h h1 h2 w'
        · cases h
      · cases h
end Go.M
namespace Go.M
set_option linter.unusedVariables false
set_option linter.unusedSectionVars false
open Uni
inductive S0 where
  | dead | nilsl | nilptr | nilfn | niliface | nilmap | bool | str
  | int (k : IntKind)
  | frz (t : Nat)
  | own (t : Nat)
  | all (o k : Nat)
  | sl (o k : Nat)
  | ptr (o k c : Nat)
  | ptr0 (o c : Nat)
  | fptr (t c : Nat)
  | mapr (o : Nat)
def S0.T (El : Nat → Type) : S0 → Type
  | .bool => Bool
  | .str => ByteArray
  | .int _ => Int
  | .frz t => List (El t)
  | .own t => List (El t)
  | .sl _ _ => Nat × Nat
  | .ptr _ _ _ => Nat
  | .fptr t _ => List (El t) × Nat
  | _ => Unit
variable {El : Nat → Type} [Uni El]
def wr0 : (s : S0) → s.T El → D El
  | .dead, _ => .dead
  | .nilsl, _ => .nilsl
  | .nilptr, _ => .nilptr
  | .nilfn, _ => .nilfn
  | .niliface, _ => .niliface
  | .nilmap, _ => .nilmap
  | .bool, b => .bool b
  | .str, b => .str b
  | .int k, n => .int k n
  | .frz t, l => .frz t l
  | .own t, l => .own t l
  | .all o k, _ => .all o k
  | .sl o k, x => .sl o k x.1 x.2
  | .ptr o k c, i => .ptr o k i c
  | .ptr0 o c, _ => .ptr o 0 0 c
  | .fptr t c, x => .fptr t x.1 x.2 c
  | .mapr o, _ => .mapr o
def rd0 : (s : S0) → D El → Option (s.T El)
  | .dead, .dead => some ()
  | .nilsl, .nilsl => some ()
  | .nilptr, .nilptr => some ()
  | .nilfn, .nilfn => some ()
  | .niliface, .niliface => some ()
  | .nilmap, .nilmap => some ()
  | .bool, .bool b => some b
  | .str, .str b => some b
  | .int k, .int k' n => if k' = k then some n else none
  | .frz t, .frz t' l => if h : t' = t then some (h ▸ l) else none
  | .own t, .own t' l => if h : t' = t then some (h ▸ l) else none
  | .all o k, .all o' k' => if o' = o ∧ k' = k then some () else none
  | .sl o k, .sl o' k' a b => if o' = o ∧ k' = k then some (a, b) else none
  | .ptr o k c, .ptr o' k' i c' => if o' = o ∧ k' = k ∧ c' = c then some i else none
  | .ptr0 o c, .ptr o' 0 0 c' => if o' = o ∧ c' = c then some () else none
  | .fptr t c, .fptr t' l i c' => if h : t' = t then (if c' = c then some (h ▸ l, i) else none) else none
  | .mapr o, .mapr o' => if o' = o then some () else none
  | _, _ => none
theorem rd0_wr {s : S0} {d : D El} {x : s.T El} (h : rd0 s d = some x) : d = wr0 s x := by
  cases s <;> cases d <;> simp only [rd0] at h <;> first
    | (cases h; done)
    | (cases h; rfl)
    | (split at h
       · first | (rename_i e; subst e; cases h; rfl) | (rename_i e; obtain ⟨rfl, rfl⟩ := e; cases h; rfl) | (rename_i e; obtain ⟨rfl, rfl, rfl⟩ := e; cases h; rfl) | (rename_i e; subst e; split at h <;> first | (rename_i e2; subst e2; cases h; rfl) | cases h)
       · cases h)
    | skip
  case ptr0.ptr o c o' k i c' =>
    cases k with
    | succ k => simp [rd0] at h
    | zero =>
      cases i with
      | succ i => simp [rd0] at h
      | zero =>
        simp only [rd0] at h
        split at h
        · rename_i e
          obtain ⟨rfl, rfl⟩ := e
          rfl
        · cases h
def LT (El : Nat → Type) : List S0 → Type
  | [] => Unit
  | s :: r => s.T El × LT El r
def wrL : (l : List S0) → LT El l → List (D El)
  | [], _ => []
  | s :: r, x => wr0 s x.1 :: wrL r x.2
def rdL : (l : List S0) → List (D El) → Option (LT El l)
  | [], [] => some ()
  | s :: r, d :: ds => match rd0 s d, rdL r ds with
    | some x, some y => some (x, y)
    | _, _ => none
  | _, _ => none
theorem rdL_wr : ∀ {l : List S0} {ds : List (D El)} {x : LT El l}, rdL l ds = some x → ds = wrL l x
  | [], [], x, h => rfl
  | [], _ :: _, x, h => by cases h
  | _ :: _, [], x, h => by cases h
  | s :: r, d :: ds, x, h => by
    unfold rdL at h
    split at h
    · rename_i a b ha hb
      cases h
      show d :: ds = wr0 s a :: wrL r b
      rw [← rd0_wr ha, ← rdL_wr hb]
    · cases h
inductive S1 where
  | c (s : S0)
  | agg (l : List S0)
  | fn (f : Nat) (l : List S0)
def S1.T (El : Nat → Type) : S1 → Type
  | .c s => s.T El
  | .agg l => LT El l
  | .fn _ l => LT El l
def wr1 : (s : S1) → s.T El → D El
  | .c s, x => wr0 s x
  | .agg l, x => .agg (wrL l x)
  | .fn f l, x => .fn f (wrL l x)
def asAgg : D El → Option (List (D El))
  | .agg l => some l
  | _ => none
theorem asAgg_eq {d : D El} {l : List (D El)} (h : asAgg d = some l) : d = .agg l := by
  cases d <;> first | (cases h; rfl) | cases h
def asFn (f : Nat) : D El → Option (List (D El))
  | .fn g l => cond (Nat.beq g f) (some l) none
  | _ => none
theorem asFn_eq {f : Nat} {d : D El} {l : List (D El)} (h : asFn f d = some l) : d = .fn f l := by
  cases d <;> first | (cases h; done) | skip
  rename_i g l'
  have h : cond (Nat.beq g f) (some l') none = some l := h
  cases hb : Nat.beq g f with
  | false => rw [hb] at h; cases h
  | true =>
    rw [hb] at h
    cases h
    rw [Nat.eq_of_beq_eq_true hb]
def rd1 : (s : S1) → D El → Option (s.T El)
  | .c s, d => rd0 s d
  | .agg l, d => match asAgg d with
    | some ds => rdL l ds
    | none => none
  | .fn f l, d => match asFn f d with
    | some ds => rdL l ds
    | none => none
theorem rd1_wr : ∀ {s : S1} {d : D El} {x : s.T El}, rd1 s d = some x → d = wr1 s x
  | .c s, d, x, h => rd0_wr h
  | .agg l, d, x, h => by
    have h : (match asAgg d with | some ds => rdL l ds | none => none) = some x := h
    cases hd : asAgg d with
    | none => rw [hd] at h; cases h
    | some ds =>
      rw [hd] at h
      rw [asAgg_eq hd]
      exact congrArg D.agg (rdL_wr h)
  | .fn f l, d, x, h => by
    have h : (match asFn f d with | some ds => rdL l ds | none => none) = some x := h
    cases hd : asFn f d with
    | none => rw [hd] at h; cases h
    | some ds =>
      rw [hd] at h
      rw [asFn_eq hd]
      exact congrArg (D.fn f) (rdL_wr h)
def LT1 (El : Nat → Type) : List S1 → Type
  | [] => Unit
  | s :: r => s.T El × LT1 El r
def wrL1 : (l : List S1) → LT1 El l → List (D El)
  | [], _ => []
  | s :: r, x => wr1 s x.1 :: wrL1 r x.2
def rdL1 : (l : List S1) → List (D El) → Option (LT1 El l)
  | [], [] => some ()
  | s :: r, d :: ds => match rd1 s d, rdL1 r ds with
    | some x, some y => some (x, y)
    | _, _ => none
  | _, _ => none
theorem rdL1_wr : ∀ {l : List S1} {ds : List (D El)} {x : LT1 El l}, rdL1 l ds = some x → ds = wrL1 l x
  | [], [], x, h => rfl
  | [], _ :: _, x, h => by cases h
  | _ :: _, [], x, h => by cases h
  | s :: r, d :: ds, x, h => by
    unfold rdL1 at h
    split at h
    · rename_i a b ha hb
      cases h
      show d :: ds = wr1 s a :: wrL1 r b
      rw [← rd1_wr ha, ← rdL1_wr hb]
    · cases h
inductive S2 where
  | o (s : S1)
  | tup (l : List S1)
def S2.T (El : Nat → Type) : S2 → Type
  | .o s => s.T El
  | .tup l => LT1 El l
def wr2 : (s : S2) → s.T El → D El
  | .o s, x => wr1 s x
  | .tup l, x => .tup (wrL1 l x)
def asTup : D El → Option (List (D El))
  | .tup l => some l
  | _ => none
theorem asTup_eq {d : D El} {l : List (D El)} (h : asTup d = some l) : d = .tup l := by
  cases d <;> first | (cases h; rfl) | cases h
def rd2 : (s : S2) → D El → Option (s.T El)
  | .o s, d => rd1 s d
  | .tup l, d => match asTup d with
    | some ds => rdL1 l ds
    | none => none
theorem rd2_wr : ∀ {s : S2} {d : D El} {x : s.T El}, rd2 s d = some x → d = wr2 s x
  | .o s, d, x, h => rd1_wr h
  | .tup l, d, x, h => by
    have h : (match asTup d with | some ds => rdL1 l ds | none => none) = some x := h
    cases hd : asTup d with
    | none => rw [hd] at h; cases h
    | some ds =>
      rw [hd] at h
      rw [asTup_eq hd]
      exact congrArg D.tup (rdL1_wr h)
def LT2 (El : Nat → Type) : List S2 → Type
  | [] => Unit
  | s :: r => s.T El × LT2 El r
def wrL2 : (l : List S2) → LT2 El l → List (D El)
  | [], _ => []
  | s :: r, x => wr2 s x.1 :: wrL2 r x.2
def rdL2 : (l : List S2) → List (D El) → Option (LT2 El l)
  | [], [] => some ()
  | s :: r, d :: ds => match rd2 s d, rdL2 r ds with
    | some x, some y => some (x, y)
    | _, _ => none
  | _, _ => none
theorem rdL2_wr : ∀ {l : List S2} {ds : List (D El)} {x : LT2 El l}, rdL2 l ds = some x → ds = wrL2 l x
  | [], [], x, h => rfl
  | [], _ :: _, x, h => by cases h
  | _ :: _, [], x, h => by cases h
  | s :: r, d :: ds, x, h => by
    unfold rdL2 at h
    split at h
    · rename_i a b ha hb
      cases h
      show d :: ds = wr2 s a :: wrL2 r b
      rw [← rd2_wr ha, ← rdL2_wr hb]
    · cases h
inductive SO where
  | box (ty : Nat) (l : List S0)
  | arr (t : Nat)
  | ice (t : Nat)
  | gone
  | map (kk : Option IntKind) (g : Bool) (e : Nat)
def SO.T (El : Nat → Type) : SO → Type
  | .box _ l => LT El l
  | .arr t => List (El t)
  | .ice t => List (El t)
  | .gone => Unit
  | .map _ _ e => List (Value × El e)
def wrO : (s : SO) → s.T El → MObj El
  | .box ty l, x => .box ty (wrL l x)
  | .arr t, x => .arr t x
  | .ice t, x => .ice t x
  | .gone, _ => .gone
  | .map kk g e, x => .map kk g e x
def asMap (kk : Option IntKind) (g : Bool) (e : Nat) : MObj El → Option (List (Value × El e))
  | .map kk' g' e' l => if kk' = kk ∧ g' = g then (if h : e' = e then some (h ▸ l) else none) else none
  | _ => none
theorem asMap_eq {kk : Option IntKind} {g : Bool} {e : Nat} {d : MObj El} {l : List (Value × El e)} (h : asMap kk g e d = some l) : d = .map kk g e l := by
  cases d <;> first | (cases h; done) | skip
  rename_i kk' g' e' l'
  replace h : (if kk' = kk ∧ g' = g then (if h : e' = e then some (h ▸ l') else none) else none) = some l := h
  split at h
  · rename_i hk
    obtain ⟨rfl, rfl⟩ := hk
    split at h
    · rename_i he; subst he; cases h; rfl
    · cases h
  · cases h
def asBox (ty : Nat) : MObj El → Option (List (D El))
  | .box ty' l => cond (Nat.beq ty' ty) (some l) none
  | _ => none
theorem asBox_eq {ty : Nat} {d : MObj El} {l : List (D El)} (h : asBox ty d = some l) : d = .box ty l := by
  cases d <;> first | (cases h; done) | skip
  rename_i g l'
  have h : cond (Nat.beq g ty) (some l') none = some l := h
  cases hb : Nat.beq g ty with
  | false => rw [hb] at h; cases h
  | true =>
    rw [hb] at h
    cases h
    rw [Nat.eq_of_beq_eq_true hb]
def asArr (t : Nat) : MObj El → Option (List (El t))
  | .arr t' l => if h : t' = t then some (h ▸ l) else none
  | _ => none
theorem asArr_eq {t : Nat} {d : MObj El} {l : List (El t)} (h : asArr t d = some l) : d = .arr t l := by
  cases d <;> first | (cases h; done) | skip
  rename_i t' l'
  have h : (if h : t' = t then some (h ▸ l') else none) = some l := h
  split at h
  · rename_i e; subst e; cases h; rfl
  · cases h
def asIce (t : Nat) : MObj El → Option (List (El t))
  | .ice t' l => if h : t' = t then some (h ▸ l) else none
  | _ => none
theorem asIce_eq {t : Nat} {d : MObj El} {l : List (El t)} (h : asIce t d = some l) : d = .ice t l := by
  cases d <;> first | (cases h; done) | skip
  rename_i t' l'
  have h : (if h : t' = t then some (h ▸ l') else none) = some l := h
  split at h
  · rename_i e; subst e; cases h; rfl
  · cases h
def asGone : MObj El → Option Unit
  | .gone => some ()
  | _ => none
theorem asGone_eq {d : MObj El} {u : Unit} (h : asGone d = some u) : d = .gone := by
  cases d <;> first | (cases h; rfl) | cases h
def rdO : (s : SO) → MObj El → Option (s.T El)
  | .box ty l, d => match asBox ty d with
    | some ds => rdL l ds
    | none => none
  | .arr t, d => asArr t d
  | .ice t, d => asIce t d
  | .gone, d => asGone d
  | .map kk g e, d => asMap kk g e d
theorem rdO_wr : ∀ {s : SO} {d : MObj El} {x : s.T El}, rdO s d = some x → d = wrO s x
  | .box ty l, d, x, h => by
    have h : (match asBox ty d with | some ds => rdL l ds | none => none) = some x := h
    cases hd : asBox ty d with
    | none => rw [hd] at h; cases h
    | some ds =>
      rw [hd] at h
      rw [asBox_eq hd]
      exact congrArg (MObj.box ty) (rdL_wr h)
  | .arr t, d, x, h => asArr_eq h
  | .ice t, d, x, h => asIce_eq h
  | .gone, d, x, h => asGone_eq h
  | .map kk g e, d, x, h => asMap_eq h
def LTO (El : Nat → Type) : List (Nat × SO) → Type
  | [] => Unit
  | (_, s) :: r => s.T El × LTO El r
def wrLO : (l : List (Nat × SO)) → LTO El l → List (Nat × MObj El)
  | [], _ => []
  | (n, s) :: r, x => (n, wrO s x.1) :: wrLO r x.2
def rdLO : (l : List (Nat × SO)) → List (Nat × MObj El) → Option (LTO El l)
  | [], [] => some ()
  | (n, s) :: r, (m, d) :: ds => if m = n then (match rdO s d, rdLO r ds with
    | some x, some y => some (x, y)
    | _, _ => none) else none
  | _, _ => none
theorem rdLO_wr : ∀ {l : List (Nat × SO)} {ds : List (Nat × MObj El)} {x : LTO El l}, rdLO l ds = some x → ds = wrLO l x
  | [], [], x, h => rfl
  | [], _ :: _, x, h => by cases h
  | (_, _) :: _, [], x, h => by cases h
  | (n, s) :: r, (m, d) :: ds, x, h => by
    unfold rdLO at h
    split at h
    · rename_i e
      subst e
      split at h
      · rename_i a b ha hb
        cases h
        show (m, d) :: ds = (m, wrO s a) :: wrLO r b
        rw [← rdO_wr ha, ← rdLO_wr hb]
      · cases h
    · cases h
structure SS where
  tmps : List S2
  objs : List (Nat × SO)
  next : Nat
def wrS (s : SS) (x : LT2 El s.tmps × LTO El s.objs) : St El := ⟨wrL2 s.tmps x.1, wrLO s.objs x.2, s.next⟩
def rdS (s : SS) (st : St El) : Option (LT2 El s.tmps × LTO El s.objs) :=
  if st.next = s.next then (match rdL2 s.tmps st.tmps, rdLO s.objs st.objs with
    | some x, some y => some (x, y)
    | _, _ => none) else none
theorem rdS_wr {s : SS} {st : St El} {x : LT2 El s.tmps × LTO El s.objs} (h : rdS s st = some x) : st = wrS s x := by
  unfold rdS at h
  split at h
  · rename_i e
    split at h
    · rename_i a b ha hb
      cases h
      show st = ⟨wrL2 s.tmps a, wrLO s.objs b, s.next⟩
      rw [← rdL2_wr ha, ← rdLO_wr hb, ← e]
    · cases h
  · cases h
def viewS {A : Type} (s : SS) (u : LT2 El s.tmps × LTO El s.objs → A) (st : St El) : Option A :=
  match rdS s st with
  | some x => some (u x)
  | none => none
theorem viewS_eq {A : Type} {s : SS} {u : LT2 El s.tmps × LTO El s.objs → A} {stc : A → St El} (hs : ∀ x, wrS s x = stc (u x)) : ∀ st p, viewS s u st = some p → st = stc p := by
  intro st p h
  unfold viewS at h
  split at h
  · rename_i x hx
    cases h
    exact (rdS_wr hx).trans (hs x)
  · cases h
end Go.M
namespace Go.M
set_option linter.unusedVariables false
set_option linter.unusedSectionVars false
open Uni
variable {El : Nat → Type} [Uni El] {R : Type}
def ofVal0 : Value → D El
  | .int k n => .int k n
  | .bool b => .bool b
  | .string s => .str s
  | .slice none 0 0 => .nilsl
  | .pointer none => .nilptr
  | .nilFunc => .nilfn
  | .nilIface => .niliface
  | .map none => .nilmap
  | _ => .dead
def ofVal : Value → D El
  | .agg cs => cond (cs.toList.all fun v => (ofVal0 v : D El).cell) (.agg (cs.toList.map ofVal0)) .dead
  | v => ofVal0 v
theorem ofVal0_rel (w : World) (S : Nat → Prop) (β : Beta) (v : Value) : VRel w S β v (ofVal0 v : D El) := by
  unfold ofVal0
  split <;> constructor
theorem ofVal_rel (w : World) (S : Nat → Prop) (β : Beta) (v : Value) : VRel w S β v (ofVal v : D El) := by
  unfold ofVal
  split
  · rename_i cs
    cases h : (cs.toList.all fun v => (ofVal0 v : D El).cell) with
    | false => exact .dead _
    | true =>
      refine .agg cs _ (by simp) (fun i v d h1 h2 => ?_) (fun d hd => ?_)
      · rw [List.getElem?_map, Array.getElem?_toList, h1] at h2
        cases h2
        exact ofVal0_rel w S β v
      · obtain ⟨v, hv, rfl⟩ := List.mem_map.1 hd
        exact List.all_eq_true.1 h v hv
  · exact ofVal0_rel w S β v
def toVal0 : D El → Option Value
  | .int k n => some (.int k n)
  | .bool b => some (.bool b)
  | .str s => some (.string s)
  | .nilsl => some (.slice none 0 0)
  | .nilptr => some (.pointer none)
  | .nilfn => some .nilFunc
  | .niliface => some .nilIface
  | .nilmap => some (.map none)
  | _ => none
theorem toVal0_rel {w : World} {S : Nat → Prop} {β : Beta} {v v' : Value} {d : D El} (h : toVal0 d = some v') (hr : VRel w S β v d) : v = v' := by
  cases hr <;> simp [toVal0] at h <;> exact h
def ev (st : St El) : Operand → D El
  | .tmp t => nth st.tmps t
  | .const v => ofVal v
  | .global _ => .dead
  | .func f => .fn f []
theorem ev_rel {X : Ctx El} {st : St El} {S : Nat → Prop} {β : Beta} {a : Act} {w : World} (h : Rel X st S β a w) (x : Operand) : VRel w S β (a.eval x) (ev st x) := by
  cases x with
  | tmp t => exact h.tmps t
  | const v => exact ofVal_rel w S β v
  | global g => exact .dead _
  | func f => exact .fn f [] #[] rfl (fun i v d h1 h2 => by simp at h1)
def prun (P : Program) {α : Type} : Sem α → Option α
  | .pure a => some a
  | .program k => prun P (k P)
  | _ => none
theorem prun_run {P : Program} {α : Type} {s : Sem α} {x : α} (h : prun P s = some x) (w : World) : s.run P w = .ok x w := by
  induction s generalizing x with
  | pure a => simp [prun] at h; subst h; rfl
  | program k ih => exact ih P h
  | _ => simp [prun] at h
def Goes (P : Program) (X : Ctx El) (o : Oper) (st' : St El) (a : Act) (w : World) : Prop :=
  ∀ Q, o.wp P a w (fun a' w' => ∃ S' β', Rel X st' S' β' a' w') Q
theorem goes_value {P : Program} {X : Ctx El} {o : Oper} {st : St El} {d : D El} {v : Value} {S : Nat → Prop} {β : Beta} {a : Act} {w : World}
    (h : (execOp a.eval o).run P w = .ok (.value v) w) (hr : Rel X st S β a w) (hv : VRel w S β v d) : Goes P X o (st.put o.dst d) a w := by
  intro Q
  unfold Oper.wp
  rw [h]
  exact ⟨S, β, hr.put o.dst hv⟩
def mpick (b : Bool) (x y : D El) (K : D El → Option R) : Option R :=
  match x, y with
  | .int k m, .int k' n => if k = k' then K (.int k (cond b m n)) else none
  | .bool m, .bool n => K (.bool (cond b m n))
  | .str m, .str n => K (.str (cond b m n))
  | .dead, y => cond b none (K y)
  | x, .dead => cond b (K x) none
  | x, y => cond b (K x) (K y)
theorem mpick_sound {b : Bool} {x y : D El} {K : D El → Option R} {r : R} (h : mpick b x y K = some r) : ∃ d, K d = some r ∧
    ∀ (w : World) S β v u, VRel w S β v x → VRel w S β u y → VRel w S β (if b then v else u) d := by
  unfold mpick at h
  split at h
  · split at h
    · rename_i hk
      subst hk
      refine ⟨_, h, fun w S β v u h1 h2 => ?_⟩
      cases h1; cases h2; cases b <;> constructor
    · cases h
  · refine ⟨_, h, fun w S β v u h1 h2 => ?_⟩
    cases h1; cases h2; cases b <;> constructor
  · refine ⟨_, h, fun w S β v u h1 h2 => ?_⟩
    cases h1; cases h2; cases b <;> constructor
  · cases b with
    | false => exact ⟨_, h, fun w S β v u h1 h2 => h2⟩
    | true => cases h
  · cases b with
    | false => cases h
    | true => exact ⟨_, h, fun w S β v u h1 h2 => h1⟩
  · cases b with
    | false => exact ⟨_, h, fun w S β v u h1 h2 => h2⟩
    | true => exact ⟨_, h, fun w S β v u h1 h2 => h1⟩
def mbin (P : Program) (op : BinOp) (t : Nat) (ox oy : Operand) (x y : D El) (K : D El → Option R) : Option R :=
  match op, x, y with
  | .quo, .int k m, .int k' n => if k = k' then (if n = 0 then none else K (.int k (k.wrap (m.tdiv n)))) else none
  | .rem, .int k m, .int k' n => if k = k' then (if n = 0 then none else K (.int k (m.tmod n))) else none
  | .add, .str m, .str n => if m.size + n.size ≤ 9223372036854775807 then K (.str (m ++ n)) else none
  | .eql, .agg xs, .agg ys => cond (aggB P t && !P.eqGuardType P.depth t) (match meqT P 12 t xs ys with | some r => K (.bool r) | none => none) none
  | .neq, .agg xs, .agg ys => cond (aggB P t && !P.eqGuardType P.depth t) (match meqT P 12 t xs ys with | some r => K (.bool (!r)) | none => none) none
  | op, x, y =>
    match toVal0 x, toVal0 y with
    | some vx, some vy =>
      match prun P (do eqGuard op t ox oy vx vy; binOp op t vx vy) with
      | some v => K (ofVal v)
      | none => none
    | _, _ => none
theorem magg_run {P : Program} {t : Nat} {xs ys : List (D El)} {b : Bool} (hc : (aggB P t && !P.eqGuardType P.depth t) = true) (h : meqT P 12 t xs ys = some b) {w : World} {S : Nat → Prop} {β : Beta} {v u : Value} (h1 : VRel w S β v (.agg xs)) (h2 : VRel w S β u (.agg ys)) :
    ∃ vs us, v = .agg vs ∧ u = .agg us ∧ P.eqGuardType P.depth t = false ∧ ∀ w', (Op.equal t v u).run P w' = .ok b w' := by
  obtain ⟨c1, c2⟩ := Bool.and_eq_true_iff.1 hc
  cases h1 with
  | agg vs _ a1 a2 _ =>
    cases h2 with
    | agg us _ b1 b2 _ =>
      refine ⟨vs, us, rfl, rfl, by simpa using c2, fun w' => ?_⟩
      have k1 : PtV w S β vs.toList xs := ⟨by simpa using a1, fun i v d p q => a2 i v d (by simpa using p) q⟩
      have k2 : PtV w S β us.toList ys := ⟨by simpa using b1, fun i v d p q => b2 i v d (by simpa using p) q⟩
      exact (meqT_sound (P := P) 9988 12 t h).2.2 k1 k2 (.inl ⟨c1, by simp⟩) (.inl ⟨c1, by simp⟩) w'
theorem mbin_sound {P : Program} {op : BinOp} {t : Nat} {ox oy : Operand} {x y : D El} {K : D El → Option R} {r : R} (h : mbin P op t ox oy x y K = some r) : ∃ d, K d = some r ∧
    ∀ (w : World) S β v u, VRel w S β v x → VRel w S β u y → ∃ z, (∀ w', (do eqGuard op t ox oy v u; binOp op t v u).run P w' = .ok z w') ∧ VRel w S β z d := by
  unfold mbin at h
  split at h
  · split at h
    · rename_i hk
      subst hk
      split at h
      · cases h
      · rename_i hn
        refine ⟨_, h, fun w S β v u h1 h2 => ?_⟩
        cases h1; cases h2
        refine ⟨_, fun w' => ?_, .int _ _⟩
        simp [eqGuard, binOp, Op.intDiv, hn]
    · cases h
  · split at h
    · rename_i hk
      subst hk
      split at h
      · cases h
      · rename_i hn
        refine ⟨_, h, fun w S β v u h1 h2 => ?_⟩
        cases h1; cases h2
        refine ⟨_, fun w' => ?_, .int _ _⟩
        simp [eqGuard, binOp, Op.intDiv, hn]
    · cases h
  · rename_i m n
    split at h
    · rename_i hs
      refine ⟨_, h, fun w S β v u h1 h2 => ?_⟩
      cases h1; cases h2
      refine ⟨_, fun w' => ?_, .str _⟩
      have hm : ¬ (((m.size + n.size : Nat) : Int) > IntKind.i64.max) := by
        show ¬ (((m.size + n.size : Nat) : Int) > 9223372036854775807)
        omega
      simp only [eqGuard, binOp, Op.stringOp, hm, if_false]
      rfl
    · cases h
  · obtain ⟨hc, h⟩ := cond_some9 h
    split at h
    · rename_i b hb
      refine ⟨_, h, fun w S β v u h1 h2 => ⟨.bool b, fun w' => ?_, .bool _⟩⟩
      obtain ⟨vs, us, rfl, rfl, hg, he⟩ := magg_run hc hb h1 h2
      simp [eqGuard, binOp, hg, he]
    · cases h
  · obtain ⟨hc, h⟩ := cond_some9 h
    split at h
    · rename_i b hb
      refine ⟨_, h, fun w S β v u h1 h2 => ⟨.bool (!b), fun w' => ?_, .bool _⟩⟩
      obtain ⟨vs, us, rfl, rfl, hg, he⟩ := magg_run hc hb h1 h2
      simp [eqGuard, binOp, hg, he]
    · cases h
  · split at h
    · rename_i vx vy hx hy
      split at h
      · rename_i z hz
        refine ⟨_, h, fun w S β v u h1 h2 => ⟨z, fun w' => ?_, ofVal_rel w S β z⟩⟩
        obtain rfl := toVal0_rel hx h1
        obtain rfl := toVal0_rel hy h2
        exact prun_run hz w'
      · cases h
    · cases h
end Go.M
namespace Go.M
set_option linter.unusedVariables false
set_option linter.unusedSectionVars false
open Uni
variable {El : Nat → Type} [Uni El] {R : Type}
structure Grew (w w' : World) (T : Nat → Prop) : Prop where
  os : w'.os = w.os
  tape : w'.tape = w.tape
  output : w'.output = w.output
  size : w.heap.size ≤ w'.heap.size
  block : ∀ k, k < w.heap.size → ¬ T k → w'.heap[k]? = w.heap[k]?
theorem Grew.refl (w : World) (T : Nat → Prop) : Grew w w T := ⟨rfl, rfl, rfl, Nat.le_refl _, fun _ _ _ => rfl⟩
theorem Grew.alloc (w : World) (o : Obj) : Grew w (w.alloc o) (fun _ => False) := ⟨rfl, rfl, rfl, by simp, fun k hk _ => heap_alloc_old w o k hk⟩
theorem Grew.of_grown {w w' : World} {row : Option Nat} (h : w.grownBy w' row) : Grew w w' (fun k => row = some k) := ⟨h.os, h.tape, h.output, h.size, fun k hk hn => h.block k hk (fun e => hn e.symm)⟩
theorem Grew.mono {w w' : World} {T T' : Nat → Prop} (h : Grew w w' T) (i : ∀ k, T k → T' k) : Grew w w' T' := ⟨h.os, h.tape, h.output, h.size, fun k hk hn => h.block k hk (fun e => hn (i k e))⟩
def at_ (β : Beta) (o r : Nat) : Prop := ∃ v, β o = some v ∧ blkOf v = some r
theorem ORel.lt {w : World} {S : Nat → Prop} {β : Beta} {o r : Nat} {x : MObj El} (h : ORel w S β o x) (hl : x.live = true) (ha : at_ β o r) : r < w.heap.size := by
  obtain ⟨v, hv, hb⟩ := ha
  cases x with
  | box ty cells =>
    obtain ⟨r', C, h1, h2, _⟩ := h
    rw [h1] at hv
    cases hv
    simp [blkOf] at hb
    subst hb
    exact (Array.getElem?_eq_some_iff.1 h2).1
  | arr t l =>
    obtain ⟨v', vs, h1, h2, _⟩ := h
    rw [h1] at hv
    cases hv
    rcases h2.2 with ⟨rfl, _⟩ | ⟨g, cap, cur, rfl, _, hg, _⟩
    · simp [blkOf] at hb
    · simp [blkOf] at hb
      subst hb
      exact (Array.getElem?_eq_some_iff.1 hg).1
  | ice t l => simp [MObj.live] at hl
  | gone => simp [MObj.live] at hl
  | map kk g e l =>
    obtain ⟨r', es, ck, h1, h2, _⟩ := h
    rw [h1] at hv
    cases hv
    simp [blkOf] at hb
    subst hb
    exact (Array.getElem?_eq_some_iff.1 h2).1
theorem ORel.kept {w w' : World} {S S' : Nat → Prop} {β β' : Beta} {o : Nat} {x : MObj El} {T : Nat → Prop} (h : ORel w S β o x) (hg : Grew w w' T) (hS : ∀ r, S r → ¬ T r) (hSl : ∀ r, S r → r < w.heap.size)
    (hT : ∀ r, at_ β o r → x.live = true → ¬ T r) (hSS : ∀ r, S r → S' r) (hb : ∀ o x, β o = some x → β' o = some x) : ORel w' S' β' o x := by
  have hv : ∀ v (d : D El), VRel w S β v d → VRel w' S' β' v d := fun v d k => k.mono (fun r hr => hg.block r (hSl r hr) (hS r hr)) hSS hb
  cases x with
  | box ty cells =>
    obtain ⟨r, C, h1, h2, h3, h4⟩ := h
    exact ⟨r, C, hb _ _ h1, (hg.block r (Array.getElem?_eq_some_iff.1 h2).1 (hT r ⟨_, h1, rfl⟩ rfl)).trans h2, h3, fun i v d p q => ⟨hv _ _ (h4 i v d p q).1, (h4 i v d p q).2⟩⟩
  | arr t l =>
    obtain ⟨v, vs, h1, h2, h3⟩ := h
    refine ⟨v, vs, hb _ _ h1, ⟨h2.1, ?_⟩, fun i x j d p q => ?_⟩
    · rcases h2.2 with hn | ⟨g, cap, cur, rfl, hbg, hgg, rest⟩
      · exact .inl hn
      · exact .inr ⟨g, cap, cur, rfl, hbg, (hg.block g (Array.getElem?_eq_some_iff.1 hgg).1 (hT g ⟨_, h1, rfl⟩ rfl)).trans hgg, rest⟩
    · obtain ⟨u, k1, k2⟩ := h3 i x j d p q
      exact ⟨u, k1, hv _ _ k2⟩
  | ice t l =>
    obtain ⟨v, vs, h1, h2, h3, h4⟩ := h
    refine ⟨v, vs, hb _ _ h1, ⟨h2.1, ?_⟩, fun i x j d p q => ?_, fun r hr => hSS r (h4 r hr)⟩
    · rcases h2.2 with hn | ⟨g, cap, cur, rfl, hbg, hgg, rest⟩
      · exact .inl hn
      · exact .inr ⟨g, cap, cur, rfl, hbg, (hg.block g (Array.getElem?_eq_some_iff.1 hgg).1 (hS g (h4 g rfl))).trans hgg, rest⟩
    · obtain ⟨u, k1, k2⟩ := h3 i x j d p q
      exact ⟨u, k1, hv _ _ k2⟩
  | gone => trivial
  | map kk g e l =>
    obtain ⟨r, es, ck, h1, h2, h3, h4⟩ := h
    exact ⟨r, es, ck, hb _ _ h1, (hg.block r (Array.getElem?_eq_some_iff.1 h2).1 (hT r ⟨_, h1, rfl⟩ rfl)).trans h2, h3, fun i x y p q => ⟨(h4 i x y p q).1, MVal.imp hv (h4 i x y p q).2⟩⟩
theorem Rel.on {X : Ctx El} {st st' : St El} {S : Nat → Prop} {β β' : Beta} {a : Act} {w w' : World} {T : Nat → Prop} (h : Rel X st S β a w) (hg : Grew w w' T)
    (hT : ∀ r, T r → ¬ S r ∧ (r < X.w0.heap.size → X.B r)) (ht : st'.tmps = st.tmps) (hb : ∀ o x, β o = some x → β' o = some x)
    (hfresh : ∀ o, st'.next ≤ o → β' o = none)
    (hdead : ∀ o, (look st'.objs o).live = false → look st'.objs o = .gone ∨ look st'.objs o = look st.objs o)
    (hobj : ∀ o, (look st'.objs o).live = true →
      (look st'.objs o = look st.objs o ∧ β' o = β o ∧ ∀ r, at_ β o r → ¬ T r) ∨
      (ORel w' S β' o (look st'.objs o) ∧ (∀ r, at_ β' o r → (w.heap.size ≤ r ∨ T r) ∧ ∀ o2, o2 ≠ o → (look st'.objs o2).live = true → at_ β' o2 r → False))) :
    Rel X st' S β' a w' := by
  have hST : ∀ r, S r → ¬ T r := fun r hr ht => (hT r ht).1 hr
  have hv : ∀ v (d : D El), VRel w S β v d → VRel w' S β' v d := fun v d k => k.mono (fun r hr => hg.block r (h.inside r hr) (hST r hr)) (fun _ h => h) hb
  refine ⟨by rw [ht]; exact h.size, fun i => by rw [ht]; exact hv _ _ (h.tmps i), h.defers, ?_, ?_, ?_, hfresh, fun r hr => Nat.lt_of_lt_of_le (h.inside r hr) hg.size, h.stay, hg.os.trans h.os, hg.tape.trans h.tape, hg.output.trans h.output, Nat.le_trans h.grown hg.size, ?_, h.old, fun i hi => by obtain ⟨v, a1, a2⟩ := h.root i hi; exact ⟨v, a1, hb _ _ a2⟩⟩
  · intro o
    cases hl : (look st'.objs o).live with
    | false =>
      rcases hdead o hl with hx | hx
      · rw [hx]; trivial
      · rw [hx] at hl ⊢
        exact (h.objs o).kept hg hST h.inside (fun r hr hl2 => by rw [hl] at hl2; cases hl2) (fun _ h => h) hb
    | true =>
      rcases hobj o hl with ⟨e1, e2, e3⟩ | ⟨e1, _⟩
      · rw [e1]
        exact (h.objs o).kept hg hST h.inside (fun r hr _ => e3 r hr) (fun _ h => h) hb
      · exact e1
  · intro o1 o2 v1 v2 r l1 l2 b1 b2 k1 k2
    refine Classical.byContradiction fun hne => ?_
    rcases hobj o1 l1 with ⟨e1, e2, e3⟩ | ⟨_, e⟩
    · rcases hobj o2 l2 with ⟨f1, f2, f3⟩ | ⟨_, f⟩
      · exact hne (h.inj o1 o2 v1 v2 r (by rw [← e1]; exact l1) (by rw [← f1]; exact l2) (e2 ▸ b1) (f2 ▸ b2) k1 k2)
      · exact (f r ⟨v2, b2, k2⟩).2 o1 hne l1 ⟨v1, b1, k1⟩
    · exact (e r ⟨v1, b1, k1⟩).2 o2 (fun q => hne q.symm) l2 ⟨v2, b2, k2⟩
  · intro o v r l b k
    rcases hobj o l with ⟨e1, e2, e3⟩ | ⟨_, e⟩
    · exact h.away o v r (by rw [← e1]; exact l) (e2 ▸ b) k
    · rcases (e r ⟨v, b, k⟩).1 with hn | ht
      · exact ⟨fun hs => absurd (h.inside r hs) (by omega), fun hlt => absurd h.grown (by omega)⟩
      · exact hT r ht
  · intro r hr hB
    have : ¬ T r := fun ht => hB ((hT r ht).2 hr)
    rw [hg.block r (Nat.lt_of_lt_of_le hr h.grown) this]
    exact h.frame r hr hB
def St.new (st : St El) (x : MObj El) : St El := { st with objs := (st.next, x) :: st.objs, next := st.next + 1 }
def upB (β : Beta) (o : Nat) (v : Value) : Beta := fun k => if k = o then some v else β k
theorem Rel.new {X : Ctx El} {st : St El} {S : Nat → Prop} {β : Beta} {a : Act} {w w' : World} {v : Value} {x : MObj El} (h : Rel X st S β a w) (hg : Grew w w' (fun _ => False))
    (hx : ORel w' S (upB β st.next v) st.next x) (hblk : ∀ r, blkOf v = some r → w.heap.size ≤ r) (hlive : x.live = false → x = .gone := by intro h; cases h) : Rel X (st.new x) S (upB β st.next v) a w' := by
  have hno := h.fresh st.next (Nat.le_refl _)
  refine h.on hg (fun r hr => hr.elim) rfl ?_ ?_ ?_ ?_
  · intro o y hy
    unfold upB
    rw [if_neg (fun e => by rw [e, hno] at hy; cases hy)]
    exact hy
  · intro o ho
    unfold upB
    have : st.next + 1 ≤ o := ho
    rw [if_neg (by omega)]
    exact h.fresh o (by omega)
  · intro o hl
    by_cases ho : o = st.next
    · subst ho
      left
      have e : look (st.new x).objs st.next = x := by show look (_ :: _) _ = _; rw [look_cons, if_pos rfl]
      rw [e] at hl ⊢
      exact hlive hl
    · right
      show look (_ :: _) _ = _
      rw [look_cons, if_neg (fun q => ho q.symm)]
  · intro o hl
    by_cases ho : o = st.next
    · subst ho
      refine .inr ⟨by show ORel _ _ _ _ (look (_ :: _) _); rw [look_cons, if_pos rfl]; exact hx, ?_⟩
      rintro r ⟨v', hv', hr⟩
      have e : v' = v := by unfold upB at hv'; rw [if_pos rfl] at hv'; exact (Option.some.inj hv').symm
      subst e
      refine ⟨.inl (hblk r hr), fun o2 hne l2 ⟨v2, b2, k2⟩ => ?_⟩
      have e2 : look (st.new x).objs o2 = look st.objs o2 := by show look (_ :: _) _ = _; rw [look_cons, if_neg (fun q => hne q.symm)]
      have e3 : upB β st.next v' o2 = β o2 := by unfold upB; rw [if_neg hne]
      rw [e2] at l2
      rw [e3] at b2
      have := (h.objs o2).lt l2 ⟨v2, b2, k2⟩
      have := hblk r hr
      omega
    · left
      refine ⟨by show look (_ :: _) _ = _; rw [look_cons, if_neg (fun q => ho q.symm)], by unfold upB; rw [if_neg ho], fun _ _ h => h⟩
def St.turn (st : St El) (o : Nat) (x : MObj El) : St El := { st with objs := (o, x) :: st.objs }
theorem Rel.turn {X : Ctx El} {st : St El} {S : Nat → Prop} {β : Beta} {a : Act} {w w' : World} {o r : Nat} {x : MObj El} (h : Rel X st S β a w) (hl : (look st.objs o).live = true) (ha : at_ β o r)
    (hg : Grew w w' (fun k => k = r)) (hx : ORel w' S β o x) (hlive : x.live = false → x = .gone := by intro h; cases h) : Rel X (st.turn o x) S β a w' := by
  obtain ⟨v, hv, hb⟩ := ha
  refine h.on hg (fun k hk => by subst hk; exact h.away o v k hl hv hb) rfl (fun _ _ h => h) h.fresh ?_ ?_
  · intro o2 hl2
    by_cases ho : o2 = o
    · subst ho
      left
      have e : look (st.turn o2 x).objs o2 = x := by show look (_ :: _) _ = _; rw [look_cons, if_pos rfl]
      rw [e] at hl2 ⊢
      exact hlive hl2
    · right
      show look (_ :: _) _ = _
      rw [look_cons, if_neg (fun q => ho q.symm)]
  intro o2 hl2
  by_cases ho : o2 = o
  · subst ho
    refine .inr ⟨by show ORel _ _ _ _ (look (_ :: _) _); rw [look_cons, if_pos rfl]; exact hx, ?_⟩
    rintro k ⟨v2, hv2, hk⟩
    rw [hv] at hv2
    cases hv2
    rw [hb] at hk
    cases hk
    refine ⟨.inr rfl, fun o3 hne l3 ⟨v3, b3, k3⟩ => ?_⟩
    have e3 : look (st.turn o2 x).objs o3 = look st.objs o3 := by show look (_ :: _) _ = _; rw [look_cons, if_neg (fun q => hne q.symm)]
    rw [e3] at l3
    exact hne (h.inj o3 o2 v3 v r l3 hl b3 hv k3 hb)
  · have e3 : look (st.turn o x).objs o2 = look st.objs o2 := by show look (_ :: _) _ = _; rw [look_cons, if_neg (fun q => ho q.symm)]
    refine .inl ⟨e3, rfl, fun k ⟨v3, b3, k3⟩ hk => ?_⟩
    subst hk
    rw [e3] at hl2
    exact ho (h.inj o2 o v3 v k hl2 hl b3 hv k3 hb)
def St.pass (st : St El) (o : Nat) (x : MObj El) : St El := { st with objs := (st.next, x) :: (o, .gone) :: st.objs, next := st.next + 1 }
theorem Rel.pass {X : Ctx El} {st : St El} {S : Nat → Prop} {β : Beta} {a : Act} {w w' : World} {o : Nat} {v0 v : Value} {x : MObj El} (h : Rel X st S β a w) (hl : (look st.objs o).live = true) (hv0 : β o = some v0)
    (hg : Grew w w' (fun k => blkOf v0 = some k)) (hx : ORel w' S (upB β st.next v) st.next x) (hblk : ∀ r, blkOf v = some r → w.heap.size ≤ r ∨ blkOf v0 = some r) (hlive : x.live = false → x = .gone := by intro h; cases h) : Rel X (st.pass o x) S (upB β st.next v) a w' := by
  have hno := h.fresh st.next (Nat.le_refl _)
  have hon : o ≠ st.next := fun e => by rw [e, hno] at hv0; cases hv0
  have lk : ∀ o2, o2 ≠ st.next → look (st.pass o x).objs o2 = if o = o2 then .gone else look st.objs o2 := fun o2 hne => by
    show look (_ :: _ :: _) _ = _
    rw [look_cons, if_neg (fun q => hne q.symm), look_cons]
  refine h.on hg (fun k hk => h.away o v0 k hl hv0 hk) rfl ?_ ?_ ?_ ?_
  · intro o y hy
    unfold upB
    rw [if_neg (fun e => by rw [e, hno] at hy; cases hy)]
    exact hy
  · intro o ho
    unfold upB
    have : st.next + 1 ≤ o := ho
    rw [if_neg (by omega)]
    exact h.fresh o (by omega)
  · intro o2 hl2
    by_cases ho : o2 = st.next
    · subst ho
      left
      have e : look (st.pass o x).objs st.next = x := by show look (_ :: _) _ = _; rw [look_cons, if_pos rfl]
      rw [e] at hl2 ⊢
      exact hlive hl2
    · rw [lk o2 ho]
      split
      · exact .inl rfl
      · exact .inr rfl
  · intro o2 hl2
    by_cases ho : o2 = st.next
    · subst ho
      refine .inr ⟨by show ORel _ _ _ _ (look (_ :: _) _); rw [look_cons, if_pos rfl]; exact hx, ?_⟩
      rintro r ⟨v', hv', hr⟩
      have e : v' = v := by unfold upB at hv'; rw [if_pos rfl] at hv'; exact (Option.some.inj hv').symm
      subst e
      refine ⟨hblk r hr, fun o3 hne l3 ⟨v3, b3, k3⟩ => ?_⟩
      rw [lk o3 hne] at l3
      have e3 : upB β st.next v' o3 = β o3 := by unfold upB; rw [if_neg hne]
      rw [e3] at b3
      split at l3
      · cases l3
      · rename_i hno3
        rcases hblk r hr with hn | h0
        · have := (h.objs o3).lt l3 ⟨v3, b3, k3⟩
          omega
        · exact hno3 (h.inj o o3 v0 v3 r hl l3 hv0 b3 h0 k3)
    · rw [lk o2 ho] at hl2 ⊢
      split at hl2
      · cases hl2
      · rename_i hno2
        rw [if_neg hno2]
        refine .inl ⟨rfl, by unfold upB; rw [if_neg ho], fun k ⟨v3, b3, k3⟩ hk => ?_⟩
        exact hno2 (h.inj o o2 v0 v3 k hl hl2 hv0 b3 hk k3)
end Go.M
namespace Go.M
set_option linter.unusedVariables false
set_option linter.unusedSectionVars false
open Uni
variable {El : Nat → Type} [Uni El] [UniOK El] {R : Type}
theorem add_off (g o j : Nat) : (⟨g, o, none⟩ : Addr).add j = ⟨g, o + j, none⟩ := by unfold Addr.add; split <;> simp_all
def mderef (st : St El) (d : D El) (K : List (D El) → Nat → Option R) : Option R :=
  match d with
  | .ptr o k i c =>
    match look st.objs o with
    | .box _ cells => cond (Nat.beq k 0) (K cells c) none
    | .arr t l => cond (Nat.beq k (width El t)) ((l[i]?).bind fun x => K (enc t x) c) none
    | .ice t l => cond (Nat.beq k (width El t)) ((l[i]?).bind fun x => K (enc t x) c) none
    | _ => none
  | .fptr t l i c => (l[i]?).bind fun x => K (enc t x) c
  | _ => none
theorem beq_true {a b : Nat} (h : Nat.beq a b = true) : a = b := Nat.eq_of_beq_eq_true h
theorem cond_some {b : Bool} {x : Option R} {r : R} (h : cond b x none = some r) : b = true ∧ x = some r := by
  cases b with
  | false => cases h
  | true => exact ⟨rfl, h⟩
theorem bind_some' {α : Type} {x : Option α} {f : α → Option R} {r : R} (h : x.bind f = some r) : ∃ y, x = some y ∧ f y = some r := by
  cases x with
  | none => cases h
  | some y => exact ⟨y, rfl, h⟩
def InRow (w : World) (S : Nat → Prop) (β : Beta) (v : Value) (row : List (D El)) (c : Nat) : Prop :=
  ∃ g off C ty fr, v = .pointer (some ⟨g, off + c, none⟩) ∧ w.heap[g]? = some (.cells C ty fr) ∧ ∀ (j : Nat) d, row[j]? = some d → ∃ u, C[off + j]? = some u ∧ VRel w S β u d ∧ d.cell = true
theorem owned_row {w : World} {S : Nat → Prop} {β : Beta} {t : Nat} {l : List (El t)} {v : Value} {vs : List Value} (h2 : w.ownsRow 0 t (width El t) v l.length vs) (h3 : RowsRel w S β t l vs) {r i : Nat} (hb : baseOf v = some r) {x : El t} (hx : l[i]? = some x) (c : Nat) :
    InRow w S β (.pointer (some ⟨r, i * width El t + c, none⟩)) (enc t x) c := by
  rcases h2.2 with ⟨rfl, _⟩ | ⟨g, cap, cur, rfl, _, hg, hn, _, hcs, htake⟩
  · simp [baseOf] at hb
  · simp [baseOf] at hb
    subst hb
    refine ⟨g, i * width El t, cur, t, (0, 0), rfl, hg, fun j d hd => ?_⟩
    obtain ⟨u, k1, k2⟩ := h3 i x j d hx hd
    refine ⟨u, ?_, k2, enc_cell t x d (List.mem_of_getElem? hd)⟩
    rw [← htake, List.getElem?_take] at k1
    split at k1
    · simpa using k1
    · cases k1
theorem mderef_sound {st : St El} {d : D El} {K : List (D El) → Nat → Option R} {r : R} (h : mderef st d K = some r) : ∃ row c, K row c = some r ∧
    ∀ {X : Ctx El} {S β a w v}, Rel X st S β a w → VRel w S β v d → InRow w S β v row c := by
  unfold mderef at h
  split at h
  · rename_i o k i c
    split at h
    · rename_i ty cells hlo
      obtain ⟨hk, h'⟩ := cond_some h
      clear h
      obtain rfl := beq_true hk
      refine ⟨_, _, h', fun {X S β a w v} hr hv => ?_⟩
      have ho := hr.objs o
      rw [hlo] at ho
      obtain ⟨r', C, h1, h2, h3, h4⟩ := ho
      cases hv with
      | ptr _ _ _ _ r base hb hbase =>
        rw [h1] at hb
        cases hb
        simp [baseOf] at hbase
        subst hbase
        refine ⟨r', 0, C, ty, (0, 0), by simp, h2, fun j d hd => ?_⟩
        have hj : j < C.size := by rw [h3]; exact (List.getElem?_eq_some_iff.1 hd).1
        have he : C[j]? = some C[j] := by simp [hj]
        exact ⟨C[j], by rw [Nat.zero_add]; exact he, h4 j _ d he hd⟩
    · rename_i t l hlo
      obtain ⟨hk, h0⟩ := cond_some h
      clear h
      obtain rfl := beq_true hk
      obtain ⟨x, hx, h'⟩ := bind_some' h0
      refine ⟨_, _, h', fun {X S β a w v} hr hv => ?_⟩
      have ho := hr.objs o
      rw [hlo] at ho
      obtain ⟨v0, vs, h1, h2, h3⟩ := ho
      cases hv with
      | ptr _ _ _ _ r base hb hbase =>
        rw [h1] at hb
        cases hb
        exact owned_row h2 h3 hbase hx c
    · rename_i t l hlo
      obtain ⟨hk, h0⟩ := cond_some h
      clear h
      obtain rfl := beq_true hk
      obtain ⟨x, hx, h'⟩ := bind_some' h0
      refine ⟨_, _, h', fun {X S β a w v} hr hv => ?_⟩
      have ho := hr.objs o
      rw [hlo] at ho
      obtain ⟨v0, vs, h1, h2, h3, _⟩ := ho
      cases hv with
      | ptr _ _ _ _ r base hb hbase =>
        rw [h1] at hb
        cases hb
        exact owned_row h2 h3 hbase hx c
    · cases h
  · rename_i t l i c
    obtain ⟨x, hx, h'⟩ := bind_some' h
    refine ⟨_, _, h', fun {X S β a w v} hr hv => ?_⟩
    cases hv with
    | fptr r o _ _ _ _ C ty fr vs h1 h2 h3 h4 =>
      exact ⟨r, o + i * width El t, C, ty, fr, rfl, h2, fun j d hd => ⟨vs i j, h3 i x j d hx hd, h4 i x j d hx hd, enc_cell t x d (List.mem_of_getElem? hd)⟩⟩
  · cases h
def mpart (P : Program) (t : Nat) (row : List (D El)) (c : Nat) (K : D El → Option R) : Option R :=
  match P.info? t, P.underlying t with
  | some i, some (.struct _) => cond (Nat.ble (c + i.size) row.length) (K (.agg ((row.drop c).take i.size))) none
  | some i, some (.array _ _) => cond (Nat.ble (c + i.size) row.length) (K (.agg ((row.drop c).take i.size))) none
  | some _, some _ => match row[c]? with | some d => K d | none => none
  | _, _ => none
def Stay (w w' : World) : Prop := ∀ r, r < w.heap.size → w'.heap[r]? = w.heap[r]?
theorem Stay.refl (w : World) : Stay w w := fun _ _ => rfl
theorem Stay.get {w w' : World} (h : Stay w w') {g : Nat} {o : Obj} (hg : w.heap[g]? = some o) : w'.heap[g]? = some o := (h g (Array.getElem?_eq_some_iff.1 hg).1).trans hg
theorem load_agg {P : Program} {w : World} {S : Nat → Prop} {β : Beta} {v : Value} {row : List (D El)} {c n : Nat} (hr : InRow w S β v row c) (hl : c + n ≤ row.length) :
    ∃ ad vs, v = .pointer (some ad) ∧ (∀ w', Stay w w' → (loadCells ad n).run P w' = .ok vs w') ∧ VRel w S β (.agg vs) (.agg ((row.drop c).take n)) := by
  obtain ⟨g, off, C, ty, fr, rfl, hg, hc⟩ := hr
  rcases Nat.eq_zero_or_pos n with rfl | hn
  · exact ⟨_, #[], rfl, fun _ _ => rfl, .agg _ _ (by simp) (fun i v d h1 h2 => by simp at h1) (fun d hd => by simp at hd)⟩
  have hsz : off + c + n ≤ C.size := by
    obtain ⟨u, hu, _⟩ := hc (c + n - 1) row[c + n - 1] (by simp)
    have := (Array.getElem?_eq_some_iff.1 hu).1
    omega
  have hlen : ((C.toList.drop (off + c)).take n).length = n := by simp; omega
  have hrun := fun (w' : World) (hw : Stay w w') => run_loadCells_list (P := P) w' ⟨g, off + c, none⟩ ((C.toList.drop (off + c)).take n) (fun j v hv => by
    rw [add_off, cell_of_row w' g _ C ty fr (hw.get hg)]
    rw [List.getElem?_take] at hv
    split at hv
    · simpa using hv
    · cases hv)
  rw [hlen] at hrun
  refine ⟨_, _, rfl, hrun, .agg _ _ (by simp; omega) (fun i v d h1 h2 => ?_) (fun d hd => ?_)⟩
  · rw [List.getElem?_take] at h2
    split at h2
    · rename_i hi
      rw [List.getElem?_drop] at h2
      obtain ⟨u, hu, hv, _⟩ := hc (c + i) d h2
      simp only [List.getElem?_toArray] at h1
      rw [List.getElem?_take, if_pos hi, List.getElem?_drop, Array.getElem?_toList] at h1
      rw [← Nat.add_assoc, h1] at hu
      cases hu
      exact hv
    · cases h2
  · obtain ⟨i, hi⟩ := List.mem_iff_getElem?.1 hd
    rw [List.getElem?_take] at hi
    split at hi
    · rw [List.getElem?_drop] at hi
      obtain ⟨_, _, _, h⟩ := hc _ _ hi
      exact h
    · cases hi
theorem mpart_sound {P : Program} {t : Nat} {row : List (D El)} {c : Nat} {K : D El → Option R} {r : R} (h : mpart P t row c K = some r) : ∃ d, K d = some r ∧
    ∀ {w S β v}, InRow w S β v row c → ∃ u, (∀ w', Stay w w' → (Instr.loadAt t v).run P w' = .ok u w') ∧ VRel w S β u d := by
  unfold mpart at h
  split at h
  · rename_i i fs hi hu
    obtain ⟨hb, h'⟩ := cond_some h
    refine ⟨_, h', fun {w S β v} hr => ?_⟩
    obtain ⟨ad, vs, rfl, hrun, hv⟩ := load_agg (P := P) hr (Nat.le_of_ble_eq_true hb)
    exact ⟨_, fun w' hw => by simp [Instr.loadAt, Instr.sureAddr, loadVar, isAgg, run_underlying hu, sizeOf, typeInfo, hi, hrun w' hw], hv⟩
  · rename_i i n e hi hu
    obtain ⟨hb, h'⟩ := cond_some h
    refine ⟨_, h', fun {w S β v} hr => ?_⟩
    obtain ⟨ad, vs, rfl, hrun, hv⟩ := load_agg (P := P) hr (Nat.le_of_ble_eq_true hb)
    exact ⟨_, fun w' hw => by simp [Instr.loadAt, Instr.sureAddr, loadVar, isAgg, run_underlying hu, sizeOf, typeInfo, hi, hrun w' hw], hv⟩
  · rename_i i desc hns hna hi hu
    split at h
    · rename_i d hd
      refine ⟨_, h, fun {w S β v} hr => ?_⟩
      obtain ⟨g, off, C, ty, fr, rfl, hg, hc⟩ := hr
      obtain ⟨u, hu2, hv, _⟩ := hc c d hd
      refine ⟨u, ?_, hv⟩
      intro w' hw
      have hcell : w'.cell? ⟨g, off + c, none⟩ = some u := (cell_of_row w' g _ C ty fr (hw.get hg)).trans hu2
      have hagg : (isAgg t).run P w' = .ok false w' := by
        simp only [isAgg, Sem.run_bind, run_underlying hu, Result.andThen_ok]
        rfl
      simp [Instr.loadAt, Instr.sureAddr, loadVar, hagg, load]
      simp [Sem.run, hcell]
    · cases h
  · cases h
end Go.M
namespace Go.M
set_option linter.unusedVariables false
set_option linter.unusedSectionVars false
open Uni
variable {El : Nat → Type} [Uni El] [UniOK El] {R : Type}
def splice {α : Type} : List α → Nat → List α → List α
  | d :: r, c + 1, vs => d :: splice r c vs
  | _ :: r, 0, v :: vs => v :: splice r 0 vs
  | l, _, _ => l
theorem splice_eq {α : Type} : ∀ (l : List α) (c : Nat) (vs : List α), c + vs.length ≤ l.length → splice l c vs = l.take c ++ vs ++ l.drop (c + vs.length) := by
  intro l
  induction l with
  | nil => intro c vs h; simp at h; obtain ⟨rfl, rfl⟩ := h; simp [splice]
  | cons d r ih =>
    intro c vs h
    cases c with
    | succ c =>
      simp only [List.length_cons] at h
      simp only [splice, ih c vs (by omega)]
      rw [show c + 1 + vs.length = (c + vs.length) + 1 by omega]
      simp
    | zero =>
      cases vs with
      | nil => simp [splice]
      | cons v vs =>
        simp only [List.length_cons] at h
        simp only [splice, ih 0 vs (by omega)]
        simp
theorem splice_length {α : Type} {l : List α} {c : Nat} {vs : List α} (h : c + vs.length ≤ l.length) : (splice l c vs).length = l.length := by
  rw [splice_eq _ _ _ h]; simp; omega
theorem splice_get {α : Type} {l : List α} {c : Nat} {vs : List α} (h : c + vs.length ≤ l.length) (j : Nat) :
    (splice l c vs)[j]? = if j < c then l[j]? else if j < c + vs.length then vs[j - c]? else l[j]? := by
  rw [splice_eq _ _ _ h]
  have h1 : (l.take c).length = c := by simp; omega
  rw [List.append_assoc, List.getElem?_append, h1]
  by_cases hj : j < c
  · rw [if_pos hj, if_pos hj, List.getElem?_take, if_pos hj]
  · rw [if_neg hj, if_neg hj, List.getElem?_append]
    by_cases hj2 : j < c + vs.length
    · rw [if_pos (by omega), if_pos hj2]
    · rw [if_neg (by omega), if_neg hj2, List.getElem?_drop]
      congr 1
      omega
theorem Rel.newBox {X : Ctx El} {st : St El} {S : Nat → Prop} {β : Beta} {a : Act} {w : World} (h : Rel X st S β a w) (C : Array Value) (ty : Nat) (ds : List (D El)) (hs : C.size = ds.length)
    (hc : ∀ (i : Nat) v d, C[i]? = some v → ds[i]? = some d → VRel w S β v d ∧ d.cell = true) :
    Rel X (st.new (.box ty ds)) S (upB β st.next (.pointer (some ⟨w.heap.size, 0, none⟩))) a (w.alloc (.cells C ty)) ∧
    VRel (w.alloc (.cells C ty)) S (upB β st.next (.pointer (some ⟨w.heap.size, 0, none⟩))) (.pointer (some ⟨w.heap.size, 0, none⟩)) (.ptr st.next 0 0 0 : D El) := by
  have hb : ∀ o x, β o = some x → upB β st.next (.pointer (some ⟨w.heap.size, 0, none⟩)) o = some x := fun o x hx => by
    unfold upB
    rw [if_neg (fun e => by rw [e, h.fresh _ (Nat.le_refl _)] at hx; cases hx)]
    exact hx
  have hu : upB β st.next (.pointer (some ⟨w.heap.size, 0, none⟩)) st.next = some (.pointer (some ⟨w.heap.size, 0, none⟩)) := by unfold upB; rw [if_pos rfl]
  refine ⟨h.new (Grew.alloc w _) ⟨w.heap.size, C, hu, heap_alloc_new w _, hs, fun i v d p q => ⟨?_, (hc i v d p q).2⟩⟩ (fun r hr => by simp [blkOf] at hr; omega), ?_⟩
  · exact (hc i v d p q).1.mono (fun r hr => heap_alloc_old w _ r (h.inside r hr)) (fun _ h => h) hb
  · have := VRel.ptr (w := w.alloc (.cells C ty)) (S := S) (El := El) st.next 0 0 0 w.heap.size _ hu rfl
    simpa using this
theorem Rel.newArr {X : Ctx El} {st : St El} {S : Nat → Prop} {β : Beta} {a : Act} {w w' : World} (h : Rel X st S β a w) (hg : Grew w w' (fun _ => False)) {t n : Nat} {l : List (El t)} {p : Option Addr} {len cap : Nat} {vs : List Value}
    (ho : w'.ownsRow 0 t (width El t) (.slice p len cap) l.length vs) (hr : RowsRel w S β t l vs) (hblk : ∀ r, blkOf (.slice p len cap) = some r → w.heap.size ≤ r) :
    Rel X (st.new (.arr t l)) S (upB β st.next (.slice p len cap)) a w' ∧ VRel w' S (upB β st.next (.slice p len cap)) (.slice p len cap) (.all st.next (width El t) : D El) := by
  have hb : ∀ o x, β o = some x → upB β st.next (.slice p len cap) o = some x := fun o x hx => by
    unfold upB
    rw [if_neg (fun e => by rw [e, h.fresh _ (Nat.le_refl _)] at hx; cases hx)]
    exact hx
  have hu : upB β st.next (.slice p len cap) st.next = some (.slice p len cap) := by unfold upB; rw [if_pos rfl]
  refine ⟨h.new hg ⟨_, vs, hu, ho, fun i x j d p q => ?_⟩ hblk, .all _ _ _ _ _ hu⟩
  obtain ⟨u, k1, k2⟩ := hr i x j d p q
  exact ⟨u, k1, k2.mono (fun r hr => hg.block r (h.inside r hr) (fun e => e)) (fun _ h => h) hb⟩
def mzero (P : Program) (t : Nat) : Option (List (D El)) :=
  match P.info? t with
  | some i => match i.zero with
    | some z => cond ((z.cells.toList.map ofVal0 : List (D El)).all D.cell) (some (z.cells.toList.map ofVal0)) none
    | none => none
  | none => none
theorem mzero_sound {P : Program} {t : Nat} {ds : List (D El)} (h : mzero P t = some ds) : ∃ i z, P.info? t = some i ∧ i.zero = some z ∧ z.cells.size = ds.length ∧
    (∀ w, (zeroValue t).run P w = .ok z w) ∧ ∀ w S β (j : Nat) v d, z.cells[j]? = some v → ds[j]? = some d → VRel w S β v d ∧ d.cell = true := by
  unfold mzero at h
  split at h
  · rename_i i hi
    split at h
    · rename_i z hz
      cases hc : (z.cells.toList.map ofVal0 : List (D El)).all D.cell with
      | false => rw [hc] at h; cases h
      | true =>
        rw [hc] at h
        obtain rfl := Option.some.inj h
        refine ⟨i, z, hi, hz, by simp, fun w => by simp [zeroValue, typeInfo, hi, hz], fun w S β j v d h1 h2 => ⟨?_, List.all_eq_true.1 hc d (List.mem_of_getElem? h2)⟩⟩
        rw [List.getElem?_map, Array.getElem?_toList, h1] at h2
        cases h2
        exact ofVal0_rel w S β v
    · cases h
  · cases h
theorem alloc_sound {P : Program} {o : Oper} {t : Nat} (ho : o.op = .alloc t) {st : St El} {ds : List (D El)} (hz : mzero P t = some ds) {X : Ctx El} {S : Nat → Prop} {β : Beta} {a : Act} {w : World} (h : Rel X st S β a w) :
    Goes P X o ((st.new (.box t ds)).put o.dst (.ptr st.next 0 0 0)) a w := by
  obtain ⟨i, z, hi, hz1, hs, hrun, hc⟩ := mzero_sound hz
  obtain ⟨h1, h2⟩ := h.newBox z.cells t ds hs (fun j v d p q => hc w S β j v d p q)
  intro Q
  have e : (execOp a.eval o).run P w = .ok (.value (.pointer (some ⟨w.heap.size, 0, none⟩))) (w.alloc (.cells z.cells t)) := by
    simp [execOp, ho, Instr.alloc, hrun, newVar, newRow, newObj]
    rfl
  unfold Oper.wp
  rw [e]
  exact ⟨S, _, h1.put o.dst h2⟩
def cellsD : D El → Option (List (D El))
  | .agg l => some l
  | d => cond d.cell (some [d]) none
theorem cellsD_sound {d : D El} {ds : List (D El)} (h : cellsD d = some ds) {w : World} {S : Nat → Prop} {β : Beta} {v : Value} (hv : VRel w S β v d) :
    v.cells.size = ds.length ∧ ∀ (i : Nat) u e, v.cells[i]? = some u → ds[i]? = some e → VRel w S β u e ∧ e.cell = true := by
  unfold cellsD at h
  split at h
  · rename_i l
    obtain rfl := Option.some.inj h
    cases hv with
    | agg vs _ h1 h2 h3 => exact ⟨h1, fun i u e p q => ⟨h2 i u e p q, h3 e (List.mem_of_getElem? q)⟩⟩
  · rename_i hne
    obtain ⟨hc, h'⟩ := cond_some h
    obtain rfl := Option.some.inj h'
    have hcells : v.cells = #[v] := by
      cases hv <;> first | rfl | (simp [D.cell] at hc)
    rw [hcells]
    refine ⟨rfl, fun i u e p q => ?_⟩
    cases i with
    | zero => simp at p q; subst p q; exact ⟨hv, hc⟩
    | succ i => simp at q
theorem box_sound {P : Program} {o : Oper} {t : Nat} {x : Operand} (ho : o.op = .box t x) {st : St El} {ds : List (D El)} (hz : cellsD (ev st x) = some ds) {X : Ctx El} {S : Nat → Prop} {β : Beta} {a : Act} {w : World} (h : Rel X st S β a w) :
    Goes P X o ((st.new (.box t ds)).put o.dst (.ptr st.next 0 0 0)) a w := by
  obtain ⟨hs, hc⟩ := cellsD_sound hz (ev_rel h x)
  obtain ⟨h1, h2⟩ := h.newBox (a.eval x).cells t ds hs hc
  intro Q
  have e : (execOp a.eval o).run P w = .ok (.value (.pointer (some ⟨w.heap.size, 0, none⟩))) (w.alloc (.cells (a.eval x).cells t)) := by
    simp [execOp, ho, Instr.box, newVar, newRow, newObj]
    rfl
  unfold Oper.wp
  rw [e]
  exact ⟨S, _, h1.put o.dst h2⟩
def mstore (st : St El) (d : D El) (vs : List (D El)) (K : St El → Option R) : Option R :=
  match d with
  | .ptr o k i c =>
    match look st.objs o with
    | .box ty cells => cond (Nat.beq k 0 && Nat.ble (c + vs.length) cells.length) (K (st.turn o (.box ty (splice cells c vs)))) none
    | .arr t l => cond (Nat.beq k (width El t) && Nat.ble (c + vs.length) (width El t)) ((l[i]?).bind fun x => (dec t (splice (enc t x) c vs)).bind fun y => K (st.turn o (.arr t (l.set i y)))) none
    | _ => none
  | _ => none
theorem store_rel {C : Array Value} {cells ds : List (D El)} {us : List Value} {c : Nat} {w' : World} {S : Nat → Prop} {β : Beta} (hs : C.size = cells.length) (hl : c + ds.length ≤ cells.length) (hus : us.length = ds.length)
    (hc : ∀ (i : Nat) v d, C[i]? = some v → cells[i]? = some d → VRel w' S β v d ∧ d.cell = true) (hd : ∀ (i : Nat) u e, us[i]? = some u → ds[i]? = some e → VRel w' S β u e ∧ e.cell = true) :
    ∀ (i : Nat) v d, (splice C.toList c us).toArray[i]? = some v → (splice cells c ds)[i]? = some d → VRel w' S β v d ∧ d.cell = true := by
  intro i v d h1 h2
  rw [List.getElem?_toArray, splice_get (by simp; omega)] at h1
  rw [splice_get hl] at h2
  rw [hus] at h1
  by_cases hi : i < c
  · rw [if_pos hi] at h1 h2
    rw [Array.getElem?_toList] at h1
    exact hc i v d h1 h2
  · rw [if_neg hi] at h1 h2
    by_cases hi2 : i < c + ds.length
    · rw [if_pos hi2] at h1 h2
      exact hd _ v d h1 h2
    · rw [if_neg hi2] at h1 h2
      rw [Array.getElem?_toList] at h1
      exact hc i v d h1 h2
theorem Grew.setRow (w : World) (g : Nat) (cs : Array Value) : Grew w (w.setRow g cs) (fun k => k = g) :=
  ⟨rfl, rfl, rfl, by simp [World.setRow], fun k _ hk => setRow_other w g k cs hk⟩
theorem mstore_sound {P : Program} {st : St El} {d : D El} {ds : List (D El)} {K : St El → Option R} {r : R} (h : mstore st d ds K = some r) : ∃ st', K st' = some r ∧
    ∀ {X : Ctx El} {S β a w v} (us : List Value), Rel X st S β a w → VRel w S β v d → us.length = ds.length → (∀ (i : Nat) u e, us[i]? = some u → ds[i]? = some e → VRel w S β u e ∧ e.cell = true) →
      ∃ ad w', v = .pointer (some ad) ∧ (storeCells ad us).run P w = .ok () w' ∧ Rel X st' S β a w' := by
  unfold mstore at h
  split at h
  · rename_i o k i c
    split at h
    · rename_i ty cells hlo
      obtain ⟨hk, h'⟩ := cond_some h
      clear h
      obtain ⟨hk1, hk2⟩ := Bool.and_eq_true_iff.1 hk
      obtain rfl := beq_true hk1
      have hl := Nat.le_of_ble_eq_true hk2
      refine ⟨_, h', fun {X S β a w v} us hr hv hus hd => ?_⟩
      have ho := hr.objs o
      rw [hlo] at ho
      obtain ⟨g, C, h1, h2, h3, h4⟩ := ho
      cases hv with
      | ptr _ _ _ _ r base hb hbase =>
        rw [h1] at hb
        cases hb
        simp [baseOf] at hbase
        subst hbase
        have h1c : ∀ u ∈ us, u.oneCell' = true := fun u hu => by
          obtain ⟨j, hj⟩ := List.mem_iff_getElem?.1 hu
          have hlt : j < ds.length := by rw [← hus]; exact (List.getElem?_eq_some_iff.1 hj).1
          obtain ⟨k1, k2⟩ := hd j u ds[j] hj (by simp [hlt])
          exact k1.one k2
        have hst := run_storeCells_at P g c ty us 0 C w h2 (by omega) h1c
        simp only [Nat.add_zero] at hst
        rw [← splice_eq _ _ _ (by simp; omega)] at hst
        refine ⟨_, w.setRow g (splice C.toList c us).toArray, rfl, by rw [show i * 0 + c = c by omega]; exact hst, ?_⟩
        refine hr.turn (r := g) (by rw [hlo]; rfl) ⟨_, h1, rfl⟩ (Grew.setRow w g _) ⟨g, _, h1, setRow_heap w g C _ ty _ h2, ?_, ?_⟩
        · rw [splice_length hl, ← h3, List.size_toArray, splice_length (by simp; omega)]
          simp
        · have hb2 : ∀ r, S r → (w.setRow g (splice C.toList c us).toArray).heap[r]? = w.heap[r]? := fun r hr2 =>
            setRow_other w g r _ (fun e => by subst e; exact (hr.away o _ r (by rw [hlo]; rfl) h1 rfl).1 hr2)
          exact store_rel h3 hl hus (fun i v d p q => ⟨(h4 i v d p q).1.mono hb2 (fun _ h => h) (fun _ _ h => h), (h4 i v d p q).2⟩) (fun i u e p q => ⟨(hd i u e p q).1.mono hb2 (fun _ h => h) (fun _ _ h => h), (hd i u e p q).2⟩)
    · rename_i t l hlo
      obtain ⟨hk, h0⟩ := cond_some h
      clear h
      obtain ⟨hk1, hk2⟩ := Bool.and_eq_true_iff.1 hk
      obtain rfl := beq_true hk1
      have hl := Nat.le_of_ble_eq_true hk2
      obtain ⟨x, hx, h1⟩ := bind_some' h0
      obtain ⟨y, hy, h'⟩ := bind_some' h1
      refine ⟨_, h', fun {X S β a w v} us hr hv hus hd => ?_⟩
      have ho := hr.objs o
      rw [hlo] at ho
      obtain ⟨v0, vs, g1, g2, g3⟩ := ho
      cases hv with
      | ptr _ _ _ _ g base hb hbase =>
        rw [g1] at hb
        cases hb
        rcases g2.2 with ⟨rfl, _⟩ | ⟨g', cap, cur, rfl, hbg, hg, hn, hcm, hcs, htake⟩
        · simp [baseOf] at hbase
        simp [baseOf] at hbase
        subst hbase
        have hil : i < l.length := (List.getElem?_eq_some_iff.1 hx).1
        have hik : i * width El t + width El t ≤ l.length * width El t := by
          have : (i + 1) * width El t ≤ l.length * width El t := Nat.mul_le_mul_right _ hil
          rwa [Nat.succ_mul] at this
        have hcap : l.length * width El t ≤ cap * width El t := Nat.mul_le_mul_right _ hn
        have h1c : ∀ u ∈ us, u.oneCell' = true := fun u hu => by
          obtain ⟨j, hj⟩ := List.mem_iff_getElem?.1 hu
          have hlt : j < ds.length := by rw [← hus]; exact (List.getElem?_eq_some_iff.1 hj).1
          obtain ⟨k1, k2⟩ := hd j u ds[j] hj (by simp [hlt])
          exact k1.one k2
        have hst := run_storeCells_at P g' (i * width El t + c) t us 0 cur w hg (by omega) h1c
        simp only [Nat.add_zero] at hst
        rw [← splice_eq _ _ _ (by simp; omega)] at hst
        refine ⟨_, w.setRow g' (splice cur.toList (i * width El t + c) us).toArray, rfl, hst, ?_⟩
        have hlen : vs.length = l.length * width El t := g2.1
        have hfit : i * width El t + c + us.length ≤ cur.toList.length := by simp; omega
        have hfit2 : i * width El t + c + us.length ≤ vs.length := by omega
        have hvs : (splice cur.toList (i * width El t + c) us).take (l.length * width El t) = splice vs (i * width El t + c) us := by
          apply List.ext_getElem?
          intro j
          rw [splice_get hfit2, List.getElem?_take, splice_get hfit, ← htake, List.getElem?_take]
          have e1 : us[j - (i * width El t + c)]? = us[j - (i * width El t + c)]? := rfl
          by_cases hj : j < l.length * width El t
          · rw [if_pos hj, if_pos hj]
          · rw [if_neg hj, if_neg (by omega), if_neg (by omega), if_neg hj]
        have hb2 : ∀ r, S r → (w.setRow g' (splice cur.toList (i * width El t + c) us).toArray).heap[r]? = w.heap[r]? := fun r hr2 =>
          setRow_other w g' r _ (fun e => by subst e; exact (hr.away o _ r (by rw [hlo]; rfl) g1 rfl).1 hr2)
        have mv : ∀ u (e : D El), VRel w S β u e → VRel (w.setRow g' (splice cur.toList (i * width El t + c) us).toArray) S β u e := fun u e q => q.mono hb2 (fun _ h => h) (fun _ _ h => h)
        refine hr.turn (r := g') (by rw [hlo]; rfl) ⟨_, g1, rfl⟩ (Grew.setRow w g' _) ⟨_, splice vs (i * width El t + c) us, g1, ?_, ?_⟩
        · rw [List.length_set]
          refine ⟨by rw [splice_length hfit2]; exact hlen, .inr ⟨g', cap, _, rfl, hbg, setRow_heap w g' cur _ t _ hg, hn, hcm, ?_, ?_⟩⟩
          · rw [List.size_toArray, splice_length hfit]
            simpa using hcs
          · rw [List.toList_toArray]
            exact hvs
        · intro i2 x2 j e q1 q2
          rw [splice_get hfit2]
          by_cases hi2 : i2 = i
          · subst hi2
            rw [List.getElem?_set_self (by exact hil)] at q1
            cases q1
            have hj : j < width El t := by rw [← enc_len t y]; exact (List.getElem?_eq_some_iff.1 q2).1
            have hds := UniOK.dec_len t _ y hy
            have hlx : c + ds.length ≤ (enc t x).length := by rw [enc_len]; exact hl
            have hj2 : j < (splice (enc t x) c ds).length := by rw [hds]; exact hj
            have hget : (splice (enc t x) c ds)[j]? = some (splice (enc t x) c ds)[j] := by simp [hj2]
            have key : ∀ u, VRel w S β u (splice (enc t x) c ds)[j] → VRel (w.setRow g' (splice cur.toList (i2 * width El t + c) us).toArray) S β u e := fun u hu => mv u e (UniOK.dec_rel t _ y hy j _ e hget q2 w S β u hu)
            have hget2 := hget
            rw [splice_get hlx] at hget2
            by_cases hjc : j < c
            · rw [if_pos hjc] at hget2
              rw [if_pos (by omega)]
              obtain ⟨u, k1, k2⟩ := g3 i2 x j _ hx hget2
              exact ⟨u, k1, key u k2⟩
            · rw [if_neg hjc] at hget2
              rw [if_neg (by omega)]
              by_cases hjd : j < c + ds.length
              · rw [if_pos hjd] at hget2
                rw [if_pos (by omega)]
                have hsub : i2 * width El t + j - (i2 * width El t + c) = j - c := by omega
                rw [hsub]
                have hlt : j - c < us.length := by omega
                exact ⟨us[j - c], by simp [hlt], key _ (hd (j - c) _ _ (by simp [hlt]) hget2).1⟩
              · rw [if_neg hjd] at hget2
                rw [if_neg (by omega)]
                obtain ⟨u, k1, k2⟩ := g3 i2 x j _ hx hget2
                exact ⟨u, k1, key u k2⟩
          · rw [List.getElem?_set_ne (fun e => hi2 e.symm)] at q1
            obtain ⟨u, k1, k2⟩ := g3 i2 x2 j e q1 q2
            have hj : j < width El t := by rw [← enc_len t x2]; exact (List.getElem?_eq_some_iff.1 q2).1
            have hout : ¬ (i * width El t + c ≤ i2 * width El t + j ∧ i2 * width El t + j < i * width El t + c + us.length) := by
              rintro ⟨a1, a2⟩
              rcases Nat.lt_or_gt_of_ne hi2 with hlt | hgt
              · have : (i2 + 1) * width El t ≤ i * width El t := Nat.mul_le_mul_right _ hlt
                rw [Nat.succ_mul] at this
                omega
              · have : (i + 1) * width El t ≤ i2 * width El t := Nat.mul_le_mul_right _ hgt
                rw [Nat.succ_mul] at this
                omega
            refine ⟨u, ?_, mv u e k2⟩
            by_cases hj1 : i2 * width El t + j < i * width El t + c
            · rw [if_pos hj1]; exact k1
            · rw [if_neg hj1, if_neg (by omega)]; exact k1
    · cases h
  · cases h
end Go.M
namespace Go.M
set_option linter.unusedVariables false
set_option linter.unusedSectionVars false
open Uni
variable {El : Nat → Type} [Uni El] [UniOK El] {R : Type}
def mfield (P : Program) (s f : Nat) (d : D El) (K : D El → Option R) : Option R :=
  match P.underlying s with
  | some (.struct fs) =>
    match fs[f]? with
    | some fd =>
      match P.info? fd.type with
      | some i =>
        match d with
        | .ptr o k j c => cond (Nat.beq i.size 0) none (K (.ptr o k j (c + fd.offset)))
        | .fptr t l j c => cond (Nat.beq i.size 0) none (K (.fptr t l j (c + fd.offset)))
        | _ => none
      | none => none
    | none => none
  | _ => none
theorem cond_none {b : Bool} {x : Option R} {r : R} (h : cond b none x = some r) : b = false ∧ x = some r := by
  cases b with
  | true => cases h
  | false => exact ⟨rfl, h⟩
theorem beq_false {a b : Nat} (h : Nat.beq a b = false) : a ≠ b := fun e => by subst e; simp at h
theorem mfield_sound {P : Program} {s f : Nat} {d : D El} {K : D El → Option R} {r : R} (h : mfield P s f d K = some r) : ∃ e, K e = some r ∧
    ∀ {w S β v}, VRel w S β v d → ∃ u, (∀ w', (Instr.fieldAt s v f).run P w' = .ok u w') ∧ VRel w S β u e := by
  unfold mfield at h
  split at h
  · rename_i fs hu
    split at h
    · rename_i fd hf
      split at h
      · rename_i i hi
        split at h
        · rename_i o k j c
          obtain ⟨hb, h'⟩ := cond_none h
          refine ⟨_, h', fun {w S β v} hv => ?_⟩
          cases hv with
          | ptr _ _ _ _ g base h1 h2 =>
            refine ⟨.pointer (some ⟨g, j * k + (c + fd.offset), none⟩), ?_, .ptr _ _ _ _ g base h1 h2⟩
            simp [Instr.fieldAt, run_underlying hu, hf, Instr.sureAddr, fieldPlace, sizeOf, typeInfo, hi, beq_false hb, add_off, Nat.add_assoc]
        · rename_i t l j c
          obtain ⟨hb, h'⟩ := cond_none h
          refine ⟨_, h', fun {w S β v} hv => ?_⟩
          cases hv with
          | fptr g o _ _ _ _ C ty fr vs h1 h2 h3 h4 =>
            refine ⟨.pointer (some ⟨g, o + j * width El t + (c + fd.offset), none⟩), ?_, .fptr g o t l j _ C ty fr vs h1 h2 h3 h4⟩
            simp [Instr.fieldAt, run_underlying hu, hf, Instr.sureAddr, fieldPlace, sizeOf, typeInfo, hi, beq_false hb, add_off, Nat.add_assoc]
        · cases h
      · cases h
    · cases h
  · cases h
theorem if_some {c : Prop} [Decidable c] {x : Option R} {r : R} (h : (if c then x else none) = some r) : c ∧ x = some r := by
  split at h
  · exact ⟨by assumption, h⟩
  · cases h
def pickN : Nat → Int → Nat → (Nat → Option R) → Option R
  | 0, _, _, _ => none
  | n + 1, m, q, K => if m = (q : Int) then K q else pickN n m (q + 1) K
theorem pickN_sound : ∀ {n : Nat} {m : Int} {q : Nat} {K : Nat → Option R} {r : R}, pickN n m q K = some r → ∃ p, K p = some r ∧ m = (p : Int) ∧ p < q + n
  | 0, m, q, K, r, h => by cases h
  | n + 1, m, q, K, r, h => by
    unfold pickN at h
    split at h
    · rename_i hm
      exact ⟨q, h, hm, by omega⟩
    · obtain ⟨p, h1, h2, h3⟩ := pickN_sound h
      exact ⟨p, h1, h2, by omega⟩
theorem run_indexAt_arr {P : Program} {t e len : Nat} {i : TypeInfo} (hu : P.underlying t = some (.array len e)) (hi : P.info? e = some i) (a : Addr) (k : IntKind) (p : Nat) (h1 : p < len) (w : World) :
    (Instr.indexAt t (.pointer (some a)) (.int k (p : Int))).run P w = .ok (.pointer (some (a.add (p * i.size)))) w := by
  have h : (0 : Int) ≤ (p : Int) ∧ (p : Int) < (len : Int) := ⟨by omega, by omega⟩
  simp [Instr.indexAt, asIntOf, run_underlying hu, sizeOf, typeInfo, hi, Instr.sureAddr, h]
  intro h2
  exact absurd h2 (by omega)
def midx (P : Program) (st : St El) (t : Nat) (d ix : D El) (K : D El → Option R) : Option R :=
  match P.underlying t with
  | some (.slice e) =>
    match P.info? e, ix with
    | some i, .int _ n =>
      match d with
      | .all o k =>
        match look st.objs o with
        | .arr t' l => cond (Nat.beq i.size k && Nat.beq k (width El t')) (if 0 ≤ n then (if n < (l.length : Int) then K (.ptr o k n.toNat 0) else none) else none) none
        | .ice t' l => cond (Nat.beq i.size k && Nat.beq k (width El t')) (if 0 ≤ n then (if n < (l.length : Int) then K (.ptr o k n.toNat 0) else none) else none) none
        | _ => none
      | .sl o k off len =>
        match look st.objs o with
        | .arr _ _ => cond (Nat.beq i.size k) (if 0 ≤ n then (if n < (len : Int) then K (.ptr o k (off + n.toNat) 0) else none) else none) none
        | .ice _ _ => cond (Nat.beq i.size k) (if 0 ≤ n then (if n < (len : Int) then K (.ptr o k (off + n.toNat) 0) else none) else none) none
        | _ => none
      | .frz t' l => cond (Nat.beq i.size (width El t')) (if 0 ≤ n then (if n < (l.length : Int) then K (.fptr t' l n.toNat 0) else none) else none) none
      | _ => none
    | _, _ => none
  | some (.array len e) =>
    match P.info? e, ix with
    | some i, .int _ n =>
      match d with
      | .ptr o k j c => pickN len n 0 fun p => K (.ptr o k j (c + p * i.size))
      | .fptr t' l j c => pickN len n 0 fun p => K (.fptr t' l j (c + p * i.size))
      | _ => none
    | _, _ => none
  | _ => none
theorem run_indexAt_ok {P : Program} {t e : Nat} {i : TypeInfo} (hu : P.underlying t = some (.slice e)) (hi : P.info? e = some i) (a : Addr) (len cap : Nat) (k : IntKind) (n : Int) (h0 : 0 ≤ n) (h1 : n < len) (w : World) :
    (Instr.indexAt t (.slice (some a) len cap) (.int k n)).run P w = .ok (.pointer (some (a.add (n.toNat * i.size)))) w := by
  simp [Instr.indexAt, asIntOf, run_underlying hu, sizeOf, typeInfo, hi, h0, h1]
theorem midx_sound {P : Program} {st : St El} {t : Nat} {d ix : D El} {K : D El → Option R} {r : R} (h : midx P st t d ix K = some r) : ∃ e, K e = some r ∧
    ∀ {X : Ctx El} {S β a w v vi}, Rel X st S β a w → VRel w S β v d → VRel w S β vi ix → ∃ u, (∀ w', (Instr.indexAt t v vi).run P w' = .ok u w') ∧ VRel w S β u e := by
  unfold midx at h
  split at h
  · rename_i e hu
    split at h
    · rename_i i kd n hi
      split at h
      · rename_i o k
        have key : ∀ t' (l : List (El t')), (Nat.beq i.size k && Nat.beq k (width El t')) = true → 0 ≤ n → n < (l.length : Int) → ∀ {w : World} {S β v vi v0 vs}, β o = some v0 → w.ownsRow 0 t' (width El t') v0 l.length vs → VRel w S β v (.all o k : D El) → VRel w S β vi (.int kd n : D El) →
            ∃ u, (∀ w', (Instr.indexAt t v vi).run P w' = .ok u w') ∧ VRel w S β u (.ptr o k n.toNat 0 : D El) := by
          intro t' l hk h0 h1 w S β v vi v0 vs hb hown hv hvi
          obtain ⟨k1, k2⟩ := Bool.and_eq_true_iff.1 hk
          have k1 := beq_true k1
          cases hvi
          cases hv with
          | all _ _ p m c hb2 =>
            rw [hb] at hb2
            cases hb2
            rcases hown.2 with ⟨hn, hz⟩ | ⟨g, cap, cur, hg, _⟩
            · omega
            · cases hg
              refine ⟨_, fun w' => run_indexAt_ok hu hi ⟨g, 0, none⟩ _ _ _ n h0 h1 w', ?_⟩
              rw [add_off, k1]
              have := VRel.ptr (w := w) (S := S) (El := El) o k n.toNat 0 g _ hb rfl
              simpa using this
        split at h
        · rename_i t' l hlo
          obtain ⟨hk, h1⟩ := cond_some h
          obtain ⟨h0, h2⟩ := if_some h1
          obtain ⟨hn, h'⟩ := if_some h2
          refine ⟨_, h', fun {X S β a w v vi} hr hv hvi => ?_⟩
          have ho := hr.objs o
          rw [hlo] at ho
          obtain ⟨v0, vs, g1, g2, g3⟩ := ho
          exact key t' l hk h0 hn g1 g2 hv hvi
        · rename_i t' l hlo
          obtain ⟨hk, h1⟩ := cond_some h
          obtain ⟨h0, h2⟩ := if_some h1
          obtain ⟨hn, h'⟩ := if_some h2
          refine ⟨_, h', fun {X S β a w v vi} hr hv hvi => ?_⟩
          have ho := hr.objs o
          rw [hlo] at ho
          obtain ⟨v0, vs, g1, g2, g3, _⟩ := ho
          exact key t' l hk h0 hn g1 g2 hv hvi
        · cases h
      · rename_i o k off len
        have key : Nat.beq i.size k = true → 0 ≤ n → n < (len : Int) → ∀ {t' : Nat} {m : Nat} {w : World} {S β v vi v0 vs}, β o = some v0 → w.ownsRow 0 t' (width El t') v0 m vs → VRel w S β v (.sl o k off len : D El) → VRel w S β vi (.int kd n : D El) →
            ∃ u, (∀ w', (Instr.indexAt t v vi).run P w' = .ok u w') ∧ VRel w S β u (.ptr o k (off + n.toNat) 0 : D El) := by
          intro hk h0 hn t' m w S β v vi v0 vs hb0 hown hv hvi
          have k1 := beq_true hk
          cases hvi
          cases hv with
          | sl _ _ _ _ p m' cap p' c' hb hle hlc z1 z2 =>
            rw [hb0] at hb
            cases hb
            rcases hown.2 with ⟨hnil, hz⟩ | ⟨g, cap2, cur, hg, _⟩
            · cases hnil
              omega
            · cases hg
              have hp : p' = some ⟨g, off * k, none⟩ := by
                by_cases hoff : off = 0
                · rw [(z1 hoff).1, hoff]; simp
                · obtain ⟨r2, q1, q2⟩ := z2 hoff (by omega)
                  cases q1
                  exact q2
              subst hp
              refine ⟨_, fun w' => run_indexAt_ok hu hi _ _ _ _ n h0 hn w', ?_⟩
              rw [add_off, k1, ← Nat.add_mul]
              have := VRel.ptr (w := w) (S := S) (El := El) o k (off + n.toNat) 0 g _ hb0 rfl
              simpa using this
        split at h
        · rename_i t' l hlo
          obtain ⟨hk, h1⟩ := cond_some h
          obtain ⟨h0, h2⟩ := if_some h1
          obtain ⟨hn, h'⟩ := if_some h2
          refine ⟨_, h', fun {X S β a w v vi} hr hv hvi => ?_⟩
          have ho := hr.objs o
          rw [hlo] at ho
          obtain ⟨v0, vs, g1, g2, g3⟩ := ho
          exact key hk h0 hn g1 g2 hv hvi
        · rename_i t' l hlo
          obtain ⟨hk, h1⟩ := cond_some h
          obtain ⟨h0, h2⟩ := if_some h1
          obtain ⟨hn, h'⟩ := if_some h2
          refine ⟨_, h', fun {X S β a w v vi} hr hv hvi => ?_⟩
          have ho := hr.objs o
          rw [hlo] at ho
          obtain ⟨v0, vs, g1, g2, g3, _⟩ := ho
          exact key hk h0 hn g1 g2 hv hvi
        · cases h
      · rename_i t' l
        obtain ⟨hk, h1⟩ := cond_some h
        obtain ⟨h0, h2⟩ := if_some h1
        obtain ⟨hn, h'⟩ := if_some h2
        refine ⟨_, h', fun {X S β a w v vi} hr hv hvi => ?_⟩
        have k1 := beq_true hk
        cases hvi
        cases hv with
        | frz0 p c _ => simp at hn; omega
        | frz g off cap _ _ C ty fr vs z1 z2 z3 z4 z5 =>
          refine ⟨_, fun w' => run_indexAt_ok hu hi _ _ _ _ n h0 hn w', ?_⟩
          rw [add_off, k1]
          have := VRel.fptr (w := w) (S := S) (β := β) g off t' l n.toNat 0 C ty fr vs z1 z2 z3 z4
          simpa using this
      · cases h
    · cases h
  · rename_i len e hu
    split at h
    · rename_i i kd n hi
      split at h
      · rename_i o k j c
        obtain ⟨p, h', rfl, hp⟩ := pickN_sound h
        refine ⟨_, h', fun {X S β a w v vi} hr hv hvi => ?_⟩
        cases hvi
        cases hv with
        | ptr _ _ _ _ g base hb hbase =>
          refine ⟨_, fun w' => run_indexAt_arr hu hi _ _ p (by omega) w', ?_⟩
          rw [add_off]
          have := VRel.ptr (w := w) (S := S) (El := El) o k j (c + p * i.size) g base hb hbase
          rw [Nat.add_assoc]
          exact this
      · rename_i t' l j c
        obtain ⟨p, h', rfl, hp⟩ := pickN_sound h
        refine ⟨_, h', fun {X S β a w v vi} hr hv hvi => ?_⟩
        cases hvi
        cases hv with
        | fptr g off _ _ _ _ C ty fr vs z1 z2 z3 z4 =>
          refine ⟨_, fun w' => run_indexAt_arr hu hi _ _ p (by omega) w', ?_⟩
          rw [add_off]
          have := VRel.fptr (w := w) (S := S) (β := β) g off t' l j (c + p * i.size) C ty fr vs z1 z2 z3 z4
          rw [Nat.add_assoc]
          exact this
      · cases h
    · cases h
  · cases h
def mlen (P : Program) (st : St El) (t : Nat) (d : D El) (K : D El → Option R) : Option R :=
  match P.underlying t with
  | some (.slice _) =>
    match d with
    | .all o _ =>
      match look st.objs o with
      | .arr _ l => K (.int .i64 (l.length : Int))
      | .ice _ l => K (.int .i64 (l.length : Int))
      | _ => none
    | .sl _ _ _ len => K (.int .i64 (len : Int))
    | .frz _ l => K (.int .i64 (l.length : Int))
    | .nilsl => K (.int .i64 0)
    | _ => none
  | some .string =>
    match d with
    | .str s => K (.int .i64 (s.size : Int))
    | _ => none
  | _ => none
theorem owned_len {w : World} {e size n : Nat} {p : Option Addr} {m c : Nat} {xs : List Value} (h : w.ownsRow 0 e size (.slice p m c) n xs) : m = n := by
  rcases h.2 with ⟨hn, hz⟩ | ⟨g, cap, cur, hg, _⟩
  · cases hn; exact hz.symm
  · cases hg; rfl
theorem mlen_sound {P : Program} {st : St El} {t : Nat} {d : D El} {K : D El → Option R} {r : R} (h : mlen P st t d K = some r) : ∃ e, K e = some r ∧
    ∀ {X : Ctx El} {S β a w v ty}, Rel X st S β a w → VRel w S β v d → ∃ u, (∀ w', (Builtin.len_ #[t] ty #[v]).run P w' = .ok u w') ∧ VRel w S β u e := by
  unfold mlen at h
  split at h
  · rename_i e hu
    have key : ∀ (p : Option Addr) (m c : Nat) (w : World) ty, (Builtin.len_ #[t] ty #[.slice p m c]).run P w = .ok (.int .i64 (m : Int)) w := fun p m c w ty => by
      simp [Builtin.len_, run_underlying hu, goInt]
    split at h
    · rename_i o k
      split at h
      · rename_i t' l hlo
        refine ⟨_, h, fun {X S β a w v ty} hr hv => ?_⟩
        have ho := hr.objs o
        rw [hlo] at ho
        obtain ⟨v0, vs, g1, g2, g3⟩ := ho
        cases hv with
        | all _ _ p m c hb2 =>
          rw [g1] at hb2
          cases hb2
          obtain rfl := owned_len g2
          exact ⟨_, fun w' => key _ _ _ w' ty, .int _ _⟩
      · rename_i t' l hlo
        refine ⟨_, h, fun {X S β a w v ty} hr hv => ?_⟩
        have ho := hr.objs o
        rw [hlo] at ho
        obtain ⟨v0, vs, g1, g2, g3, _⟩ := ho
        cases hv with
        | all _ _ p m c hb2 =>
          rw [g1] at hb2
          cases hb2
          obtain rfl := owned_len g2
          exact ⟨_, fun w' => key _ _ _ w' ty, .int _ _⟩
      · cases h
    · refine ⟨_, h, fun {X S β a w v ty} hr hv => ?_⟩
      cases hv
      exact ⟨_, fun w' => key _ _ _ w' ty, .int _ _⟩
    · refine ⟨_, h, fun {X S β a w v ty} hr hv => ?_⟩
      cases hv with
      | frz0 p c _ => exact ⟨_, fun w' => key _ _ _ w' ty, .int _ _⟩
      | frz => exact ⟨_, fun w' => key _ _ _ w' ty, .int _ _⟩
    · refine ⟨_, h, fun {X S β a w v ty} hr hv => ?_⟩
      cases hv
      exact ⟨_, fun w' => key _ _ _ w' ty, .int _ _⟩
    · cases h
  · rename_i hu
    split at h
    · refine ⟨_, h, fun {X S β a w v ty} hr hv => ?_⟩
      cases hv
      exact ⟨_, by simp [Builtin.len_, run_underlying hu, goInt], .int _ _⟩
    · cases h
  · cases h
def bt (s : ByteArray) (n : Int) : Int := ((s.data.toList.getD n.toNat 0).toNat : Int)
def intsOf (k : IntKind) : List (D El) → Option (List Int)
  | [] => some []
  | .int k' n :: r => if k' = k then (match intsOf k r with | some l => some (n :: l) | none => none) else none
  | _ :: _ => none
theorem intsOf_get {k : IntKind} : ∀ {l : List (D El)} {zs : List Int}, intsOf k l = some zs → zs.length = l.length ∧ ∀ (i : Nat) d, l[i]? = some d → d = .int k (zs.getD i 0)
  | [], zs, h => by
    simp [intsOf] at h
    subst h
    exact ⟨rfl, fun i d q => by simp at q⟩
  | x :: r, zs, h => by
    unfold intsOf at h
    split at h
    · rename_i heq
      cases heq
    · rename_i k' n r' heq
      cases heq
      split at h
      · rename_i hk
        subst hk
        split at h
        · rename_i l hl
          cases h
          obtain ⟨h1, h2⟩ := intsOf_get hl
          refine ⟨by simp [h1], fun i d q => ?_⟩
          cases i with
          | zero => simp at q; subst q; rfl
          | succ i => simp at q; simpa using h2 i d q
        · cases h
      · cases h
    · cases h
def mindex (P : Program) (t : Nat) (d ix : D El) (K : D El → Option R) : Option R :=
  match P.underlying t, d, ix with
  | some .string, .str s, .int _ n => if 0 ≤ n then (if n < (s.size : Int) then K (.int .u8 (bt s n)) else none) else none
  | some (.array len e), .agg l, .int _ n =>
    match P.info? e, P.underlying e with
    | some i, some (.int k) =>
      match intsOf k l with
      | some zs => cond (Nat.beq i.size 1 && Nat.beq l.length len) (if 0 ≤ n then (if n < (len : Int) then K (.int k (zs.getD n.toNat 0)) else none) else none) none
      | none => none
    | _, _ => none
  | _, _, _ => none
theorem mindex_sound {P : Program} {t : Nat} {d ix : D El} {K : D El → Option R} {r : R} (h : mindex P t d ix K = some r) : ∃ e, K e = some r ∧
    ∀ {w S β v vi}, VRel w S β v d → VRel w S β vi ix → ∃ u, (∀ w', (Instr.index t v vi).run P w' = .ok u w') ∧ VRel w S β u e := by
  unfold mindex at h
  split at h
  · rename_i s kd n hu
    obtain ⟨h0, h2⟩ := if_some h
    obtain ⟨hn, h'⟩ := if_some h2
    refine ⟨_, h', fun {w S β v vi} hv hvi => ?_⟩
    cases hv; cases hvi
    refine ⟨_, ?_, .int _ _⟩
    have hlt : n.toNat < s.size := by omega
    have hg : s[n.toNat]? = some s[n.toNat] := ByteArray.getElem?_lt' s n.toNat hlt
    have hb : (s[n.toNat].toNat : Int) = bt s n := by
      unfold bt
      congr 2
      rw [List.getD_eq_getElem?_getD, Array.getElem?_toList]
      have : s.data[n.toNat]? = some s.data[n.toNat] := by simp
      rw [this]
      rfl
    intro w'
    simp only [Instr.index, asIntOf, Sem.run_bind, Sem.run_pure, Result.andThen_ok, run_underlying hu, h0, if_true, hg]
    rw [← hb]
  · rename_i len e l kd n hu
    split at h
    · rename_i i k hi hk
      split at h
      · rename_i zs hzs
        obtain ⟨hc, h1⟩ := cond_some h
        obtain ⟨c1, c2⟩ := Bool.and_eq_true_iff.1 hc
        have c1 := beq_true c1
        have c2 := beq_true c2
        obtain ⟨h0, h2⟩ := if_some h1
        obtain ⟨hn, h'⟩ := if_some h2
        obtain ⟨z1, z2⟩ := intsOf_get hzs
        refine ⟨_, h', fun {w S β v vi} hv hvi => ?_⟩
        cases hvi
        cases hv with
        | agg vs _ b1 b2 b3 =>
          have hlt : n.toNat < l.length := by omega
          have hd := z2 n.toNat l[n.toNat] (by simp [hlt])
          have hvt : n.toNat < vs.size := by omega
          have hrel := b2 n.toNat vs[n.toNat] l[n.toNat] (by simp [hvt]) (by simp [hlt])
          rw [hd] at hrel
          refine ⟨vs[n.toNat], fun w' => ?_, hrel⟩
          have hagg : (isAgg e).run P w' = .ok false w' := by
            simp only [isAgg, Sem.run_bind, run_underlying hk, Result.andThen_ok]
            rfl
          have hg : vs[n.toNat]? = some vs[n.toNat] := by simp [hvt]
          simp [Instr.index, asIntOf, run_underlying hu, h0, hn, sizeOf, typeInfo, hi, c1, part, hagg, hg]
      · cases h
    · cases h
  · cases h
end Go.M
namespace Go.M
set_option linter.unusedVariables false
set_option linter.unusedSectionVars false
open Uni
variable {El : Nat → Type} [Uni El] [UniOK El] {R : Type}
theorem append_run {P : Program} (w : World) (t ty e : TypeId) (i : TypeInfo) (z : Value) (ht : P.underlying t = some (.slice e)) (hi : P.info? e = some i) (hz : i.zero = some z)
    (hzs : z.cells.size = i.size) (hsz : 0 < i.size) (v : Value) (n : Nat) (xs : List Value) (hown : w.ownsRow 0 e i.size v n xs)
    (p : Option Addr) (m c : Nat) (news : List Value) (hl : news.length = m * i.size) (hp : p = none → m = 0) (hnews : ∀ a, p = some a → ∀ (j : Nat) u, news[j]? = some u → w.cell? (a.add j) = some u) (h1 : ∀ u ∈ news, u.oneCell' = true)
    (h63 : n + m ≤ maxLen) (hbytes : (n + m) * i.bytes ≤ 140737488355328) :
    ∃ p' n' c' w', (Builtin.append_ #[t, t] ty #[v, .slice p m c]).run P w = .ok (.slice p' n' c') w' ∧ w'.ownsRow 0 e i.size (.slice p' n' c') (n + m) (xs ++ news) ∧ Grew w w' (fun k => blkOf v = some k) ∧
      (∀ r, blkOf (.slice p' n' c') = some r → w.heap.size ≤ r ∨ blkOf v = some r) := by
  cases p with
  | none =>
    obtain rfl := hp rfl
    have hn : news = [] := List.eq_nil_of_length_eq_zero (by simpa using hl)
    subst hn
    rcases hown.2 with ⟨rfl, rfl⟩ | ⟨g, cap, cur, rfl, hbg, hg, hnc, hcm, hcs, htake⟩
    · exact ⟨none, 0, 0, w, by simp [Builtin.append_, run_underlying ht, sizeOf, typeInfo, hi, Builtin.lenOf, Builtin.firstCells], by simpa using hown, Grew.refl _ _, fun r hr => .inr hr⟩
    · refine ⟨some ⟨g, 0, none⟩, n, cap, w, ?_, by simpa using hown, Grew.refl _ _, fun r hr => .inr hr⟩
      simp [Builtin.append_, run_underlying ht, sizeOf, typeInfo, hi, Builtin.lenOf, Builtin.firstCells, hnc, storeCells]
  | some a =>
    have hnews := hnews a rfl
    have hlen : (xs ++ news).length = (n + m) * i.size := by rw [List.length_append, hown.1, hl, Nat.add_mul]
    have grown : ∀ (old : Nat), old < n + m → ∀ (T : Nat → Prop),
        (w.drew.alloc (.cells (xs.toArray ++ news.toArray ++ Builtin.zeroCells z.cells (grownCap w (n + m) old e - (n + m))) e)).ownsRow 0 e i.size
          (.slice (some ⟨w.heap.size, 0, none⟩) (n + m) (grownCap w (n + m) old e)) (n + m) (xs ++ news) ∧
        Grew w (w.drew.alloc (.cells (xs.toArray ++ news.toArray ++ Builtin.zeroCells z.cells (grownCap w (n + m) old e - (n + m))) e)) T := by
      intro old ho T
      have hge := grownCap_ge w (n + m) old e
      have hcm : grownCap w (n + m) old e ≤ maxLen := grownCap_le_maxLen w (n + m) old e h63
      refine ⟨⟨hlen, .inr ⟨w.heap.size, _, _, rfl, Nat.zero_le _, heap_alloc_new w.drew _, hge, hcm, ?_, ?_⟩⟩, ⟨rfl, rfl, rfl, by simp, fun k hk _ => heap_alloc_old w.drew _ k hk⟩⟩
      · simp only [Array.size_append, List.size_toArray, size_zeroCells, hzs, hown.1, hl, ← Nat.add_mul]
        congr 1
        omega
      · simp only [Array.toList_append, List.append_assoc]
        rw [← List.append_assoc, ← hlen]
        exact List.take_left
    have hsmall : n + m ≤ 9223372036854775807 := by simp only [maxLen] at h63; omega
    rcases hown.2 with ⟨rfl, rfl⟩ | ⟨g, cap, cur, rfl, hbg, hg, hnc, hcm, hcs, htake⟩
    · have hx : xs = [] := List.eq_nil_of_length_eq_zero (by simpa using hown.1)
      subst hx
      by_cases hm : m = 0
      · subst hm
        have hn : news = [] := List.eq_nil_of_length_eq_zero (by simpa using hl)
        subst hn
        exact ⟨none, 0, 0, w, by simp [Builtin.append_, run_underlying ht, sizeOf, typeInfo, hi, Builtin.lenOf, Builtin.firstCells, loadCells, loadCellsFrom], by simpa using hown, Grew.refl _ _, fun r hr => .inr hr⟩
      · have hr := run_append_nil (P := P) w t ty e i z ht hi hz a m c news hl hnews (by omega) (by omega) (by have hb := hbytes; simp only [Nat.zero_add] at hb; omega)
        have hgr := grown 0 (by omega) (fun k => blkOf (.slice none 0 0) = some k)
        simp only [Nat.zero_add, List.nil_append, Array.empty_append] at hgr ⊢
        exact ⟨_, _, _, _, hr, hgr.1, hgr.2, fun r hr => .inl (by simp [blkOf] at hr; omega)⟩
    · by_cases hroom : n + m ≤ cap
      · have hfit : n * i.size + news.length ≤ cur.size := by rw [hl, hcs, ← Nat.add_mul]; exact Nat.mul_le_mul_right _ hroom
        have hr := run_append_room (P := P) w t ty e i ht hi g n cap cur hg a m c news hl hnews h1 hroom hfit
        refine ⟨_, _, _, _, hr, ⟨hlen, .inr ⟨g, cap, _, rfl, hbg, setRow_heap w g cur _ e _ hg, hroom, hcm, ?_, ?_⟩⟩, (Grew.setRow w g _).mono (fun k hk => by subst hk; rfl), fun r hr => .inr hr⟩
        · simp only [List.size_toArray, List.length_append, List.length_take, List.length_drop, Array.length_toList]
          omega
        · rw [htake, ← hlen]
          exact List.take_left
      · have holds : ∀ (j : Nat) u, xs[j]? = some u → w.cell? ((⟨g, 0, none⟩ : Addr).add j) = some u := hown.cells (g := g) rfl
        have hr := run_append_grow (P := P) w t ty e i z ht hi hz ⟨g, 0, none⟩ n cap xs hown.1 holds a m c news hl hnews (by omega) (by omega) (growslice_fits (by omega) hbytes)
        have hgr := grown cap (by omega) (fun k => blkOf (.slice (some ⟨g, 0, none⟩) n cap) = some k)
        exact ⟨_, _, _, _, hr, hgr.1, hgr.2, fun r hr => .inl (by simp [blkOf] at hr; omega)⟩
def mlist (st : St El) (t : Nat) (d : D El) (K : List (El t) → Option R) : Option R :=
  match d with
  | .all o _ =>
    match look st.objs o with
    | .arr t' l => if h : t' = t then K (h ▸ l) else none
    | .ice t' l => if h : t' = t then K (h ▸ l) else none
    | _ => none
  | .sl o k off len =>
    match look st.objs o with
    | .arr t' l => if h : t' = t then cond (Nat.beq k (width El t)) (K (((h ▸ l : List (El t)).drop off).take len)) none else none
    | .ice t' l => if h : t' = t then cond (Nat.beq k (width El t)) (K (((h ▸ l : List (El t)).drop off).take len)) none else none
    | _ => none
  | .frz t' l => if h : t' = t then K (h ▸ l) else none
  | .nilsl => K []
  | _ => none
def Holds (w : World) (S : Nat → Prop) (β : Beta) (v : Value) (t : Nat) (l : List (El t)) : Prop :=
  ∃ p cap ws, v = .slice p l.length cap ∧ ws.length = l.length * width El t ∧ (p = none → l.length = 0) ∧ (∀ a, p = some a → ∀ (j : Nat) u, ws[j]? = some u → w.cell? (a.add j) = some u) ∧ RowsRel w S β t l ws ∧ ∀ u ∈ ws, u.oneCell' = true
theorem rows_one {w : World} {S : Nat → Prop} {β : Beta} {t : Nat} {l : List (El t)} {ws : List Value} (hl : ws.length = l.length * width El t) (h : RowsRel w S β t l ws) : ∀ u ∈ ws, u.oneCell' = true := by
  intro u hu
  obtain ⟨j, hj⟩ := List.mem_iff_getElem?.1 hu
  have hlt : j < l.length * width El t := by rw [← hl]; exact (List.getElem?_eq_some_iff.1 hj).1
  have hk : 0 < width El t := Nat.pos_of_ne_zero (fun e => by rw [e] at hlt; omega)
  have hi : j / width El t < l.length := (Nat.div_lt_iff_lt_mul hk).2 hlt
  have hm : j % width El t < (enc t l[j / width El t]).length := by rw [enc_len]; exact Nat.mod_lt _ hk
  obtain ⟨u', k1, k2⟩ := h (j / width El t) l[j / width El t] (j % width El t) (enc t l[j / width El t])[j % width El t] (by simp [hi]) (by simp [hm])
  have e : j / width El t * width El t + j % width El t = j := by rw [Nat.mul_comm]; exact Nat.div_add_mod j (width El t)
  rw [e, hj] at k1
  cases k1
  exact k2.one (enc_cell t _ _ (List.getElem_mem _))
theorem holds_owned {w : World} {S : Nat → Prop} {β : Beta} {t : Nat} {l : List (El t)} {p : Option Addr} {n c : Nat} {vs : List Value} (h2 : w.ownsRow 0 t (width El t) (.slice p n c) l.length vs) (h3 : RowsRel w S β t l vs) : Holds w S β (.slice p n c) t l := by
  have hn := owned_len h2
  subst hn
  refine ⟨p, c, vs, rfl, h2.1, fun e => ?_, fun a e j u hu => ?_, h3, rows_one h2.1 h3⟩
  · rcases h2.2 with ⟨_, hz⟩ | ⟨g, cap, cur, hg, _⟩
    · exact hz
    · subst e; cases hg
  · subst e
    rcases h2.2 with ⟨hz, _⟩ | ⟨g, cap, cur, hg, _⟩
    · exact absurd (Value.slice.inj hz).1 (by simp)
    · cases hg
      exact h2.cells (g := g) rfl j u hu
theorem holds_sub {w : World} {S : Nat → Prop} {β : Beta} {t : Nat} {l : List (El t)} {p : Option Addr} {n c off len : Nat} {vs : List Value} (h2 : w.ownsRow 0 t (width El t) (.slice p n c) l.length vs) (h3 : RowsRel w S β t l vs) {p' : Option Addr} {c' : Nat}
    (hle : off + len ≤ n) (z1 : off = 0 → p' = p ∧ c' = c) (z2 : off ≠ 0 → len ≠ 0 → ∃ r, p = some ⟨r, 0, none⟩ ∧ p' = some ⟨r, off * width El t, none⟩) : Holds w S β (.slice p' len c') t ((l.drop off).take len) := by
  have hn := owned_len h2
  subst hn
  have hlen : ((l.drop off).take len).length = len := by simp; omega
  have hws : ((vs.drop (off * width El t)).take (len * width El t)).length = len * width El t := by
    have : (off + len) * width El t ≤ l.length * width El t := Nat.mul_le_mul_right _ hle
    rw [Nat.add_mul] at this
    simp [h2.1]
    omega
  have hrows : RowsRel w S β t ((l.drop off).take len) ((vs.drop (off * width El t)).take (len * width El t)) := by
    intro i x j d q1 q2
    rw [List.getElem?_take] at q1
    split at q1
    · rename_i hi
      rw [List.getElem?_drop] at q1
      obtain ⟨u, k1, k2⟩ := h3 (off + i) x j d q1 q2
      refine ⟨u, ?_, k2⟩
      have hj : j < width El t := by rw [← enc_len t x]; exact (List.getElem?_eq_some_iff.1 q2).1
      have hik : i * width El t + j < len * width El t := by
        have : (i + 1) * width El t ≤ len * width El t := Nat.mul_le_mul_right _ hi
        rw [Nat.succ_mul] at this
        omega
      rw [List.getElem?_take, if_pos hik, List.getElem?_drop, ← k1]
      congr 1
      rw [Nat.add_mul]
      omega
    · cases q1
  refine ⟨p', c', _, by rw [hlen], by rw [hlen, hws], fun e => ?_, fun a e j u hu => ?_, hrows, rows_one (by rw [hlen, hws]) hrows⟩
  · rw [hlen]
    by_cases ho : off = 0
    · obtain ⟨e1, e2⟩ := z1 ho
      subst e1 e
      rcases h2.2 with ⟨_, hz⟩ | ⟨g, cap, cur, hg, _⟩
      · omega
      · cases hg
    · refine Classical.byContradiction fun hne => ?_
      obtain ⟨r, _, e2⟩ := z2 ho hne
      rw [e] at e2
      cases e2
  · rw [List.getElem?_take] at hu
    split at hu
    · rename_i hj
      rw [List.getElem?_drop] at hu
      have hl0 : len ≠ 0 := fun e => by subst e; simp at hj
      rcases h2.2 with ⟨hz, hz2⟩ | ⟨g, cap, cur, hg, _⟩
      · omega
      · cases hg
        have hp : p' = some ⟨g, off * width El t, none⟩ := by
          by_cases ho : off = 0
          · rw [(z1 ho).1, ho]; simp
          · obtain ⟨r, e1, e2⟩ := z2 ho hl0
            cases e1
            exact e2
        rw [e] at hp
        cases hp
        have := h2.cells (g := g) rfl (off * width El t + j) u hu
        rw [add_off] at this ⊢
        simpa using this
    · cases hu
theorem holds_frz {w : World} {S : Nat → Prop} {β : Beta} {t : Nat} {l : List (El t)} {v : Value} (h : VRel w S β v (.frz t l : D El)) : Holds w S β v t l := by
  cases h with
  | frz0 a c _ => exact ⟨a, c, [], rfl, by simp, fun _ => rfl, fun a _ j u hu => by simp at hu, fun i x j d q => by simp at q, fun u hu => by simp at hu⟩
  | frz r o cap _ _ C ty fr vs h1 h2 h3 h4 h5 =>
    have hrows : RowsRel w S β t l ((List.range (l.length * width El t)).map fun j => vs (j / width El t) (j % width El t)) := by
      intro i x j d q1 q2
      have hj : j < width El t := by rw [← enc_len t x]; exact (List.getElem?_eq_some_iff.1 q2).1
      have hi : i < l.length := (List.getElem?_eq_some_iff.1 q1).1
      have hik : i * width El t + j < l.length * width El t := by
        have : (i + 1) * width El t ≤ l.length * width El t := Nat.mul_le_mul_right _ hi
        rw [Nat.succ_mul] at this
        omega
      refine ⟨vs i j, ?_, h4 i x j d q1 q2⟩
      rw [List.getElem?_map, List.getElem?_range hik]
      have e1 : (i * width El t + j) / width El t = i := by rw [Nat.mul_comm, Nat.mul_add_div (by omega), Nat.div_eq_of_lt hj]; rfl
      have e2 : (i * width El t + j) % width El t = j := by rw [Nat.mul_comm, Nat.mul_add_mod, Nat.mod_eq_of_lt hj]
      simp [e1, e2]
    refine ⟨_, cap, _, rfl, by simp, (fun e => by cases e), fun a e j u hu => ?_, hrows, rows_one (by simp) hrows⟩
    cases e
    rw [List.getElem?_map] at hu
    have hlt : j < l.length * width El t := by
      rcases Nat.lt_or_ge j (l.length * width El t) with hl | hl
      · exact hl
      · rw [List.getElem?_eq_none (by simpa using hl)] at hu
        cases hu
    rw [List.getElem?_range hlt] at hu
    cases hu
    have hk : 0 < width El t := Nat.pos_of_ne_zero (fun e => by rw [e] at hlt; omega)
    have hi : j / width El t < l.length := (Nat.div_lt_iff_lt_mul hk).2 hlt
    have hm : j % width El t < (enc t l[j / width El t]).length := by rw [enc_len]; exact Nat.mod_lt _ hk
    have := h3 (j / width El t) l[j / width El t] (j % width El t) (enc t l[j / width El t])[j % width El t] (by simp [hi]) (by simp [hm])
    rw [add_off, cell_of_row w r _ C ty fr h2, ← this]
    congr 1
    have e : j / width El t * width El t + j % width El t = j := by rw [Nat.mul_comm]; exact Nat.div_add_mod j (width El t)
    omega
theorem mlist_sound {st : St El} {t : Nat} {d : D El} {K : List (El t) → Option R} {r : R} (h : mlist st t d K = some r) : ∃ l, K l = some r ∧
    ∀ {X : Ctx El} {S β a w v}, Rel X st S β a w → VRel w S β v d → Holds w S β v t l := by
  unfold mlist at h
  split at h
  · rename_i o k
    split at h
    · rename_i t' l hlo
      split at h
      · rename_i ht
        subst ht
        refine ⟨_, h, fun {X S β a w v} hr hv => ?_⟩
        have ho := hr.objs o
        rw [hlo] at ho
        obtain ⟨v0, vs, g1, g2, g3⟩ := ho
        cases hv with
        | all _ _ p m c hb2 =>
          rw [g1] at hb2
          cases hb2
          exact holds_owned g2 g3
      · cases h
    · rename_i t' l hlo
      split at h
      · rename_i ht
        subst ht
        refine ⟨_, h, fun {X S β a w v} hr hv => ?_⟩
        have ho := hr.objs o
        rw [hlo] at ho
        obtain ⟨v0, vs, g1, g2, g3, _⟩ := ho
        cases hv with
        | all _ _ p m c hb2 =>
          rw [g1] at hb2
          cases hb2
          exact holds_owned g2 g3
      · cases h
    · cases h
  · rename_i o k off len
    split at h
    · rename_i t' l hlo
      split at h
      · rename_i ht
        subst ht
        obtain ⟨hk, h'⟩ := cond_some h
        have hk := beq_true hk
        refine ⟨_, h', fun {X S β a w v} hr hv => ?_⟩
        have ho := hr.objs o
        rw [hlo] at ho
        obtain ⟨v0, vs, g1, g2, g3⟩ := ho
        cases hv with
        | sl _ _ _ _ p n cap p' c' hb2 hle hlc z1 z2 =>
          rw [g1] at hb2
          cases hb2
          exact holds_sub g2 g3 hle z1 (fun a b => by rw [← hk]; exact z2 a b)
      · cases h
    · rename_i t' l hlo
      split at h
      · rename_i ht
        subst ht
        obtain ⟨hk, h'⟩ := cond_some h
        have hk := beq_true hk
        refine ⟨_, h', fun {X S β a w v} hr hv => ?_⟩
        have ho := hr.objs o
        rw [hlo] at ho
        obtain ⟨v0, vs, g1, g2, g3, _⟩ := ho
        cases hv with
        | sl _ _ _ _ p n cap p' c' hb2 hle hlc z1 z2 =>
          rw [g1] at hb2
          cases hb2
          exact holds_sub g2 g3 hle z1 (fun a b => by rw [← hk]; exact z2 a b)
      · cases h
    · cases h
  · rename_i t' l
    split at h
    · rename_i ht
      subst ht
      exact ⟨_, h, fun {X S β a w v} hr hv => holds_frz hv⟩
    · cases h
  · refine ⟨_, h, fun {X S β a w v} hr hv => ?_⟩
    cases hv
    exact ⟨none, 0, [], rfl, by simp, fun _ => rfl, (fun a e => by cases e), (fun i x j d q => by simp at q), fun u hu => by simp at hu⟩
  · cases h
end Go.M
namespace Go.M
set_option linter.unusedVariables false
set_option linter.unusedSectionVars false
open Uni
variable {El : Nat → Type} [Uni El] [UniOK El] {R : Type}
theorem RowsRel.append {w : World} {S : Nat → Prop} {β : Beta} {t : Nat} {l l2 : List (El t)} {xs ws : List Value} (h : RowsRel w S β t l xs) (hl : xs.length = l.length * width El t) (h2 : RowsRel w S β t l2 ws) : RowsRel w S β t (l ++ l2) (xs ++ ws) := by
  intro i x j d q1 q2
  have hj : j < width El t := by rw [← enc_len t x]; exact (List.getElem?_eq_some_iff.1 q2).1
  rw [List.getElem?_append] at q1
  split at q1
  · rename_i hi
    obtain ⟨u, k1, k2⟩ := h i x j d q1 q2
    refine ⟨u, ?_, k2⟩
    rw [List.getElem?_append_left (by exact (List.getElem?_eq_some_iff.1 k1).1)]
    exact k1
  · rename_i hi
    obtain ⟨u, k1, k2⟩ := h2 (i - l.length) x j d q1 q2
    refine ⟨u, ?_, k2⟩
    have hge : l.length * width El t ≤ i * width El t := Nat.mul_le_mul_right _ (by omega)
    rw [List.getElem?_append_right (by omega), hl, ← k1]
    congr 1
    have : i = (i - l.length) + l.length := by omega
    have e : i * width El t = (i - l.length) * width El t + l.length * width El t := by rw [← Nat.add_mul]; congr 1
    omega
theorem RowsRel.take {w : World} {S : Nat → Prop} {β : Beta} {t : Nat} {l : List (El t)} {xs : List Value} (h : RowsRel w S β t l xs) (n : Nat) : RowsRel w S β t (l.take n) (xs.take (n * width El t)) := by
  intro i x j d q1 q2
  rw [List.getElem?_take] at q1
  split at q1
  · rename_i hi
    obtain ⟨u, k1, k2⟩ := h i x j d q1 q2
    refine ⟨u, ?_, k2⟩
    have hj : j < width El t := by rw [← enc_len t x]; exact (List.getElem?_eq_some_iff.1 q2).1
    have hik : i * width El t + j < n * width El t := by
      have : (i + 1) * width El t ≤ n * width El t := Nat.mul_le_mul_right _ hi
      rw [Nat.succ_mul] at this
      omega
    rw [List.getElem?_take, if_pos hik]
    exact k1
  · cases q1
theorem RowsRel.mono {w w' : World} {S S' : Nat → Prop} {β β' : Beta} {t : Nat} {l : List (El t)} {xs : List Value} (h : RowsRel w S β t l xs) (hw : ∀ r, S r → w'.heap[r]? = w.heap[r]?) (hS : ∀ r, S r → S' r) (hb : ∀ o x, β o = some x → β' o = some x) : RowsRel w' S' β' t l xs := by
  intro i x j d q1 q2
  obtain ⟨u, k1, k2⟩ := h i x j d q1 q2
  exact ⟨u, k1, k2.mono hw hS hb⟩
def mappend (P : Program) (st : St El) (t : Nat) (dst src : D El) (K : St El → D El → Option R) : Option R :=
  match P.underlying t with
  | some (.slice e) =>
    match P.info? e with
    | some i =>
      match i.zero with
      | some z =>
        cond (Nat.beq i.size (width El e) && (Nat.ble 1 i.size && (Nat.beq z.cells.size i.size && Nat.ble (i.bytes * 1000000) 140737488355328)))
          (mlist st e src fun l2 =>
            match dst with
            | .nilsl => if l2.length ≤ 1000000 then K (st.new (.arr e l2)) (.all st.next (width El e)) else none
            | .all o k =>
              match look st.objs o with
              | .arr t' l => if h : t' = e then (if l.length + l2.length ≤ 1000000 then K (st.pass o (.arr e ((h ▸ l : List (El e)) ++ l2))) (.all st.next (width El e)) else none) else none
              | _ => none
            | .sl o k off len =>
              match look st.objs o with
              | .arr t' l => if h : t' = e then cond (Nat.beq off 0 && Nat.beq k (width El e)) (if len + l2.length ≤ 1000000 then K (st.pass o (.arr e ((h ▸ l : List (El e)).take len ++ l2))) (.all st.next (width El e)) else none) none else none
              | _ => none
            | _ => none) none
      | none => none
    | none => none
  | _ => none
theorem mappend_sound {P : Program} {st : St El} {t : Nat} {dst src : D El} {K : St El → D El → Option R} {r : R} (h : mappend P st t dst src K = some r) : ∃ st' d, K st' d = some r ∧
    ∀ {X : Ctx El} {S β a w v x ty}, Rel X st S β a w → VRel w S β v dst → VRel w S β x src → ∃ v' w' β', (Builtin.append_ #[t, t] ty #[v, x]).run P w = .ok v' w' ∧ Rel X st' S β' a w' ∧ VRel w' S β' v' d := by
  unfold mappend at h
  split at h
  · rename_i e hu
    split at h
    · rename_i i hi
      split at h
      · rename_i z hz
        obtain ⟨hk, h0⟩ := cond_some h
        clear h
        obtain ⟨k1, hk⟩ := Bool.and_eq_true_iff.1 hk
        obtain ⟨k2, hk⟩ := Bool.and_eq_true_iff.1 hk
        obtain ⟨k3, k4⟩ := Bool.and_eq_true_iff.1 hk
        have k1 := beq_true k1
        have k2 := Nat.le_of_ble_eq_true k2
        have k3 := beq_true k3
        have k4 := Nat.le_of_ble_eq_true k4
        obtain ⟨l2, h1, hsrc⟩ := mlist_sound h0
        have core : ∀ {w : World} {S β v x ty} (n : Nat) (l : List (El e)) (xs : List Value), w.ownsRow 0 e (width El e) v l.length xs → VRel w S β x src → Holds w S β x e l2 → l.length + l2.length ≤ 1000000 →
            ∃ p' n' c' w' ws, (Builtin.append_ #[t, t] ty #[v, x]).run P w = .ok (.slice p' n' c') w' ∧ w'.ownsRow 0 e (width El e) (.slice p' n' c') (l ++ l2).length (xs ++ ws) ∧ Grew w w' (fun k => blkOf v = some k) ∧
              (∀ r, blkOf (.slice p' n' c') = some r → w.heap.size ≤ r ∨ blkOf v = some r) ∧ RowsRel w S β e l2 ws := by
          intro w S β v x ty n l xs hown hx hh hsz
          obtain ⟨p, cap, ws, rfl, a1, a2, a3, a4, a5⟩ := hh
          rw [← k1] at hown a1 ⊢
          have hb : (l.length + l2.length) * i.bytes ≤ 140737488355328 := by
            refine Nat.le_trans (Nat.mul_le_mul_right _ hsz) ?_
            rw [Nat.mul_comm]
            exact k4
          obtain ⟨p', n', c', w', b1, b2, b3, b4⟩ := append_run (P := P) w t ty e i z hu hi hz k3 k2 v l.length xs hown p l2.length cap ws a1 a2 a3 a5 (by simp only [maxLen]; omega) hb
          exact ⟨p', n', c', w', ws, b1, by rw [List.length_append]; exact b2, b3, b4, a4⟩
        split at h1
        · obtain ⟨hsz, h'⟩ := if_some h1
          refine ⟨_, _, h', fun {X S β a w v x ty} hr hv hx => ?_⟩
          cases hv
          obtain ⟨p', n', c', w', ws, b1, b2, b3, b4, b5⟩ := core (ty := ty) 0 [] [] (by simpa using World.ownsRow_nil w 0 e (width El e)) hx (hsrc hr hx) (by simpa using hsz)
          simp only [List.nil_append] at b2
          have hg : Grew w w' (fun _ => False) := b3.mono (fun k hk => by simp [blkOf] at hk)
          obtain ⟨c1, c2⟩ := hr.newArr hg (n := 0) b2 b5 (fun r hr2 => (b4 r hr2).resolve_right (by simp [blkOf]))
          exact ⟨_, _, _, b1, c1, c2⟩
        · rename_i o k
          split at h1
          · rename_i t' l hlo
            split at h1
            · rename_i ht
              subst ht
              obtain ⟨hsz, h'⟩ := if_some h1
              refine ⟨_, _, h', fun {X S β a w v x ty} hr hv hx => ?_⟩
              have ho := hr.objs o
              rw [hlo] at ho
              obtain ⟨v0, vs, g1, g2, g3⟩ := ho
              cases hv with
              | all _ _ p m c hb2 =>
                rw [g1] at hb2
                cases hb2
                obtain ⟨p', n', c', w', ws, b1, b2, b3, b4, b5⟩ := core (ty := ty) 0 l vs g2 hx (hsrc hr hx) hsz
                have hbt : ∀ o x, β o = some x → upB β st.next (.slice p' n' c') o = some x := fun o x hx => by
                  unfold upB
                  rw [if_neg (fun e => by rw [e, hr.fresh _ (Nat.le_refl _)] at hx; cases hx)]
                  exact hx
                have hST : ∀ r, S r → w'.heap[r]? = w.heap[r]? := fun r hr2 => b3.block r (hr.inside r hr2) (fun hT => (hr.away o _ r (by rw [hlo]; rfl) g1 hT).1 hr2)
                have hu' : upB β st.next (.slice p' n' c') st.next = some (.slice p' n' c') := by unfold upB; rw [if_pos rfl]
                exact ⟨_, _, _, b1, hr.pass (by rw [hlo]; rfl) g1 b3 ⟨_, _, hu', b2, (g3.append g2.1 b5).mono hST (fun _ h => h) hbt⟩ b4, .all _ _ _ _ _ hu'⟩
            · cases h1
          · cases h1
        · rename_i o k off len
          split at h1
          · rename_i t' l hlo
            split at h1
            · rename_i ht
              subst ht
              obtain ⟨hk, h2⟩ := cond_some h1
              obtain ⟨hk0, hk1⟩ := Bool.and_eq_true_iff.1 hk
              obtain rfl := beq_true hk0
              obtain ⟨hsz, h'⟩ := if_some h2
              refine ⟨_, _, h', fun {X S β a w v x ty} hr hv hx => ?_⟩
              have ho := hr.objs o
              rw [hlo] at ho
              obtain ⟨v0, vs, g1, g2, g3⟩ := ho
              cases hv with
              | sl _ _ _ _ p n cap p0 c0 hb2 hle hlc z1 z2 =>
                rw [g1] at hb2
                cases hb2
                obtain ⟨rfl, rfl⟩ := z1 rfl
                have hn := owned_len g2
                subst hn
                have hll : (l.take len).length = len := by simp; omega
                have g2' : w.ownsRow 0 t' (width El t') (.slice p0 len c0) (l.take len).length (vs.take (len * width El t')) := by
                  have hlk : len * width El t' ≤ l.length * width El t' := Nat.mul_le_mul_right _ (by omega)
                  rw [hll]
                  refine ⟨by rw [List.length_take, g2.1]; omega, ?_⟩
                  rcases g2.2 with ⟨hz1, hz2⟩ | ⟨g, cap, cur, hg, q1, q2, q3, q4, q5, q6⟩
                  · left
                    have : len = 0 := by omega
                    subst this
                    rw [hz2] at hz1
                    exact ⟨hz1, rfl⟩
                  · right
                    cases hg
                    refine ⟨g, _, cur, rfl, q1, q2, by omega, q4, q5, ?_⟩
                    rw [← q6, List.take_take, Nat.min_eq_left hlk]
                obtain ⟨p', n', c', w', ws, b1, b2, b3, b4, b5⟩ := core (ty := ty) 0 (l.take len) _ g2' hx (hsrc hr hx) (by rw [hll]; exact hsz)
                have hblk : blkOf (.slice p0 len c0) = blkOf (.slice p0 l.length c0) := by cases p0 <;> rfl
                simp only [hblk] at b3 b4
                have hbt : ∀ o x, β o = some x → upB β st.next (.slice p' n' c') o = some x := fun o x hx => by
                  unfold upB
                  rw [if_neg (fun e => by rw [e, hr.fresh _ (Nat.le_refl _)] at hx; cases hx)]
                  exact hx
                have hST : ∀ r, S r → w'.heap[r]? = w.heap[r]? := fun r hr2 => b3.block r (hr.inside r hr2) (fun hT => (hr.away o _ r (by rw [hlo]; rfl) g1 hT).1 hr2)
                have hu' : upB β st.next (.slice p' n' c') st.next = some (.slice p' n' c') := by unfold upB; rw [if_pos rfl]
                exact ⟨_, _, _, b1, hr.pass (by rw [hlo]; rfl) g1 b3 ⟨_, _, hu', b2, ((g3.take len).append g2'.1 b5).mono hST (fun _ h => h) hbt⟩ b4, .all _ _ _ _ _ hu'⟩
            · cases h1
          · cases h1
        · cases h1
      · cases h
    · cases h
  · cases h
end Go.M
namespace Go.M
set_option linter.unusedVariables false
set_option linter.unusedSectionVars false
open Uni
variable {El : Nat → Type} [Uni El] [UniOK El] {R : Type}
theorem foldset (off : Nat) : ∀ (l : List Value) (k : Nat) (C : Array Value), off + k + l.length ≤ C.size →
    ((l.zipIdx k).foldl (fun cs p => cs.setIfInBounds (off + p.2) p.1) C).size = C.size ∧
    ∀ (j : Nat), ((l.zipIdx k).foldl (fun cs p => cs.setIfInBounds (off + p.2) p.1) C)[j]? = if off + k ≤ j ∧ j < off + k + l.length then l[j - (off + k)]? else C[j]? := by
  intro l
  induction l with
  | nil =>
    intro k C h
    refine ⟨rfl, fun j => ?_⟩
    rw [if_neg (by simp)]
    rfl
  | cons v l ih =>
    intro k C h
    simp only [List.zipIdx_cons, List.foldl_cons]
    have h' : off + (k + 1) + l.length ≤ (C.setIfInBounds (off + k) v).size := by simp at h ⊢; omega
    obtain ⟨i1, i2⟩ := ih (k + 1) (C.setIfInBounds (off + k) v) h'
    refine ⟨by rw [i1]; simp, fun j => ?_⟩
    rw [i2 j]
    simp only [List.length_cons] at h ⊢
    by_cases hj : off + (k + 1) ≤ j ∧ j < off + (k + 1) + l.length
    · rw [if_pos hj, if_pos (by omega)]
      have : j - (off + k) = (j - (off + (k + 1))) + 1 := by omega
      rw [this, List.getElem?_cons_succ]
    · rw [if_neg hj, Array.getElem?_setIfInBounds]
      by_cases hj2 : off + k = j
      · rw [if_pos hj2, if_pos (by omega), if_pos (by omega)]
        have : j - (off + k) = 0 := by omega
        rw [this]
        rfl
      · rw [if_neg hj2, if_neg (by omega)]
def mfill (place : Nat → Option (Nat × Nat)) : List (D El) → List (Nat × D El) → Option (List (D El))
  | cells, [] => some cells
  | cells, (i, d) :: rest =>
    match place i with
    | some (off, size) =>
      match cellsD d with
      | some cs => cond (Nat.beq cs.length size && Nat.ble (off + size) cells.length) (mfill place (splice cells off cs) rest) none
      | none => none
    | none => none
def Pt (w : World) (S : Nat → Prop) (β : Beta) (C : Array Value) (ds : List (D El)) : Prop :=
  C.size = ds.length ∧ ∀ (i : Nat) v d, C[i]? = some v → ds[i]? = some d → VRel w S β v d ∧ d.cell = true
theorem mfill_sound {w : World} {S : Nat → Prop} {β : Beta} {place : Nat → Option (Nat × Nat)} : ∀ {parts : List (Nat × D El)} {vparts : List (Nat × Value)} {cells ds : List (D El)} {C : Array Value}, mfill place cells parts = some ds →
    vparts.map (·.1) = parts.map (·.1) → (∀ (i : Nat) p q, vparts[i]? = some p → parts[i]? = some q → VRel w S β p.2 q.2) → Pt w S β C cells →
    ∃ C', Instr.fill place C vparts = some C' ∧ Pt w S β C' ds := by
  intro parts
  induction parts with
  | nil =>
    intro vparts cells ds C h hm hv hp
    cases vparts with
    | nil => simp [mfill] at h; subst h; exact ⟨C, rfl, hp⟩
    | cons => simp at hm
  | cons q rest ih =>
    intro vparts cells ds C h hm hv hp
    obtain ⟨i, d⟩ := q
    cases vparts with
    | nil => simp at hm
    | cons p vrest =>
      obtain ⟨i', v⟩ := p
      simp only [List.map_cons, List.cons.injEq] at hm
      obtain ⟨rfl, hm⟩ := hm
      unfold mfill at h
      split at h
      · rename_i off size hpl
        split at h
        · rename_i cs hcs
          obtain ⟨hk, h'⟩ := cond_some h
          obtain ⟨k1, k2⟩ := Bool.and_eq_true_iff.1 hk
          have k1 := beq_true k1
          have k2 := Nat.le_of_ble_eq_true k2
          have hvd : VRel w S β v d := hv 0 _ _ rfl rfl
          obtain ⟨c1, c2⟩ := cellsD_sound hcs hvd
          have hfit : off + v.cells.size ≤ C.size := by rw [hp.1, c1, k1]; exact k2
          have hz := foldset off v.cells.toList 0 C (by simpa using hfit)
          have harr : (v.cells.zipIdx.foldl (fun cs (c, j) => cs.setIfInBounds (off + j) c) C) = (v.cells.toList.zipIdx 0).foldl (fun cs p => cs.setIfInBounds (off + p.2) p.1) C := by
            rw [← Array.foldl_toList]
            congr 1
            simp
          have hstep : Instr.fill place C ((i', v) :: vrest) = Instr.fill place (v.cells.zipIdx.foldl (fun cs (c, j) => cs.setIfInBounds (off + j) c) C) vrest := by
            have e1 : (v.cells.size ≠ size) = False := by simp [c1, k1]
            have e2 : ¬ (off + v.cells.size > C.size) := by omega
            simp [Instr.fill, hpl, c1, k1]
            rw [← k1, ← c1]
            omega
          rw [hstep, harr]
          refine ih h' hm (fun j p q a b => hv (j + 1) p q a b) ⟨?_, fun j u e q1 q2 => ?_⟩
          · rw [hz.1, splice_length (by omega)]
            exact hp.1
          · rw [hz.2 j] at q1
            rw [splice_get (by omega)] at q2
            simp only [Nat.add_zero, Array.length_toList] at q1
            by_cases h1 : j < off
            · rw [if_neg (by omega)] at q1
              rw [if_pos h1] at q2
              exact hp.2 j u e q1 q2
            · rw [if_neg h1] at q2
              by_cases h2 : j < off + cs.length
              · rw [if_pos h2] at q2
                rw [if_pos (by omega), Array.getElem?_toList] at q1
                exact c2 _ u e q1 q2
              · rw [if_neg h2] at q2
                rw [if_neg (by omega)] at q1
                exact hp.2 j u e q1 q2
        · cases h
      · cases h
end Go.M
namespace Go.M
set_option linter.unusedVariables false
set_option linter.unusedSectionVars false
open Uni
variable {El : Nat → Type} [Uni El] [UniOK El] {R : Type}
def mplace (P : Program) (t : Nat) : Option (Nat → Option (Nat × Nat)) :=
  match P.underlying t with
  | some (.struct fs) =>
    match fs.toList.mapM fun f => (P.info? f.type).map fun i => (f.offset, i.size) with
    | some places => some fun i => places[i]?
    | none => none
  | some (.array _ e) =>
    match P.info? e with
    | some i => some fun j => some (j * i.size, i.size)
    | none => none
  | _ => none
def mbuild (P : Program) (t : Nat) (parts : List (Nat × D El)) (K : D El → Option R) : Option R :=
  match mzero P t, mplace P t with
  | some zs, some place =>
    match mfill place zs parts with
    | some ds => K (.agg ds)
    | none => none
  | _, _ => none
theorem pt_agg {w : World} {S : Nat → Prop} {β : Beta} {C : Array Value} {ds : List (D El)} (h : Pt w S β C ds) : VRel w S β (.agg C) (.agg ds) := by
  refine .agg _ _ h.1 (fun i v d p q => (h.2 i v d p q).1) (fun d hd => ?_)
  obtain ⟨i, hi⟩ := List.mem_iff_getElem?.1 hd
  have hlt : i < C.size := by rw [h.1]; exact (List.getElem?_eq_some_iff.1 hi).1
  exact (h.2 i C[i] d (by simp [hlt]) hi).2
theorem mbuild_sound {P : Program} {t : Nat} {parts : List (Nat × D El)} {K : D El → Option R} {r : R} (h : mbuild P t parts K = some r) : ∃ d, K d = some r ∧
    ∀ {w S β} (vparts : Array (Nat × Value)), vparts.toList.map (·.1) = parts.map (·.1) → (∀ (i : Nat) p q, vparts.toList[i]? = some p → parts[i]? = some q → VRel w S β p.2 q.2) →
      ∃ v, (∀ w', (Instr.build t vparts).run P w' = .ok v w') ∧ VRel w S β v d := by
  unfold mbuild at h
  split at h
  · rename_i zs place hz hpl
    split at h
    · rename_i ds hds
      refine ⟨_, h, fun {w S β} vparts hm hv => ?_⟩
      obtain ⟨i, z, hi, hz1, hs, hrun, hc⟩ := mzero_sound hz
      obtain ⟨C', f1, f2⟩ := mfill_sound (w := w) (S := S) (β := β) (C := z.cells) hds hm hv ⟨hs, fun j v d p q => hc w S β j v d p q⟩
      refine ⟨.agg C', fun w' => run_build w' t vparts C' ?_, pt_agg f2⟩
      unfold mplace at hpl
      split at hpl
      · rename_i fs hu
        split at hpl
        · rename_i places hp
          obtain rfl := Option.some.inj hpl
          simp [Program.built, hi, hz1, hu, hp, f1]
        · cases hpl
      · rename_i n e hu
        split at hpl
        · rename_i ie hie
          obtain rfl := Option.some.inj hpl
          simp [Program.built, hi, hz1, hu, hie, f1]
        · cases hpl
      · cases hpl
    · cases h
  · cases h
theorem mfill_length {place : Nat → Option (Nat × Nat)} : ∀ {parts : List (Nat × D El)} {cells ds : List (D El)}, mfill place cells parts = some ds → ds.length = cells.length := by
  intro parts
  induction parts with
  | nil => intro cells ds h; simp [mfill] at h; rw [h]
  | cons q rest ih =>
    intro cells ds h
    obtain ⟨i, d⟩ := q
    unfold mfill at h
    split at h
    · split at h
      · rename_i off size hpl cs hcs
        obtain ⟨hk, h'⟩ := cond_some h
        obtain ⟨k1, k2⟩ := Bool.and_eq_true_iff.1 hk
        have k1 := beq_true k1
        have k2 := Nat.le_of_ble_eq_true k2
        rw [ih h', splice_length (by omega)]
      · cases h
    · cases h
def chunks (t : Nat) : Nat → List (D El) → Option (List (El t))
  | 0, _ => some []
  | n + 1, ds =>
    match dec t (ds.take (width El t)) with
    | some x => match chunks t n (ds.drop (width El t)) with
      | some l => some (x :: l)
      | none => none
    | none => none
theorem chunks_sound {t : Nat} : ∀ {n : Nat} {ds : List (D El)} {l : List (El t)}, chunks t n ds = some l → l.length = n ∧ ∀ {w S β} {vs : List Value}, (∀ (i : Nat) v d, vs[i]? = some v → ds[i]? = some d → VRel w S β v d) → vs.length = ds.length → RowsRel w S β t l vs := by
  intro n
  induction n with
  | zero =>
    intro ds l h
    simp [chunks] at h
    subst h
    exact ⟨rfl, fun {w S β vs} _ _ i x j d q => by simp at q⟩
  | succ n ih =>
    intro ds l h
    unfold chunks at h
    split at h
    · rename_i x hx
      split at h
      · rename_i l' hl'
        obtain rfl := Option.some.inj h
        obtain ⟨i1, i2⟩ := ih hl'
        refine ⟨by simp [i1], fun {w S β vs} hv hlen => ?_⟩
        have hdl := UniOK.dec_len t _ x hx
        have hwl : width El t ≤ ds.length := by rw [List.length_take] at hdl; omega
        intro i y j d q1 q2
        have hj : j < width El t := by rw [← enc_len t y]; exact (List.getElem?_eq_some_iff.1 q2).1
        cases i with
        | zero =>
          simp at q1
          subst q1
          have hjd : j < ds.length := by omega
          have hjv : j < vs.length := by omega
          refine ⟨vs[j], by simp [hjv], ?_⟩
          refine UniOK.dec_rel t _ x hx j ds[j] d ?_ q2 w S β _ (hv j _ _ (by simp [hjv]) (by simp [hjd]))
          rw [List.getElem?_take, if_pos hj]
          simp [hjd]
        | succ i =>
          rw [List.getElem?_cons_succ] at q1
          obtain ⟨u, k1, k2⟩ := i2 (vs := vs.drop (width El t)) (fun i v d a b => by
            rw [List.getElem?_drop] at a b
            exact hv _ v d a b) (by simp [hlen]) i y j d q1 q2
          refine ⟨u, ?_, k2⟩
          rw [List.getElem?_drop] at k1
          rw [← k1]
          congr 1
          rw [Nat.succ_mul]
          omega
      · cases h
    · cases h
def mzeros (n : Nat) (zs : List (D El)) : List (D El) :=
  match n with
  | 0 => []
  | n + 1 => zs ++ mzeros n zs
def mbuildSlice1 (P : Program) (st : St El) (t len : Nat) (parts : List (Nat × D El)) (K : St El → D El → Option R) : Option R :=
  match P.underlying t with
  | some (.slice e) =>
    match P.info? e, mzero P e with
    | some i, some zs =>
      cond (Nat.beq i.size (width El e) && (Nat.ble 1 (len * i.size) && (Nat.ble (len * i.size) 16777216 && Nat.beq zs.length i.size)))
        (match mfill (fun j => some (j * i.size, i.size)) (mzeros len zs) parts with
        | some ds => match chunks e len ds with
          | some l => K (st.new (.arr e l)) (.all st.next (width El e))
          | none => none
        | none => none) none
    | _, _ => none
  | _ => none
theorem mzeros_get (zs : List (D El)) (hz : 0 < zs.length) : ∀ (n j : Nat) d, (mzeros n zs)[j]? = some d → zs[j % zs.length]? = some d
  | 0, j, d, h => by simp [mzeros] at h
  | n + 1, j, d, h => by
    unfold mzeros at h
    rw [List.getElem?_append] at h
    split at h
    · rename_i hj
      rw [Nat.mod_eq_of_lt hj]
      exact h
    · rename_i hj
      have := mzeros_get zs hz n _ d h
      rwa [Nat.mod_eq_sub_mod (by omega)]
theorem mzeros_length (zs : List (D El)) : ∀ n, (mzeros n zs).length = n * zs.length
  | 0 => by simp [mzeros]
  | n + 1 => by simp [mzeros, mzeros_length zs n, Nat.succ_mul]; omega
theorem owned_new (w : World) (C : Array Value) (e size n : Nat) (hs : C.size = n * size) (hm : n ≤ maxLen) : (w.alloc (.cells C e)).ownsRow 0 e size (.slice (some ⟨w.heap.size, 0, none⟩) n n) n C.toList :=
  ⟨by simpa using hs, .inr ⟨w.heap.size, n, C, rfl, Nat.zero_le _, heap_alloc_new w _, Nat.le_refl _, hm, hs, by rw [← hs]; exact List.take_of_length_le (by simp)⟩⟩
theorem mbuildSlice1_sound {P : Program} {st : St El} {t len : Nat} {parts : List (Nat × D El)} {K : St El → D El → Option R} {r : R} (h : mbuildSlice1 P st t len parts K = some r) : ∃ st' d, K st' d = some r ∧
    ∀ {X : Ctx El} {S β a w} (vparts : Array (Nat × Value)), Rel X st S β a w → vparts.toList.map (·.1) = parts.map (·.1) → (∀ (i : Nat) p q, vparts.toList[i]? = some p → parts[i]? = some q → VRel w S β p.2 q.2) →
      ∃ v w' β', (Instr.buildSlice t len vparts).run P w = .ok v w' ∧ Rel X st' S β' a w' ∧ VRel w' S β' v d := by
  unfold mbuildSlice1 at h
  split at h
  · rename_i e hu
    split at h
    · rename_i i zs hi hz
      obtain ⟨hk, h0⟩ := cond_some h
      clear h
      obtain ⟨k1, hk⟩ := Bool.and_eq_true_iff.1 hk
      obtain ⟨k2, hk⟩ := Bool.and_eq_true_iff.1 hk
      obtain ⟨k3, k4⟩ := Bool.and_eq_true_iff.1 hk
      have k1 := beq_true k1
      have k2 := Nat.le_of_ble_eq_true k2
      have k3 := Nat.le_of_ble_eq_true k3
      have k4 := beq_true k4
      split at h0
      · rename_i ds hds
        split at h0
        · rename_i l hl
          refine ⟨_, _, h0, fun {X S β a w} vparts hr hm hv => ?_⟩
          obtain ⟨i', z, hi', hz1, hs, hrun, hc⟩ := mzero_sound hz
          rw [hi] at hi'
          cases hi'
          have hzpos : 0 < zs.length := by
            rcases Nat.eq_zero_or_pos zs.length with h0 | h0
            · rw [← k4, h0] at k2; omega
            · exact h0
          have hpt : Pt w S β ((Array.range (len * i.size)).map (z.cells[· % z.cells.size]!)) (mzeros len zs) := by
            refine ⟨by rw [mzeros_length, k4]; simp, fun j v d q1 q2 => ?_⟩
            have hzd := mzeros_get zs hzpos len j d q2
            have hjm : j % z.cells.size < z.cells.size := Nat.mod_lt _ (by omega)
            rw [Array.getElem?_map] at q1
            have hj : j < len * i.size := by
              have := (List.getElem?_eq_some_iff.1 q2).1
              rwa [mzeros_length, k4] at this
            rw [Array.getElem?_range, if_pos hj] at q1
            simp only [Option.map_some, Option.some.injEq] at q1
            rw [← hs] at hzd
            have hv' : z.cells[j % z.cells.size]? = some v := by
              rw [← q1]
              simp [hjm]
            exact hc w S β _ v d hv' hzd
          obtain ⟨C', f1, f2⟩ := mfill_sound (w := w) (S := S) (β := β) hds hm hv hpt
          obtain ⟨c1, c2⟩ := chunks_sound hl
          have hlen : ds.length = len * i.size := by rw [mfill_length hds, mzeros_length, k4]
          have hrun2 := run_buildSlice (P := P) w t e len vparts C' i z hu hi hz1 (by show ¬ len * i.size > 16777216; omega) (by omega) f1
          have hown := owned_new w C' e (width El e) len (by rw [f2.1, hlen, k1]) (by
            have : len ≤ len * i.size := Nat.le_mul_of_pos_right _ (by rw [← k4]; exact hzpos)
            simp only [maxLen]
            omega)
          rw [← c1] at hown
          obtain ⟨g1, g2⟩ := hr.newArr (Grew.alloc w _) (n := 0) hown (c2 (fun j v d a b => (f2.2 j v d (by simpa using a) b).1) (by simpa using f2.1)) (fun r hr2 => by simp [blkOf] at hr2; omega)
          rw [c1] at g1 g2
          exact ⟨_, _, _, hrun2, g1, g2⟩
        · cases h0
      · cases h0
    · cases h
  · cases h
def emptySlice (P : Program) (t len : Nat) (parts : List (Nat × D El)) : Option Nat :=
  match len, parts, P.underlying t with
  | 0, [], some (.slice e) => match P.info? e with | some _ => some e | none => none
  | _, _, _ => none
def mbuildSlice (P : Program) (st : St El) (t len : Nat) (parts : List (Nat × D El)) (K : St El → D El → Option R) : Option R :=
  match emptySlice P t len parts with
  | some e => K (st.new (.arr e [])) (.all st.next (width El e))
  | none => mbuildSlice1 P st t len parts K
theorem mbuildSlice_sound {P : Program} {st : St El} {t len : Nat} {parts : List (Nat × D El)} {K : St El → D El → Option R} {r : R} (h : mbuildSlice P st t len parts K = some r) : ∃ st' d, K st' d = some r ∧
    ∀ {X : Ctx El} {S β a w} (vparts : Array (Nat × Value)), Rel X st S β a w → vparts.toList.map (·.1) = parts.map (·.1) → (∀ (i : Nat) p q, vparts.toList[i]? = some p → parts[i]? = some q → VRel w S β p.2 q.2) →
      ∃ v w' β', (Instr.buildSlice t len vparts).run P w = .ok v w' ∧ Rel X st' S β' a w' ∧ VRel w' S β' v d := by
  unfold mbuildSlice at h
  split at h
  · rename_i e he
    unfold emptySlice at he
    split at he
    · rename_i e2 hu
      split at he
      · rename_i i hi
        cases he
        refine ⟨_, _, h, fun {X S β a w} vparts hr hm hv => ?_⟩
        have hp : vparts = #[] := by
          cases vparts with
          | mk l =>
            cases l with
            | nil => rfl
            | cons x l => simp at hm
        have hrun : (Instr.buildSlice t 0 vparts).run P w = .ok (.slice (some ⟨w.heap.size, 0, none⟩) 0 0) (w.alloc (.cells #[] e)) := by
          subst hp
          simp [Instr.buildSlice, run_underlying hu, sizeOf, typeInfo, hi, newRow, Instr.fill, List.foldlM]
          rw [show (Array.range 0) = #[] from rfl, Array.map_empty]
        have hown := owned_new w #[] e (width El e) 0 (by simp) (by simp [maxLen])
        obtain ⟨g1, g2⟩ := hr.newArr (Grew.alloc w _) (n := 0) (t := e) (l := []) (vs := []) (by simpa using hown) (fun i x j d q => by simp at q) (fun r hr2 => by simp [blkOf] at hr2; omega)
        exact ⟨_, _, _, hrun, by simpa using g1, by simpa using g2⟩
      · cases he
    · cases he
  · exact mbuildSlice1_sound h
end Go.M
namespace Go.M
set_option linter.unusedVariables false
set_option linter.unusedSectionVars false
open Uni
variable {El : Nat → Type} [Uni El] [UniOK El] {R : Type}
def mmake (P : Program) (st : St El) (t : Nat) (dn dc : D El) (K : St El → D El → Option R) : Option R :=
  match P.underlying t with
  | some (.slice e) =>
    match P.info? e, mzero P e, dn, dc with
    | some i, some zs, .int _ n, .int _ m =>
      match dec e zs with
      | some x =>
        cond (Nat.beq i.size (width El e) && (Nat.ble 1 i.size && Nat.ble (i.bytes * 1000000) 140737488355328))
          (if 0 ≤ n then (if n ≤ 1000000 then (if m = n then K (st.new (.arr e (List.replicate n.toNat x))) (.all st.next (width El e)) else none) else none) else none) none
      | none => none
    | _, _, _, _ => none
  | _ => none
theorem mmake_sound {P : Program} {st : St El} {t : Nat} {dn dc : D El} {K : St El → D El → Option R} {r : R} (h : mmake P st t dn dc K = some r) : ∃ st' d, K st' d = some r ∧
    ∀ {X : Ctx El} {S β a w vn vc}, Rel X st S β a w → VRel w S β vn dn → VRel w S β vc dc → ∃ v w' β', (Instr.makeSlice t vn vc).run P w = .ok v w' ∧ Rel X st' S β' a w' ∧ VRel w' S β' v d := by
  unfold mmake at h
  split at h
  · rename_i e hu
    split at h
    · rename_i i zs kn n kc m hi hz
      split at h
      · rename_i x hx
        obtain ⟨hk, h0⟩ := cond_some h
        clear h
        obtain ⟨k1, hk⟩ := Bool.and_eq_true_iff.1 hk
        obtain ⟨k2, k3⟩ := Bool.and_eq_true_iff.1 hk
        have k1 := beq_true k1
        have k2 := Nat.le_of_ble_eq_true k2
        have k3 := Nat.le_of_ble_eq_true k3
        obtain ⟨hn0, h1⟩ := if_some h0
        obtain ⟨hn1, h2⟩ := if_some h1
        obtain ⟨rfl, h'⟩ := if_some h2
        refine ⟨_, _, h', fun {X S β a w vn vc} hr hvn hvc => ?_⟩
        cases hvn; cases hvc
        obtain ⟨i', z, hi', hz1, hs, hrun, hc⟩ := mzero_sound hz
        rw [hi] at hi'
        cases hi'
        obtain ⟨N, rfl⟩ := Int.eq_ofNat_of_zero_le hn0
        have hzl : zs.length = width El e := UniOK.dec_len e zs x hx
        have hb : (i.bytes : Int) * (N : Int) ≤ 281474976710656 := by
          have : i.bytes * N ≤ i.bytes * 1000000 := Nat.mul_le_mul_left _ (by omega)
          have h3 : ((i.bytes * N : Nat) : Int) ≤ 281474976710656 := by omega
          rwa [Int.natCast_mul] at h3
        have hrun2 := run_make (P := P) w t e i z hu hi hz1 kn kc (N : Int) (N : Int) hn0 (Int.le_refl _) hb (by omega)
        simp only [Int.toNat_natCast] at hrun2
        have hown := owned_new w (madeCells z.cells (N * i.size)) e (width El e) N (by rw [size_madeCells, k1]) (by simp only [maxLen]; omega)
        have hll : (List.replicate N x).length = N := List.length_replicate
        have hown' : (w.alloc (.cells (madeCells z.cells (N * i.size)) e)).ownsRow 0 e (width El e) (.slice (some ⟨w.heap.size, 0, none⟩) N N) (List.replicate N x).length (madeCells z.cells (N * i.size)).toList := by rw [hll]; exact hown
        have hrows : RowsRel w S β e (List.replicate N x) (madeCells z.cells (N * i.size)).toList := by
          intro q y j d q1 q2
          have hj : j < width El e := by rw [← enc_len e y]; exact (List.getElem?_eq_some_iff.1 q2).1
          have hq : q < N := by have := (List.getElem?_eq_some_iff.1 q1).1; rwa [hll] at this
          have hy : y = x := List.eq_of_mem_replicate (List.mem_of_getElem? q1)
          subst hy
          have hqk : q * width El e + j < N * i.size := by
            have : (q + 1) * width El e ≤ N * width El e := Nat.mul_le_mul_right _ hq
            rw [Nat.succ_mul] at this
            rw [k1]
            omega
          have hjz : j < zs.length := by omega
          have hjc : j < z.cells.size := by omega
          have hmod : (q * width El e + j) % z.cells.size = j := by
            rw [hs, hzl, Nat.mul_comm, Nat.mul_add_mod, Nat.mod_eq_of_lt hj]
          refine ⟨z.cells[j], ?_, ?_⟩
          · rw [Array.getElem?_toList]
            unfold madeCells
            rw [Array.getElem?_map, Array.getElem?_range, if_pos hqk]
            simp only [Option.map_some, hmod]
            simp [hjc]
          · exact UniOK.dec_rel e zs y hx j zs[j] d (by simp [hjz]) q2 w S β _ (hc w S β j _ _ (by simp [hjc]) (by simp [hjz])).1
        obtain ⟨g1, g2⟩ := hr.newArr (Grew.alloc w _) (n := 0) hown' hrows (fun r hr2 => by simp [blkOf] at hr2; omega)
        exact ⟨_, _, _, hrun2, by simpa using g1, g2⟩
      · cases h
    · cases h
  · cases h
theorem Rel.ice {X : Ctx El} {st : St El} {S : Nat → Prop} {β : Beta} {a : Act} {w : World} (h : Rel X st S β a w) {o t : Nat} {l : List (El t)} (hlo : look st.objs o = .arr t l) {p : Option Addr} {n c : Nat} {vs : List Value} (hb : β o = some (.slice p n c))
    (h2 : w.ownsRow 0 t (width El t) (.slice p n c) l.length vs) (h3 : RowsRel w S β t l vs) : Rel X (st.turn o (.ice t l)) (fun r => S r ∨ blkOf (.slice p n c) = some r) β a w := by
  have hv : ∀ v (d : D El), VRel w S β v d → VRel w (fun r => S r ∨ blkOf (.slice p n c) = some r) β v d := fun v d k => k.mono (fun r hr => rfl) (fun r hr => .inl hr) (fun _ _ h => h)
  have hlive : (look st.objs o).live = true := by rw [hlo]; rfl
  have lk : ∀ o2, o2 ≠ o → look (st.turn o (.ice t l)).objs o2 = look st.objs o2 := fun o2 hne => by show look (_ :: _) _ = _; rw [look_cons, if_neg (fun q => hne q.symm)]
  have lk0 : look (st.turn o (.ice t l)).objs o = .ice t l := by show look (_ :: _) _ = _; rw [look_cons, if_pos rfl]
  have hlt : ∀ r, blkOf (.slice p n c) = some r → r < w.heap.size := fun r hr => (h.objs o).lt hlive ⟨_, hb, hr⟩
  refine ⟨h.size, fun i => hv _ _ (h.tmps i), h.defers, ?_, ?_, ?_, h.fresh, ?_, fun r hr => .inl (h.stay r hr), h.os, h.tape, h.output, h.grown, h.frame, ?_, h.root⟩
  · intro o2
    by_cases ho : o2 = o
    · subst ho
      rw [lk0]
      exact ⟨_, vs, hb, h2, h3.mono (fun _ _ => rfl) (fun r hr => .inl hr) (fun _ _ h => h), fun r hr => .inr hr⟩
    · rw [lk o2 ho]
      exact (h.objs o2).kept (Grew.refl w (fun _ => False)) (fun _ _ h => h) h.inside (fun _ _ _ h => h) (fun r hr => .inl hr) (fun _ _ h => h)
  · intro o1 o2 v1 v2 r l1 l2 b1 b2 k1 k2
    have n1 : o1 ≠ o := fun e => by subst e; rw [lk0] at l1; cases l1
    have n2 : o2 ≠ o := fun e => by subst e; rw [lk0] at l2; cases l2
    exact h.inj o1 o2 v1 v2 r (by rw [← lk o1 n1]; exact l1) (by rw [← lk o2 n2]; exact l2) b1 b2 k1 k2
  · intro o1 v r l1 b k
    have n1 : o1 ≠ o := fun e => by subst e; rw [lk0] at l1; cases l1
    have l1' : (look st.objs o1).live = true := by rw [← lk o1 n1]; exact l1
    obtain ⟨a1, a2⟩ := h.away o1 v r l1' b k
    refine ⟨?_, a2⟩
    rintro (hs | hs)
    · exact a1 hs
    · exact n1 (h.inj o1 o v _ r l1' hlive b hb k hs)
  · rintro r (hr | hr)
    · exact h.inside r hr
    · exact hlt r hr
  · rintro r (hr | hr) hlt2
    · exact h.old r hr hlt2
    · exact .inr ((h.away o _ r hlive hb hr).2 hlt2)
theorem owned_cap {w : World} {e size n : Nat} {p : Option Addr} {m c : Nat} {xs : List Value} (h : w.ownsRow 0 e size (.slice p m c) n xs) : n ≤ c := by
  rcases h.2 with ⟨hn, hz⟩ | ⟨g, cap, cur, hg, _, _, h3, _⟩
  · omega
  · cases hg; exact h3
theorem frz_of {w : World} {S : Nat → Prop} {β : Beta} {t : Nat} {l : List (El t)} {p : Option Addr} {n c : Nat} {vs : List Value} (h2 : w.ownsRow 0 t (width El t) (.slice p n c) l.length vs) (h3 : RowsRel w S β t l vs) (hS : ∀ r, blkOf (.slice p n c) = some r → S r)
    {off len : Nat} {p' : Option Addr} {c' : Nat} (hle : off + len ≤ n) (hlc : len ≤ c') (z1 : off = 0 → p' = p ∧ c' = c) (z2 : off ≠ 0 → len ≠ 0 → ∃ r, p = some ⟨r, 0, none⟩ ∧ p' = some ⟨r, off * width El t, none⟩) :
    VRel w S β (.slice p' len c') (.frz t ((l.drop off).take len) : D El) := by
  have hn := owned_len h2
  subst hn
  have hlen : ((l.drop off).take len).length = len := by simp; omega
  rcases Nat.eq_zero_or_pos len with rfl | hpos
  · rw [List.take_zero]
    exact .frz0 _ _ _
  rcases h2.2 with ⟨hz, hz2⟩ | ⟨g, cap, cur, hg, q1, q2, q3, q4, q5, q6⟩
  · omega
  cases hg
  have hp : p' = some ⟨g, off * width El t, none⟩ := by
    by_cases ho : off = 0
    · rw [(z1 ho).1, ho]; simp
    · obtain ⟨r, e1, e2⟩ := z2 ho (by omega)
      cases e1
      exact e2
  subst hp
  have key : ∀ (i : Nat) x (j : Nat) d, ((l.drop off).take len)[i]? = some x → (enc t x)[j]? = some d → ∃ u, cur[off * width El t + i * width El t + j]? = some u ∧ VRel w S β u d := by
    intro i x j d a1 a2
    rw [List.getElem?_take] at a1
    split at a1
    · rw [List.getElem?_drop] at a1
      obtain ⟨u, b1, b2⟩ := h3 (off + i) x j d a1 a2
      refine ⟨u, ?_, b2⟩
      rw [← q6, List.getElem?_take] at b1
      split at b1
      · rw [Array.getElem?_toList, Nat.add_mul] at b1
        exact b1
      · cases b1
    · cases a1
  have := VRel.frz (w := w) (S := S) (β := β) g (off * width El t) c' t ((l.drop off).take len) cur t (0, 0) (fun i j => (cur[off * width El t + i * width El t + j]?).getD undef) (hS g rfl) q2
    (fun i x j d a1 a2 => by obtain ⟨u, b1, b2⟩ := key i x j d a1 a2; simp [b1])
    (fun i x j d a1 a2 => by obtain ⟨u, b1, b2⟩ := key i x j d a1 a2; simp only [b1, Option.getD_some]; exact b2) (by rw [hlen]; exact hlc)
  rw [hlen] at this
  exact this
def mfreeze (st : St El) (d : D El) (K : St El → D El → Option R) : Option R :=
  match d with
  | .all o k =>
    match look st.objs o with
    | .arr t l => K (st.turn o (.ice t l)) (.frz t l)
    | .ice t l => K st (.frz t l)
    | _ => none
  | .sl o k off len =>
    match look st.objs o with
    | .arr t l => cond (Nat.beq k (width El t)) (K (st.turn o (.ice t l)) (.frz t ((l.drop off).take len))) none
    | .ice t l => cond (Nat.beq k (width El t)) (K st (.frz t ((l.drop off).take len))) none
    | _ => none
  | d => K st d
theorem mfreeze_sound {st : St El} {d : D El} {K : St El → D El → Option R} {r : R} (h : mfreeze st d K = some r) : ∃ st' d', K st' d' = some r ∧
    ∀ {X : Ctx El} {S β a w v}, Rel X st S β a w → VRel w S β v d → ∃ S', (∀ r, S r → S' r) ∧ Rel X st' S' β a w ∧ VRel w S' β v d' := by
  unfold mfreeze at h
  split at h
  · rename_i o k
    split at h
    · rename_i t l hlo
      refine ⟨_, _, h, fun {X S β a w v} hr hv => ?_⟩
      have ho := hr.objs o
      rw [hlo] at ho
      obtain ⟨v0, vs, g1, g2, g3⟩ := ho
      cases hv with
      | all _ _ p n c hb =>
        rw [g1] at hb
        cases hb
        have hn := owned_len g2
        refine ⟨_, fun r hr => .inl hr, hr.ice hlo g1 g2 g3, ?_⟩
        have := frz_of (S := fun r => S r ∨ blkOf (.slice p n c) = some r) (β := β) g2 (g3.mono (fun _ _ => rfl) (fun r hr => .inl hr) (fun _ _ h => h)) (fun r hr => .inr hr) (off := 0) (len := n) (p' := p) (c' := c) (by omega) (by rw [hn]; exact owned_cap g2) (fun _ => ⟨rfl, rfl⟩) (fun e => absurd rfl e)
        subst hn
        rw [List.drop_zero, List.take_length] at this
        exact this
    · rename_i t l hlo
      refine ⟨_, _, h, fun {X S β a w v} hr hv => ?_⟩
      have ho := hr.objs o
      rw [hlo] at ho
      obtain ⟨v0, vs, g1, g2, g3, g4⟩ := ho
      cases hv with
      | all _ _ p n c hb =>
        rw [g1] at hb
        cases hb
        have hn := owned_len g2
        refine ⟨S, fun r hr => hr, hr, ?_⟩
        have := frz_of (β := β) g2 g3 g4 (off := 0) (len := n) (p' := p) (c' := c) (by omega) (by rw [hn]; exact owned_cap g2) (fun _ => ⟨rfl, rfl⟩) (fun e => absurd rfl e)
        subst hn
        rw [List.drop_zero, List.take_length] at this
        exact this
    · cases h
  · rename_i o k off len
    split at h
    · rename_i t l hlo
      obtain ⟨hk, h'⟩ := cond_some h
      have hk := beq_true hk
      refine ⟨_, _, h', fun {X S β a w v} hr hv => ?_⟩
      have ho := hr.objs o
      rw [hlo] at ho
      obtain ⟨v0, vs, g1, g2, g3⟩ := ho
      cases hv with
      | sl _ _ _ _ p n cap p' c' hb hle hlc z1 z2 =>
        rw [g1] at hb
        cases hb
        refine ⟨_, fun r hr => .inl hr, hr.ice hlo g1 g2 g3, ?_⟩
        exact frz_of (β := β) g2 (g3.mono (fun _ _ => rfl) (fun r hr => .inl hr) (fun _ _ h => h)) (fun r hr => .inr hr) hle hlc z1 (fun a b => by rw [← hk]; exact z2 a b)
    · rename_i t l hlo
      obtain ⟨hk, h'⟩ := cond_some h
      have hk := beq_true hk
      refine ⟨_, _, h', fun {X S β a w v} hr hv => ?_⟩
      have ho := hr.objs o
      rw [hlo] at ho
      obtain ⟨v0, vs, g1, g2, g3, g4⟩ := ho
      cases hv with
      | sl _ _ _ _ p n cap p' c' hb hle hlc z1 z2 =>
        rw [g1] at hb
        cases hb
        exact ⟨S, fun r hr => hr, hr, frz_of (β := β) g2 g3 g4 hle hlc z1 (fun a b => by rw [← hk]; exact z2 a b)⟩
    · cases h
  · exact ⟨_, _, h, fun {X S β a w v} hr hv => ⟨S, fun r hr => hr, hr, hv⟩⟩
end Go.M
namespace Go.M
set_option linter.unusedVariables false
set_option linter.unusedSectionVars false
open Uni
variable {El : Nat → Type} [Uni El] [UniOK El] {R : Type}
def msub {α : Type} (l : List α) : Option Int → Option Int → List α
  | none, none => l
  | some a, none => l.drop a.toNat
  | none, some b => l.take b.toNat
  | some a, some b => (l.take b.toNat).drop a.toNat
def mbound : Option (D El) → Option (Option Int)
  | none => some none
  | some (.int _ n) => some (some n)
  | some _ => none
def mguard (a b : Option Int) (n : Nat) (x : Option R) : Option R :=
  match a, b with
  | none, none => x
  | some a, none => if 0 ≤ a then (if a ≤ (n : Int) then x else none) else none
  | none, some b => if 0 ≤ b then (if b ≤ (n : Int) then x else none) else none
  | some a, some b => if 0 ≤ a then (if a ≤ b then (if b ≤ (n : Int) then x else none) else none) else none
def lowOf (a : Option Int) : Nat := (a.getD 0).toNat
def highOf (b : Option Int) (n : Nat) : Nat := match b with | some b => b.toNat | none => n
theorem mguard_some {a b : Option Int} {n : Nat} {x : Option R} {r : R} (h : mguard a b n x = some r) : x = some r ∧ lowOf a ≤ highOf b n ∧ highOf b n ≤ n ∧ (∀ z, a = some z → 0 ≤ z) ∧ (∀ z, b = some z → 0 ≤ z) := by
  unfold mguard at h
  split at h
  · exact ⟨h, by simp [lowOf, highOf], by simp [highOf], (fun z e => by cases e), (fun z e => by cases e)⟩
  · obtain ⟨h1, h⟩ := if_some h
    obtain ⟨h2, h⟩ := if_some h
    exact ⟨h, by simp [lowOf, highOf]; omega, by simp [highOf], (fun z e => by cases e; exact h1), (fun z e => by cases e)⟩
  · obtain ⟨h1, h⟩ := if_some h
    obtain ⟨h2, h⟩ := if_some h
    exact ⟨h, by simp [lowOf, highOf], by simp [highOf]; omega, (fun z e => by cases e), (fun z e => by cases e; exact h1)⟩
  · obtain ⟨h1, h⟩ := if_some h
    obtain ⟨h2, h⟩ := if_some h
    obtain ⟨h3, h⟩ := if_some h
    exact ⟨h, by simp [lowOf, highOf]; omega, by simp [highOf]; omega, (fun z e => by cases e; exact h1), (fun z e => by cases e; omega)⟩
theorem msub_eq {α : Type} (l : List α) (a b : Option Int) (h : highOf b l.length ≤ l.length) : msub l a b = (l.drop (lowOf a)).take (highOf b l.length - lowOf a) := by
  cases a <;> cases b <;> simp [msub, lowOf, highOf, List.drop_take] <;> first | done | (rw [List.take_of_length_le]; simp)
def BRel (w : World) (S : Nat → Prop) (β : Beta) : Option Value → Option (D El) → Prop
  | none, none => True
  | some v, some d => VRel w S β v d
  | _, _ => False
theorem bound_val {w : World} {S : Nat → Prop} {β : Beta} {v : Option Value} {d : Option (D El)} {a : Option Int} (h : mbound d = some a) (hr : BRel w S β v d) : (v = none ∧ a = none) ∨ ∃ k n, v = some (.int k n) ∧ a = some n := by
  unfold mbound at h
  split at h
  · cases v with
    | none => cases h; exact .inl ⟨rfl, rfl⟩
    | some v => exact hr.elim
  · cases v with
    | none => exact hr.elim
    | some v => cases h; cases hr; exact .inr ⟨_, _, rfl, rfl⟩
  · cases h
theorem run_slicing {P : Program} (w : World) {t e : Nat} {i : TypeInfo} (hu : P.underlying t = some (.slice e)) (hi : P.info? e = some i) (p : Option Addr) (len cap : Nat) {vl vh : Option Value} {a b : Option Int}
    (ha : (vl = none ∧ a = none) ∨ ∃ k n, vl = some (.int k n) ∧ a = some n) (hb : (vh = none ∧ b = none) ∨ ∃ k n, vh = some (.int k n) ∧ b = some n)
    (h1 : lowOf a ≤ highOf b len) (h2 : highOf b len ≤ cap) (h3 : ∀ z, a = some z → 0 ≤ z) (h4 : ∀ z, b = some z → 0 ≤ z) :
    (Instr.sliceAt t (.slice p len cap) vl vh none).run P w = .ok (.slice (if cap = lowOf a then p else p.map (·.add (lowOf a * i.size))) (highOf b len - lowOf a) (cap - lowOf a)) w := by
  rcases ha with ⟨rfl, rfl⟩ | ⟨k, n, rfl, rfl⟩ <;> rcases hb with ⟨rfl, rfl⟩ | ⟨k', m, rfl, rfl⟩
  · simp [Instr.sliceAt, Instr.slice, run_underlying hu, Instr.sliceBounds, sizeOf, typeInfo, hi, lowOf, highOf]
  · have hm := h4 m rfl
    simp only [highOf, lowOf, Option.getD_none, Int.toNat_zero] at h1 h2 ⊢
    have e : (m : Int) ≤ (cap : Int) := by omega
    simp [Instr.sliceAt, Instr.slice, run_underlying hu, Instr.sliceBounds, run_sliceBound, sizeOf, typeInfo, hi, hm, e]
  · have hn := h3 n rfl
    simp only [highOf, lowOf, Option.getD_some] at h1 h2 ⊢
    have e : (n : Int) ≤ (len : Int) := by omega
    simp [Instr.sliceAt, Instr.slice, run_underlying hu, Instr.sliceBounds, run_sliceBound, sizeOf, typeInfo, hi, hn, e]
    rfl
  · have hn := h3 n rfl
    have hm := h4 m rfl
    simp only [highOf, lowOf, Option.getD_some] at h1 h2 ⊢
    have e : (m : Int) ≤ (cap : Int) := by omega
    have e2 : n ≤ ((m.toNat : Nat) : Int) := by omega
    simp [Instr.sliceAt, Instr.slice, run_underlying hu, Instr.sliceBounds, run_sliceBound, sizeOf, typeInfo, hi, hn, hm, e]
    rw [run_sliceBound w k n m.toNat .sliceB hn e2]
    rfl
def mslice (P : Program) (st : St El) (t : Nat) (d : D El) (lo hi : Option (D El)) (K : D El → Option R) : Option R :=
  match mbound lo, mbound hi with
  | some a, some b =>
    match P.underlying t with
    | some .string =>
      match d with
      | .str s => mguard a b s.size (K (.str (s.extract (lowOf a) (highOf b s.size))))
      | _ => none
    | some (.slice e) =>
      match P.info? e with
      | some i =>
        match d with
        | .frz t' l => cond (Nat.beq i.size (width El t')) (mguard a b l.length (K (.frz t' (msub l a b)))) none
        | .all o k =>
          match look st.objs o with
          | .arr _ l => cond (Nat.beq i.size k) (mguard a b l.length (K (.sl o k (lowOf a) (highOf b l.length - lowOf a)))) none
          | .ice _ l => cond (Nat.beq i.size k) (mguard a b l.length (K (.sl o k (lowOf a) (highOf b l.length - lowOf a)))) none
          | _ => none
        | .nilsl => mguard a b 0 (K .nilsl)
        | _ => none
      | none => none
    | _ => none
  | _, _ => none
theorem run_slicing_string {P : Program} (w : World) {t : Nat} (hu : P.underlying t = some .string) (s : ByteArray) {vl vh : Option Value} {a b : Option Int}
    (ha : (vl = none ∧ a = none) ∨ ∃ k n, vl = some (.int k n) ∧ a = some n) (hb : (vh = none ∧ b = none) ∨ ∃ k n, vh = some (.int k n) ∧ b = some n)
    (h1 : lowOf a ≤ highOf b s.size) (h2 : highOf b s.size ≤ s.size) (h3 : ∀ z, a = some z → 0 ≤ z) (h4 : ∀ z, b = some z → 0 ≤ z) :
    (Instr.sliceAt t (.string s) vl vh none).run P w = .ok (.string (s.extract (lowOf a) (highOf b s.size))) w := by
  rcases ha with ⟨rfl, rfl⟩ | ⟨k, n, rfl, rfl⟩ <;> rcases hb with ⟨rfl, rfl⟩ | ⟨k', m, rfl, rfl⟩
  · simp [Instr.sliceAt, Instr.slice, run_underlying hu, Instr.sliceBounds, lowOf, highOf]
  · have hm := h4 m rfl
    simp only [highOf, lowOf, Option.getD_none, Int.toNat_zero] at h1 h2 ⊢
    have e : (m : Int) ≤ (s.size : Int) := by omega
    simp [Instr.sliceAt, Instr.slice, run_underlying hu, Instr.sliceBounds, run_sliceBound, hm, e]
  · have hn := h3 n rfl
    simp only [highOf, lowOf, Option.getD_some] at h1 h2 ⊢
    have e : (n : Int) ≤ (s.size : Int) := by omega
    simp [Instr.sliceAt, Instr.slice, run_underlying hu, Instr.sliceBounds, run_sliceBound, hn, e]
  · have hn := h3 n rfl
    have hm := h4 m rfl
    simp only [highOf, lowOf, Option.getD_some] at h1 h2 ⊢
    have e : (m : Int) ≤ (s.size : Int) := by omega
    have e2 : n ≤ ((m.toNat : Nat) : Int) := by omega
    simp [Instr.sliceAt, Instr.slice, run_underlying hu, Instr.sliceBounds, run_sliceBound, hn, hm, e]
    rw [run_sliceBound w k n m.toNat .sliceB hn e2]
    rfl
theorem mslice_sound {P : Program} {st : St El} {t : Nat} {d : D El} {lo hi : Option (D El)} {K : D El → Option R} {r : R} (h : mslice P st t d lo hi K = some r) : ∃ e, K e = some r ∧
    ∀ {X : Ctx El} {S β a w v vl vh}, Rel X st S β a w → VRel w S β v d → BRel w S β vl lo → BRel w S β vh hi → ∃ u, (∀ w', (Instr.sliceAt t v vl vh none).run P w' = .ok u w') ∧ VRel w S β u e := by
  unfold mslice at h
  split at h
  · rename_i a b hlo hhi
    split at h
    · rename_i hu
      split at h
      · rename_i s
        obtain ⟨h', g1, g2, g3, g4⟩ := mguard_some h
        refine ⟨_, h', fun {X S β ac w v vl vh} hr hv hl hh => ?_⟩
        cases hv
        exact ⟨_, fun w' => run_slicing_string w' hu s (bound_val hlo hl) (bound_val hhi hh) g1 g2 g3 g4, .str _⟩
      · cases h
    · rename_i e hu
      split at h
      · rename_i i hinf
        have own : ∀ {t' : Nat} {l : List (El t')} {o k : Nat}, Nat.beq i.size k = true → lowOf a ≤ highOf b l.length → highOf b l.length ≤ l.length → (∀ z, a = some z → 0 ≤ z) → (∀ z, b = some z → 0 ≤ z) →
            ∀ {w : World} {S β v vl vh v0 vs}, β o = some v0 → w.ownsRow 0 t' (width El t') v0 l.length vs → VRel w S β v (.all o k : D El) → BRel w S β vl lo → BRel w S β vh hi →
            ∃ u, (∀ w', (Instr.sliceAt t v vl vh none).run P w' = .ok u w') ∧ VRel w S β u (.sl o k (lowOf a) (highOf b l.length - lowOf a) : D El) := by
          intro t' l o k hk g1 g2 g3 g4 w S β v vl vh v0 vs q1 q2 hv hl hh
          cases hv with
          | all _ _ p n c hb2 =>
            rw [q1] at hb2
            cases hb2
            have hn := owned_len q2
            have hc := owned_cap q2
            have k1 := beq_true hk
            subst hn
            refine ⟨_, fun w' => run_slicing w' hu hinf p _ c (bound_val hlo hl) (bound_val hhi hh) g1 (by omega) g3 g4, .sl o k _ _ p _ c _ _ q1 (by omega) (by omega) (fun e => ?_) (fun e1 e2 => ?_)⟩
            · rw [e]
              refine ⟨?_, by omega⟩
              split
              · rfl
              · cases p <;> simp [Addr.add]
            · rcases q2.2 with ⟨hz, hz2⟩ | ⟨g, cap, cur, hg, _⟩
              · omega
              · cases hg
                refine ⟨g, rfl, ?_⟩
                rw [if_neg (by omega)]
                simp [add_off, k1]
        split at h
        · rename_i t' l
          obtain ⟨hk, h0⟩ := cond_some h
          have k1 := beq_true hk
          obtain ⟨h', g1, g2, g3, g4⟩ := mguard_some h0
          refine ⟨_, h', fun {X S β ac w v vl vh} hr hv hl hh => ?_⟩
          rw [msub_eq l a b g2]
          cases hv with
          | frz0 p c _ =>
            refine ⟨_, fun w' => run_slicing w' hu hinf p 0 c (bound_val hlo hl) (bound_val hhi hh) g1 (by simp at g2; omega) g3 g4, ?_⟩
            have e : highOf b 0 - lowOf a = 0 := by simp at g2; omega
            simp only [List.length_nil, e, List.drop_nil, List.take_nil]
            exact .frz0 _ _ _
          | frz g off cap _ _ C ty fr vs z1 z2 z3 z4 z5 =>
            refine ⟨_, fun w' => run_slicing w' hu hinf _ _ cap (bound_val hlo hl) (bound_val hhi hh) g1 (by omega) g3 g4, ?_⟩
            have hlen : ((l.drop (lowOf a)).take (highOf b l.length - lowOf a)).length = highOf b l.length - lowOf a := by simp; omega
            rcases Nat.eq_zero_or_pos (highOf b l.length - lowOf a) with e | hpos
            · rw [e, List.take_zero]
              exact .frz0 _ _ _
            · rw [if_neg (by omega)]
              simp only [Option.map_some, add_off, k1]
              have key : ∀ (j : Nat) x, ((l.drop (lowOf a)).take (highOf b l.length - lowOf a))[j]? = some x → l[lowOf a + j]? = some x := by
                intro j x hx
                rw [List.getElem?_take] at hx
                split at hx
                · rwa [List.getElem?_drop] at hx
                · cases hx
              have := VRel.frz (w := w) (S := S) (β := β) g (off + lowOf a * width El t') (cap - lowOf a) t' ((l.drop (lowOf a)).take (highOf b l.length - lowOf a)) C ty fr (fun i j => vs (lowOf a + i) j) z1 z2
                (fun i x j d q1 q2 => by
                  rw [← z3 (lowOf a + i) x j d (key i x q1) q2]
                  congr 1
                  rw [Nat.add_mul]
                  omega)
                (fun i x j d q1 q2 => z4 (lowOf a + i) x j d (key i x q1) q2) (by rw [hlen]; omega)
              rw [hlen] at this
              exact this
        · rename_i o k
          split at h
          · rename_i t' l hl0
            obtain ⟨hk, h0⟩ := cond_some h
            obtain ⟨h', g1, g2, g3, g4⟩ := mguard_some h0
            refine ⟨_, h', fun {X S β ac w v vl vh} hr hv hl hh => ?_⟩
            have ho := hr.objs o
            rw [hl0] at ho
            obtain ⟨v0, vs, q1, q2, q3⟩ := ho
            exact own hk g1 g2 g3 g4 q1 q2 hv hl hh
          · rename_i t' l hl0
            obtain ⟨hk, h0⟩ := cond_some h
            obtain ⟨h', g1, g2, g3, g4⟩ := mguard_some h0
            refine ⟨_, h', fun {X S β ac w v vl vh} hr hv hl hh => ?_⟩
            have ho := hr.objs o
            rw [hl0] at ho
            obtain ⟨v0, vs, q1, q2, q3, _⟩ := ho
            exact own hk g1 g2 g3 g4 q1 q2 hv hl hh
          · cases h
        · obtain ⟨h', g1, g2, g3, g4⟩ := mguard_some h
          refine ⟨_, h', fun {X S β ac w v vl vh} hr hv hl hh => ?_⟩
          cases hv
          refine ⟨_, fun w' => run_slicing w' hu hinf none 0 0 (bound_val hlo hl) (bound_val hhi hh) g1 g2 g3 g4, ?_⟩
          have e1 : highOf b 0 - lowOf a = 0 := by omega
          simp only [e1, Nat.zero_sub, Option.map_none, ite_self]
          exact .nilsl
        · cases h
      · cases h
    · cases h
  · cases h
end Go.M
namespace Go.M
set_option linter.unusedVariables false
set_option linter.unusedSectionVars false
open Uni
variable {El : Nat → Type} [Uni El] [UniOK El] {R : Type}
def eqK : Value → Value → Bool
  | .string a, .string b => a == b
  | .int j a, .int k b => if j = k then a == b else false
  | _, _ => false
def mix {α : Type} (k : Value) : List (Value × α) → Nat → Option (Nat × α)
  | [], _ => none
  | y :: r, i => cond (eqK k y.1) (some (i, y.2)) (mix k r (i + 1))
def mhas {α : Type} (l : List (Value × α)) (k : Value) : Bool := (mix k l 0).isSome
def mgetD {α : Type} (l : List (Value × α)) (k : Value) (z : α) : α := match mix k l 0 with | some p => p.2 | none => z
def mput {α : Type} (l : List (Value × α)) (k : Value) (x : α) : List (Value × α) := match mix k l 0 with | some p => l.set p.1 (k, x) | none => l ++ [(k, x)]
def kdesc : Option IntKind → TypeDesc
  | none => .string
  | some k => .int k
def keyD (kk : Option IntKind) (d : D El) : Option Value :=
  match kk, d with
  | none, .str s => some (.string s)
  | some k, .int k' n => if k' = k then some (.int k n) else none
  | _, _ => none
theorem keyD_ok {kk : Option IntKind} {d : D El} {v : Value} (h : keyD kk d = some v) : keyOK kk v ∧ ∀ {w S β u}, VRel w S β u d → u = v := by
  unfold keyD at h
  split at h
  · cases h
    exact ⟨⟨_, rfl⟩, fun {w S β u} hv => by cases hv; rfl⟩
  · split at h
    · rename_i hk
      subst hk
      cases h
      exact ⟨⟨_, rfl⟩, fun {w S β u} hv => by cases hv; rfl⟩
    · cases h
  · cases h
def kkOf (P : Program) (t : Nat) : Option (Option IntKind) :=
  match P.underlying t with
  | some .string => some none
  | some (.int k) => some (some k)
  | _ => none
theorem kkOf_ok {P : Program} {t : Nat} {kk : Option IntKind} (h : kkOf P t = some kk) : P.underlying t = some (kdesc kk) := by
  unfold kkOf at h
  split at h
  · rename_i hu; cases h; exact hu
  · rename_i k hu; cases h; exact hu
  · cases h
theorem isKey_ok {kk : Option IntKind} {v : Value} (h : keyOK kk v) : MapKept.IsKey (kdesc kk) v := by
  cases kk with
  | none => obtain ⟨s, rfl⟩ := h; simp [kdesc, MapKept.IsKey]
  | some k => obtain ⟨n, rfl⟩ := h; simp [kdesc, MapKept.IsKey]
theorem sameNow_eq {kk : Option IntKind} {u v : Value} (h1 : keyOK kk u) (h2 : keyOK kk v) : Instr.sameNow (kdesc kk) u v = some (eqK u v) := by
  cases kk with
  | none => obtain ⟨s, rfl⟩ := h1; obtain ⟨s2, rfl⟩ := h2; rfl
  | some k => obtain ⟨n, rfl⟩ := h1; obtain ⟨n2, rfl⟩ := h2; simp [Instr.sameNow, kdesc, eqK]
def FitM {α : Type} (kk : Option IntKind) (es : List MapEntry) (l : List (Value × α)) : Prop := es.length = l.length ∧ ∀ (i : Nat) x y, es[i]? = some x → l[i]? = some y → x.key = y.1 ∧ keyOK kk y.1
theorem findNow_eq {α : Type} {kk : Option IntKind} {k : Value} (hk : keyOK kk k) : ∀ {es : List MapEntry} {l : List (Value × α)} {i : Nat}, FitM kk es l →
    (match mix k l i with
    | some p => ∃ j x, i + j = p.1 ∧ es[j]? = some x ∧ l[j]? = some (x.key, p.2) ∧ eqK k x.key = true ∧ Instr.findNow (kdesc kk) k es i = some (some (p.1, x.val))
    | none => Instr.findNow (kdesc kk) k es i = some none) := by
  intro es
  induction es with
  | nil =>
    intro l i h
    cases l with
    | nil => rfl
    | cons y l => have := h.1; simp at this
  | cons x es ih =>
    intro l i h
    cases l with
    | nil => have := h.1; simp at this
    | cons y l =>
      obtain ⟨e1, e2⟩ := h.2 0 x y rfl rfl
      have hf : FitM kk es l := ⟨by have := h.1; simpa using this, fun j a b p q => h.2 (j + 1) a b (by simpa using p) (by simpa using q)⟩
      have hs : Instr.sameNow (kdesc kk) k x.key = some (eqK k y.1) := by rw [e1]; exact sameNow_eq hk e2
      unfold mix
      cases hb : eqK k y.1 with
      | true =>
        simp only [cond_true]
        refine ⟨0, x, rfl, rfl, by rw [e1]; rfl, by rw [e1]; exact hb, ?_⟩
        unfold Instr.findNow
        rw [hs, hb]
      | false =>
        simp only [cond_false]
        have := ih (i := i + 1) hf
        have hfn : Instr.findNow (kdesc kk) k (x :: es) i = Instr.findNow (kdesc kk) k es (i + 1) := by
          rw [Instr.findNow, hs, hb]
        split at this
        · rename_i p hp
          obtain ⟨j, z, k1, k2, k3, k4, k5⟩ := this
          exact ⟨j + 1, z, by omega, by simpa using k2, by simpa using k3, k4, by rw [hfn]; exact k5⟩
        · rename_i hp
          rw [hfn]
          exact this
theorem eqK_eq {kk : Option IntKind} {u v : Value} (h1 : keyOK kk u) (h2 : keyOK kk v) (h : eqK u v = true) : u = v := by
  cases kk with
  | none =>
    obtain ⟨s, rfl⟩ := h1; obtain ⟨s2, rfl⟩ := h2
    have h : (s.data == s2.data) = true := h
    have := eq_of_beq h
    cases s; cases s2; congr 2
  | some k => obtain ⟨n, rfl⟩ := h1; obtain ⟨n2, rfl⟩ := h2; simp [eqK] at h; rw [h]
def valD (g : Bool) (e : Nat) (x : El e) : D El := match g with | true => .agg (enc e x) | false => (enc e x).headD .dead
theorem valD_rel {w : World} {S : Nat → Prop} {β : Beta} {g : Bool} {e : Nat} {v : Value} {x : El e} (h : MVal w S β g e v x) : VRel w S β v (valD g e x) := by
  cases g with
  | true => exact h
  | false => obtain ⟨d, h1, h2⟩ := h; show VRel w S β v ((enc e x).headD .dead); rw [h1]; exact h2
def elD (g : Bool) (e : Nat) (d : D El) : Option (El e) :=
  match g, d with
  | true, .agg ds => dec e ds
  | false, d => cond (Nat.beq (width El e) 1) (dec e [d]) none
  | _, _ => none
theorem elD_ok {g : Bool} {e : Nat} {d : D El} {x : El e} (h : elD g e d = some x) {w : World} {S : Nat → Prop} {β : Beta} {v : Value} (hv : VRel w S β v d) : MVal w S β g e v x := by
  unfold elD at h
  split at h
  · rename_i ds
    show VRel w S β v (.agg (enc e x))
    have hl := UniOK.dec_len e _ x h
    cases hv with
    | agg vs _ a1 a2 a3 =>
      refine .agg vs _ (by rw [a1, hl, enc_len]) (fun i u d' p q => ?_) (fun d' hd => enc_cell e x d' hd)
      have hi : i < ds.length := by rw [hl, ← enc_len e x]; exact (List.getElem?_eq_some_iff.1 q).1
      exact UniOK.dec_rel e _ x h i ds[i] d' (by simp [hi]) q w S β u (a2 i u _ p (by simp [hi]))
  · obtain ⟨hw, h⟩ := cond_some h
    have hw := beq_true hw
    have hl := enc_len e x
    match hx : enc e x with
    | [] => rw [hx, hw] at hl; simp at hl
    | [d'] => exact ⟨d', hx, UniOK.dec_rel e _ x h 0 _ d' rfl (by rw [hx]; rfl) w S β v hv⟩
    | _ :: _ :: _ => rw [hx, hw] at hl; simp at hl
  · cases h
def zeroD (P : Program) (g : Bool) (e : Nat) : Option (Value × D El) :=
  match P.info? e with
  | some i => match i.zero, g with
    | some (.agg cs), true => cond ((cs.toList.map ofVal0 : List (D El)).all D.cell) (some (.agg cs, .agg (cs.toList.map ofVal0))) none
    | some v, false => some (v, ofVal0 v)
    | _, _ => none
  | none => none
theorem zeroD_ok {P : Program} {g : Bool} {e : Nat} {z : Value} {d : D El} (h : zeroD P g e = some (z, d)) : (∀ w, (zeroValue e).run P w = .ok z w) ∧ ∀ w S β, VRel w S β z d := by
  unfold zeroD at h
  split at h
  · rename_i i hi
    split at h
    · rename_i cs hz
      obtain ⟨hc, h⟩ := cond_some h
      cases h
      refine ⟨fun w => by simp [zeroValue, typeInfo, hi, hz], fun w S β => .agg _ _ (by simp) (fun j v d p q => ?_) (fun d hd => List.all_eq_true.1 hc d hd)⟩
      rw [List.getElem?_map, Array.getElem?_toList, p] at q
      cases q
      exact ofVal0_rel w S β v
    · rename_i v _ hz
      cases h
      exact ⟨fun w => by simp [zeroValue, typeInfo, hi, hz], fun w S β => ofVal0_rel w S β _⟩
    · cases h
  · cases h
def mmap (P : Program) (st : St El) (t : Nat) (K : St El → D El → Option R) : Option R :=
  match P.underlying t with
  | some (.map k e) => match kkOf P k with
    | some kk => K (st.new (.map kk (aggB P e) e [])) (.mapr st.next)
    | none => none
  | _ => none
theorem mmap_sound {P : Program} {st : St El} {t : Nat} {K : St El → D El → Option R} {r : R} (h : mmap P st t K = some r) : ∃ st' d, K st' d = some r ∧
    ∀ {X : Ctx El} {S β a w}, Rel X st S β a w → ∃ v w' β', (Instr.makeMap t none).run P w = .ok v w' ∧ Rel X st' S β' a w' ∧ VRel w' S β' v d := by
  unfold mmap at h
  split at h
  · rename_i k e hu
    split at h
    · rename_i kk hk
      refine ⟨_, _, h, fun {X S β a w} hr => ?_⟩
      have hub : upB β st.next (.map (some w.heap.size)) st.next = some (.map (some w.heap.size)) := by unfold upB; rw [if_pos rfl]
      refine ⟨.map (some w.heap.size), w.alloc (.map #[] 0), _, rfl, hr.new (Grew.alloc w _) ⟨w.heap.size, #[], 0, hub, heap_alloc_new w _, ⟨rfl, rfl⟩, fun i x y p q => by simp at p⟩ (fun g hg => by simp [blkOf] at hg; omega), .mapr _ _ hub⟩
    · cases h
  · cases h
def mapAt (P : Program) (st : St El) (t : Nat) (dm dk : D El) (K : Nat → Option IntKind → Bool → (e : Nat) → List (Value × El e) → Value → Option R) : Option R :=
  match P.underlying t with
  | some (.map k e) => match dm with
    | .mapr o => match look st.objs o with
      | .map kk g e' l => cond (Nat.beq e e') (match kkOf P k with
        | some kk' => if kk' = kk then (match keyD kk dk with | some kv => K o kk g e' l kv | none => none) else none
        | none => none) none
      | _ => none
    | _ => none
  | _ => none
structure MapAt (P : Program) (st : St El) (t : Nat) (dm dk : D El) (o : Nat) (kk : Option IntKind) (g : Bool) (e : Nat) (l : List (Value × El e)) (kv : Value) : Prop where
  ty : ∃ k, P.underlying t = some (.map k e) ∧ P.underlying k = some (kdesc kk)
  key : keyD kk dk = some kv
  dm : dm = .mapr o
  obj : look st.objs o = .map kk g e l
theorem mapAt_sound {P : Program} {st : St El} {t : Nat} {dm dk : D El} {K : Nat → Option IntKind → Bool → (e : Nat) → List (Value × El e) → Value → Option R} {r : R} (h : mapAt P st t dm dk K = some r) :
    ∃ o kk g e l kv, K o kk g e l kv = some r ∧ MapAt P st t dm dk o kk g e l kv := by
  unfold mapAt at h
  split at h
  · rename_i k e hu
    split at h
    · rename_i o
      split at h
      · rename_i kk g e' l hl
        obtain ⟨he, h⟩ := cond_some h
        have he := beq_true he
        subst he
        split at h
        · rename_i kk' hkk
          split at h
          · rename_i hke
            subst hke
            split at h
            · rename_i kv hkv
              exact ⟨o, _, g, _, l, kv, h, ⟨⟨k, hu, kkOf_ok hkk⟩, hkv, rfl, hl⟩⟩
            · cases h
          · cases h
        · cases h
      · cases h
    · cases h
  · cases h
theorem MapAt.block {P : Program} {st : St El} {t : Nat} {dm dk : D El} {o : Nat} {kk : Option IntKind} {g : Bool} {e : Nat} {l : List (Value × El e)} {kv : Value} (h : MapAt P st t dm dk o kk g e l kv) {X : Ctx El} {S : Nat → Prop} {β : Beta} {a : Act} {w : World} (hr : Rel X st S β a w) {vm vk : Value} (hm : VRel w S β vm dm) (hk : VRel w S β vk dk) :
    vk = kv ∧ keyOK kk kv ∧ ∃ r es, vm = .map (some r) ∧ β o = some (.map (some r)) ∧ w.heap[r]? = some (.map es es.size) ∧ es.size = l.length ∧ (∀ (i : Nat) x y, es[i]? = some x → l[i]? = some y → (x.key = y.1 ∧ keyOK kk y.1 ∧ x.born = i) ∧ MVal w S β g e x.val y.2) ∧ FitM kk es.toList l := by
  obtain ⟨k1, k2⟩ := keyD_ok h.key
  refine ⟨k2 hk, k1, ?_⟩
  have ho := hr.objs o
  rw [h.obj] at ho
  obtain ⟨r, es, ck, a1, a2, ⟨a3, a5⟩, a4⟩ := ho
  subst a5
  rw [h.dm] at hm
  cases hm with
  | mapr _ r' b1 =>
    rw [a1] at b1
    cases b1
    exact ⟨r, es, rfl, a1, a2, a3, a4, ⟨by simpa using a3, fun i x y p q => ⟨(a4 i x y (by simpa using p) q).1.1, (a4 i x y (by simpa using p) q).1.2.1⟩⟩⟩
def mlookup (P : Program) (st : St El) (t : Nat) (dm dk : D El) (ok : Bool) (K : D El → Option R) : Option R :=
  mapAt P st t dm dk fun _ _ g e l kv => match zeroD P g e with
    | some z => match elD g e z.2 with
      | some zx => K (cond ok (.tup [valD g e (mgetD l kv zx), .bool (mhas l kv)]) (valD g e (mgetD l kv zx)))
      | none => none
    | none => none
theorem mlookup_sound {P : Program} {st : St El} {t : Nat} {dm dk : D El} {ok : Bool} {K : D El → Option R} {r : R} (h : mlookup P st t dm dk ok K = some r) : ∃ d, K d = some r ∧
    ∀ {X : Ctx El} {S β a w vm vk}, Rel X st S β a w → VRel w S β vm dm → VRel w S β vk dk → ∃ u, (∀ w', Stay w w' → (Instr.lookup t vm vk ok).run P w' = .ok u w') ∧ VRel w S β u d := by
  unfold mlookup at h
  obtain ⟨o, kk, g, e, l, kv, h, hM⟩ := mapAt_sound h
  split at h
  · rename_i z hz
    split at h
    · rename_i zx hzx
      refine ⟨_, h, fun {X S β a w vm vk} hr hm hk => ?_⟩
      obtain ⟨rfl, hkey, r, es, rfl, b1, b2, b3, b4, b5⟩ := hM.block hr hm hk
      obtain ⟨kt, hu, hkt⟩ := hM.ty
      obtain ⟨z1, z2⟩ := zeroD_ok (z := z.1) (d := z.2) hz
      have hc := fun w' : World => MapKept.run_checkKey (w := w') hkt (isKey_ok hkey) es.isEmpty 9999
      have hf := findNow_eq hkey (i := 0) b5
      have fin : ∀ (v : Value) (b : Bool), MVal w S β g e v (mgetD l vk zx) → b = mhas l vk → (∀ w', Stay w w' → (Instr.lookup t (.map (some r)) vk ok).run P w' = .ok (if ok then .tuple #[v, .bool b] else v) w') →
          ∃ u, (∀ w', Stay w w' → (Instr.lookup t (.map (some r)) vk ok).run P w' = .ok u w') ∧ VRel w S β u (cond ok (.tup [valD g e (mgetD l vk zx), .bool (mhas l vk)]) (valD g e (mgetD l vk zx))) := by
        intro v b hv hb hrun
        refine ⟨_, hrun, ?_⟩
        cases ok with
        | true =>
          refine .tup _ _ rfl (fun i u d p q => ?_)
          rcases i with _ | _ | i
          · simp at p q; subst p; subst q; exact valD_rel hv
          · simp at p q; subst p; subst q; rw [hb]; exact .bool _
          · simp at p
        | false => exact valD_rel hv
      cases hx : mix vk l 0 with
      | some p =>
        rw [hx] at hf
        obtain ⟨j, x, c1, c2, c3, c4, c5⟩ := hf
        refine fin x.val true ?_ (by unfold mhas; rw [hx]; rfl) ?_
        · have := (b4 j x _ (by simpa using c2) c3).2
          unfold mgetD
          rw [hx]
          exact this
        · intro w' hst
          simp [Instr.lookup, run_underlying hu, MapKept.run_getObj_map (hst.get b2), hc w', MapKept.run_findKey hkt c5, Result.andThen]
      | none =>
        rw [hx] at hf
        refine fin z.1 false ?_ (by unfold mhas; rw [hx]; rfl) ?_
        · unfold mgetD
          rw [hx]
          exact elD_ok hzx (z2 w S β)
        · intro w' hst
          simp [Instr.lookup, run_underlying hu, MapKept.run_getObj_map (hst.get b2), hc w', MapKept.run_findKey hkt hf, z1 w', Result.andThen]
    · cases h
  · cases h
def mmapUpd (P : Program) (st : St El) (t : Nat) (dm dk dv : D El) (K : St El → Option R) : Option R :=
  mapAt P st t dm dk fun o kk g e l kv => match elD g e dv with
    | some x => K (st.turn o (.map kk g e (mput l kv x)))
    | none => none
theorem same_bits {kk : Option IntKind} {v : Value} (h : keyOK kk v) (n : Nat) : Instr.sameBits (n + 1) v v = true := by
  cases kk with
  | none => obtain ⟨s, rfl⟩ := h; show (s == s) = true; show (s.data == s.data) = true; exact beq_self_eq_true _
  | some k => obtain ⟨m, rfl⟩ := h; simp [Instr.sameBits]
theorem mix_lt {α : Type} {k : Value} : ∀ {l : List (Value × α)} {i : Nat} {p : Nat × α}, mix k l i = some p → i ≤ p.1 ∧ p.1 < i + l.length
  | [], i, p, h => by cases h
  | y :: l, i, p, h => by
    unfold mix at h
    cases hb : eqK k y.1 with
    | true => rw [hb] at h; cases h; exact ⟨Nat.le_refl _, by simp⟩
    | false => rw [hb] at h; have := mix_lt (l := l) h; simp at this ⊢; omega
theorem mmapUpd_sound {P : Program} {st : St El} {t : Nat} {dm dk dv : D El} {K : St El → Option R} {r : R} (h : mmapUpd P st t dm dk dv K = some r) : ∃ st', K st' = some r ∧
    ∀ {X : Ctx El} {S β a w vm vk v}, Rel X st S β a w → VRel w S β vm dm → VRel w S β vk dk → VRel w S β v dv → ∃ w', (Instr.mapUpdate t vm vk v).run P w = .ok () w' ∧ Rel X st' S β a w' := by
  unfold mmapUpd at h
  obtain ⟨o, kk, g, e, l, kv, h, hM⟩ := mapAt_sound h
  split at h
  · rename_i x hx
    refine ⟨_, h, fun {X S β a w vm vk v} hr hm hk hv => ?_⟩
    obtain ⟨rfl, hkey, r, es, rfl, b1, b2, b3, b4, b5⟩ := hM.block hr hm hk
    obtain ⟨kt, hu, hkt⟩ := hM.ty
    have hc := MapKept.run_checkKey (w := w) hkt (isKey_ok hkey) false 9999
    have hf := findNow_eq hkey (i := 0) b5
    have hmv := elD_ok hx hv
    have hlive : (look st.objs o).live = true := by rw [hM.obj]; rfl
    have hrlt : r < w.heap.size := (Array.getElem?_eq_some_iff.1 b2).1
    have fin : ∀ (es' : Array MapEntry), es'.size = (mput l vk x).length → (∀ (i : Nat) z y, es'[i]? = some z → (mput l vk x)[i]? = some y → (z.key = y.1 ∧ keyOK kk y.1 ∧ z.born = i) ∧ MVal w S β g e z.val y.2) →
        (Instr.mapUpdate t (.map (some r)) vk v).run P w = .ok () { w with heap := w.heap.setIfInBounds r (.map es' es'.size) } →
        ∃ w', (Instr.mapUpdate t (.map (some r)) vk v).run P w = .ok () w' ∧ Rel X (st.turn o (.map kk g e (mput l vk x))) S β a w' := by
      intro es' h1 h2 hrun
      have hg : Grew w { w with heap := w.heap.setIfInBounds r (.map es' es'.size) } (fun k => k = r) := ⟨rfl, rfl, rfl, by simp, fun k hk hn => by
        show (w.heap.setIfInBounds r _)[k]? = _
        rw [Array.getElem?_setIfInBounds_ne (fun e => hn e.symm)]⟩
      have hS : ∀ k, S k → k ≠ r := fun k hk e => by
        subst e
        exact (hr.away o _ k hlive b1 rfl).1 hk
      refine ⟨_, hrun, hr.turn hlive ⟨_, b1, rfl⟩ hg ⟨r, es', es'.size, b1, by show (w.heap.setIfInBounds r _)[r]? = _; simp [hrlt], ⟨h1, rfl⟩, fun i z y p q => ⟨(h2 i z y p q).1, MVal.imp (fun v d k => k.mono (fun r' hr' => hg.block r' (hr.inside r' hr') (hS r' hr')) (fun _ h => h) (fun _ _ h => h)) (h2 i z y p q).2⟩⟩⟩
    cases hx2 : mix vk l 0 with
    | some p =>
      rw [hx2] at hf
      obtain ⟨j, z, c1, c2, c3, c4, c5⟩ := hf
      have hj : j = p.1 := by omega
      subst hj
      have hzk : vk = z.key := eqK_eq hkey (by have := (b4 p.1 z _ (by simpa using c2) c3).1.2.1; exact this) c4
      have hz : es[p.1]? = some z := by simpa using c2
      have hput : mput l vk x = l.set p.1 (vk, x) := by unfold mput; rw [hx2]
      refine fin (es.modify p.1 fun e => { e with key := vk, val := v }) (by rw [hput]; simpa using b3) (fun i z2 y q1 q2 => ?_) ?_
      · rw [hput] at q2
        rw [Array.getElem?_modify] at q1
        rw [List.getElem?_set] at q2
        by_cases hi : p.1 = i
        · subst hi
          rw [if_pos rfl] at q1 q2
          rw [hz] at q1
          cases q1
          split at q2
          · cases q2
            have := b4 p.1 z _ hz c3
            exact ⟨⟨rfl, hkey, this.1.2.2⟩, hmv⟩
          · cases q2
        · rw [if_neg hi] at q1 q2
          exact b4 i z2 y q1 q2
      · have hsb : Instr.sameBits 10000 z.key vk = true := by rw [← hzk]; exact same_bits hkey 9999
        have hkts : (Instr.keyThatStays z.key vk).run P w = .ok vk w := by simp [Instr.keyThatStays, hsb]
        have hz2 : ((es[p.1]?).map (·.key)).getD vk = z.key := by rw [hz]; rfl
        simp only [Instr.mapUpdate, Sem.run_bind, run_underlying hu, Result.andThen_ok, MapKept.run_getObj_map b2, hc, MapKept.run_findKey hkt c5, hz2, hkts]
        rw [MapKept.run_setObj_map _ b2]
        simp
    | none =>
      rw [hx2] at hf
      have hput : mput l vk x = l ++ [(vk, x)] := by unfold mput; rw [hx2]
      refine fin (es.push { key := vk, val := v, born := es.size }) (by rw [hput]; simp [b3]) (fun i z2 y q1 q2 => ?_) ?_
      · rw [hput] at q2
        rw [Array.getElem?_push] at q1
        rw [List.getElem?_append] at q2
        by_cases hi : i = es.size
        · subst hi
          rw [if_pos rfl] at q1
          cases q1
          rw [if_neg (by omega), b3] at q2
          simp at q2
          subst q2
          exact ⟨⟨rfl, hkey, rfl⟩, hmv⟩
        · rw [if_neg hi] at q1
          have hlt : i < es.size := (Array.getElem?_eq_some_iff.1 q1).1
          rw [if_pos (by omega)] at q2
          exact b4 i z2 y q1 q2
      · simp only [Instr.mapUpdate, Sem.run_bind, run_underlying hu, Result.andThen_ok, MapKept.run_getObj_map b2, hc, MapKept.run_findKey hkt hf]
        rw [MapKept.run_setObj_map _ b2]
        simp
  · cases h
def mputD {α : Type} (l : List (Value × α)) (k : Value) (z : α) : List (Value × α) := match mix k l 0 with | some _ => l | none => l ++ [(k, z)]
def mpos {α : Type} (l : List (Value × α)) (k : Value) : Nat := match mix k l 0 with | some p => p.1 | none => l.length
def mentry (P : Program) (st : St El) (t : Nat) (dm dk : D El) (K : St El → D El → Option R) : Option R :=
  mapAt P st t dm dk fun o kk g e l kv => match zeroD P g e with
    | some z => match elD g e z.2 with
      | some zx => K (st.turn o (.map kk g e (mputD l kv zx))) (.tup [valD g e (mgetD l kv zx), .int .i64 (mpos l kv : Int)])
      | none => none
    | none => none
theorem mentry_sound {P : Program} {st : St El} {t : Nat} {dm dk : D El} {K : St El → D El → Option R} {r : R} (h : mentry P st t dm dk K = some r) : ∃ st' d, K st' d = some r ∧
    ∀ {X : Ctx El} {S β a w vm vk}, Rel X st S β a w → VRel w S β vm dm → VRel w S β vk dk → ∃ u w', (Instr.mapEntry t vm vk).run P w = .ok u w' ∧ Rel X st' S β a w' ∧ VRel w' S β u d := by
  unfold mentry at h
  obtain ⟨o, kk, g, e, l, kv, h, hM⟩ := mapAt_sound h
  split at h
  · rename_i z hz
    split at h
    · rename_i zx hzx
      refine ⟨_, _, h, fun {X S β a w vm vk} hr hm hk => ?_⟩
      obtain ⟨rfl, hkey, r, es, rfl, b1, b2, b3, b4, b5⟩ := hM.block hr hm hk
      obtain ⟨kt, hu, hkt⟩ := hM.ty
      obtain ⟨z1, z2⟩ := zeroD_ok (z := z.1) (d := z.2) hz
      have hc := MapKept.run_checkKey (w := w) hkt (isKey_ok hkey) false 9999
      have hf := findNow_eq hkey (i := 0) b5
      have hlive : (look st.objs o).live = true := by rw [hM.obj]; rfl
      have hrlt : r < w.heap.size := (Array.getElem?_eq_some_iff.1 b2).1
      have fin : ∀ (es' : Array MapEntry) (v : Value), MVal w S β g e v (mgetD l vk zx) → es'.size = (mputD l vk zx).length → (∀ (i : Nat) z y, es'[i]? = some z → (mputD l vk zx)[i]? = some y → (z.key = y.1 ∧ keyOK kk y.1 ∧ z.born = i) ∧ MVal w S β g e z.val y.2) →
          (Instr.mapEntry t (.map (some r)) vk).run P w = .ok (.tuple #[v, .int .i64 (mpos l vk : Int)]) { w with heap := w.heap.setIfInBounds r (.map es' es'.size) } →
          ∃ u w', (Instr.mapEntry t (.map (some r)) vk).run P w = .ok u w' ∧ Rel X (st.turn o (.map kk g e (mputD l vk zx))) S β a w' ∧ VRel w' S β u (.tup [valD g e (mgetD l vk zx), .int .i64 (mpos l vk : Int)]) := by
        intro es' v hv h1 h2 hrun
        have hg : Grew w { w with heap := w.heap.setIfInBounds r (.map es' es'.size) } (fun k => k = r) := ⟨rfl, rfl, rfl, by simp, fun k hk hn => by
          show (w.heap.setIfInBounds r _)[k]? = _
          rw [Array.getElem?_setIfInBounds_ne (fun e => hn e.symm)]⟩
        have hS : ∀ k, S k → k ≠ r := fun k hk e => by
          subst e
          exact (hr.away o _ k hlive b1 rfl).1 hk
        have hmono : ∀ v (d : D El), VRel w S β v d → VRel { w with heap := w.heap.setIfInBounds r (.map es' es'.size) } S β v d := fun v d k => k.mono (fun r' hr' => hg.block r' (hr.inside r' hr') (hS r' hr')) (fun _ h => h) (fun _ _ h => h)
        refine ⟨_, _, hrun, hr.turn hlive ⟨_, b1, rfl⟩ hg ⟨r, es', es'.size, b1, by show (w.heap.setIfInBounds r _)[r]? = _; simp [hrlt], ⟨h1, rfl⟩, fun i z y p q => ⟨(h2 i z y p q).1, MVal.imp hmono (h2 i z y p q).2⟩⟩, ?_⟩
        refine .tup _ _ rfl (fun i u d p q => ?_)
        rcases i with _ | _ | i
        · simp at p q; subst p; subst q; exact hmono _ _ (valD_rel hv)
        · simp at p q; subst p; subst q; exact .int _ _
        · simp at p
      cases hx2 : mix vk l 0 with
      | some p =>
        rw [hx2] at hf
        obtain ⟨j, y, c1, c2, c3, c4, c5⟩ := hf
        have hj : j = p.1 := by omega
        subst hj
        have hzk : vk = y.key := eqK_eq hkey (by have := (b4 p.1 y _ (by simpa using c2) c3).1.2.1; exact this) c4
        have hy : es[p.1]? = some y := by simpa using c2
        have hput : mputD l vk zx = l := by unfold mputD; rw [hx2]
        have hget : mgetD l vk zx = p.2 := by unfold mgetD; rw [hx2]
        have hidx : mpos l vk = p.1 := by unfold mpos; rw [hx2]
        have hb4 := b4 p.1 y _ hy c3
        refine fin (es.modify p.1 fun e => { e with key := vk }) y.val (by rw [hget]; exact hb4.2) (by rw [hput]; simpa using b3) (fun i z2 y2 q1 q2 => ?_) ?_
        · rw [hput] at q2
          rw [Array.getElem?_modify] at q1
          by_cases hi : p.1 = i
          · subst hi
            rw [if_pos rfl, hy] at q1
            cases q1
            have := b4 p.1 y y2 hy q2
            exact ⟨⟨by show vk = y2.1; rw [hzk]; exact this.1.1, this.1.2.1, this.1.2.2⟩, this.2⟩
          · rw [if_neg hi] at q1
            exact b4 i z2 y2 q1 q2
        · have hsb : Instr.sameBits 10000 y.key vk = true := by rw [← hzk]; exact same_bits hkey 9999
          have hkts : (Instr.keyThatStays y.key vk).run P w = .ok vk w := by simp [Instr.keyThatStays, hsb]
          have hz2 : ((es[p.1]?).map (·.key)).getD vk = y.key := by rw [hy]; rfl
          have hz3 : ((es[p.1]?).map (·.born)).getD 0 = p.1 := by rw [hy]; exact hb4.1.2.2
          simp only [Instr.mapEntry, Sem.run_bind, run_underlying hu, Result.andThen_ok, MapKept.run_getObj_map b2, hc, MapKept.run_findKey hkt c5, hz2, hkts, hidx]
          rw [MapKept.run_setObj_map _ b2]
          simp [goInt, hy, hb4.1.2.2]
      | none =>
        rw [hx2] at hf
        have hput : mputD l vk zx = l ++ [(vk, zx)] := by unfold mputD; rw [hx2]
        have hget : mgetD l vk zx = zx := by unfold mgetD; rw [hx2]
        have hidx : mpos l vk = l.length := by unfold mpos; rw [hx2]
        have hmz : MVal w S β g e z.1 zx := elD_ok hzx (z2 w S β)
        refine fin (es.push { key := vk, val := z.1, born := es.size }) z.1 (by rw [hget]; exact hmz) (by rw [hput]; simp [b3]) (fun i z2 y q1 q2 => ?_) ?_
        · rw [hput] at q2
          rw [Array.getElem?_push] at q1
          rw [List.getElem?_append] at q2
          by_cases hi : i = es.size
          · subst hi
            rw [if_pos rfl] at q1
            cases q1
            rw [if_neg (by omega), b3] at q2
            simp at q2
            subst q2
            exact ⟨⟨rfl, hkey, rfl⟩, hmz⟩
          · rw [if_neg hi] at q1
            have hlt : i < es.size := (Array.getElem?_eq_some_iff.1 q1).1
            rw [if_pos (by omega)] at q2
            exact b4 i z2 y q1 q2
        · simp only [Instr.mapEntry, Sem.run_bind, run_underlying hu, Result.andThen_ok, MapKept.run_getObj_map b2, hc, MapKept.run_findKey hkt hf, z1 w, hidx]
          rw [MapKept.run_setObj_map _ b2]
          simp [goInt, b3]
    · cases h
  · cases h
def mestore (st : St El) (dm ds dv : D El) (K : St El → Option R) : Option R :=
  match dm, ds with
  | .mapr o, .int .i64 n => match look st.objs o with
    | .map kk g e l => if 0 ≤ n then (l[n.toNat]?).bind fun y => (match elD g e dv with
      | some x => K (st.turn o (.map kk g e (l.set n.toNat (y.1, x))))
      | none => none) else none
    | _ => none
  | _, _ => none
theorem mestore_sound {P : Program} {st : St El} {t : Nat} {dm ds dv : D El} {K : St El → Option R} {r : R} (h : mestore st dm ds dv K = some r) : ∃ st', K st' = some r ∧
    ∀ {X : Ctx El} {S β a w vm vs v}, Rel X st S β a w → VRel w S β vm dm → VRel w S β vs ds → VRel w S β v dv → ∃ w', (Instr.entryStore t vm vs v).run P w = .ok () w' ∧ Rel X st' S β a w' := by
  unfold mestore at h
  split at h
  · rename_i o n
    split at h
    · rename_i kk g e l hl
      split at h
      · rename_i hn
        obtain ⟨y, hy, h⟩ := bind_some' h
        split at h
        · rename_i x hx
          refine ⟨_, h, fun {X S β a w vm vs v} hr hm hs hv => ?_⟩
          have ho := hr.objs o
          rw [hl] at ho
          obtain ⟨r, es, ck, a1, a2, ⟨a3, a5⟩, a4⟩ := ho
          subst a5
          cases hs
          cases hm with
          | mapr _ r' b1 =>
            rw [a1] at b1
            cases b1
            have hlive : (look st.objs o).live = true := by rw [hl]; rfl
            have hrlt : r < w.heap.size := (Array.getElem?_eq_some_iff.1 a2).1
            have hnl : n.toNat < l.length := (List.getElem?_eq_some_iff.1 hy).1
            have hne : n.toNat < es.size := by omega
            have hfi : es.findIdx? (fun e => (e.born : Int) == n) = some n.toNat := by
              rw [Array.findIdx?_eq_some_iff_getElem]
              refine ⟨hne, ?_, fun j hj => ?_⟩
              · have := (a4 n.toNat es[n.toNat] y (by simp [hne]) hy).1.2.2
                rw [this]
                simp
                omega
              · have hjl : j < l.length := by omega
                have := (a4 j es[j] l[j] (by simp [show j < es.size by omega]) (by simp [hjl])).1.2.2
                rw [this]
                simp
                omega
            let es' := es.modify n.toNat fun e => { e with val := v }
            have hes : es'.size = es.size := by simp [es']
            have hg : Grew w { w with heap := w.heap.setIfInBounds r (.map es' es.size) } (fun k => k = r) := ⟨rfl, rfl, rfl, by simp, fun k hk hn => by
              show (w.heap.setIfInBounds r _)[k]? = _
              rw [Array.getElem?_setIfInBounds_ne (fun e => hn e.symm)]⟩
            have hS : ∀ k, S k → k ≠ r := fun k hk e => by
              subst e
              exact (hr.away o _ k hlive a1 rfl).1 hk
            have hmono : ∀ v (d : D El), VRel w S β v d → VRel { w with heap := w.heap.setIfInBounds r (.map es' es.size) } S β v d := fun v d k => k.mono (fun r' hr' => hg.block r' (hr.inside r' hr') (hS r' hr')) (fun _ h => h) (fun _ _ h => h)
            refine ⟨{ w with heap := w.heap.setIfInBounds r (.map es' es.size) }, ?_, hr.turn hlive ⟨_, a1, rfl⟩ hg ⟨r, es', es.size, a1, by show (w.heap.setIfInBounds r _)[r]? = _; simp [hrlt], ⟨by rw [hes, a3]; simp, hes.symm⟩, fun i z y2 p q => ?_⟩⟩
            · simp only [Instr.entryStore, Sem.run_bind, MapKept.run_getObj_map a2, Result.andThen_ok, asInt, asIntOf, Sem.run_pure, hfi]
              rw [MapKept.run_setObj_map _ a2]
            · rw [Array.getElem?_modify] at p
              rw [List.getElem?_set] at q
              by_cases hi : n.toNat = i
              · subst hi
                rw [if_pos rfl] at p
                rw [if_pos rfl, if_pos hnl] at q
                have he : es[n.toNat]? = some es[n.toNat] := by simp [hne]
                rw [he] at p
                cases p
                cases q
                have := a4 n.toNat _ y he hy
                exact ⟨⟨this.1.1, this.1.2.1, this.1.2.2⟩, MVal.imp hmono (elD_ok hx hv)⟩
              · rw [if_neg hi] at p
                rw [if_neg hi] at q
                have := a4 i z y2 p q
                exact ⟨this.1, MVal.imp hmono this.2⟩
        · cases h
      · cases h
    · cases h
  · cases h
end Go.M
namespace Go.M
set_option linter.unusedVariables false
set_option linter.unusedSectionVars false
open Uni
variable {El : Nat → Type} [Uni El] [UniOK El] {R : Type}
def PtL (w : World) (S : Nat → Prop) (β : Beta) (vs : List Value) (ds : List (D El)) : Prop :=
  vs.length = ds.length ∧ ∀ (i : Nat) v d, vs[i]? = some v → ds[i]? = some d → VRel w S β v d
theorem PtL.cons {w : World} {S : Nat → Prop} {β : Beta} {v : Value} {d : D El} {vs : List Value} {ds : List (D El)} (h : VRel w S β v d) (h2 : PtL w S β vs ds) : PtL w S β (v :: vs) (d :: ds) := by
  refine ⟨by simp [h2.1], fun i u e p q => ?_⟩
  cases i with
  | zero => simp at p q; subst p q; exact h
  | succ i => simp at p q; exact h2.2 i u e p q
theorem PtL.head {w : World} {S : Nat → Prop} {β : Beta} {d : D El} {vs : List Value} {ds : List (D El)} (h : PtL w S β vs (d :: ds)) : ∃ v vs', vs = v :: vs' ∧ VRel w S β v d ∧ PtL w S β vs' ds := by
  cases vs with
  | nil => have := h.1; simp at this
  | cons v vs' =>
    refine ⟨v, vs', rfl, h.2 0 v d rfl rfl, by have := h.1; simp at this; exact this, fun i u e p q => h.2 (i + 1) u e (by simpa using p) (by simpa using q)⟩
theorem PtL.mono {w w' : World} {S S' : Nat → Prop} {β β' : Beta} {vs : List Value} {ds : List (D El)} (h : PtL w S β vs ds) (hw : ∀ r, S r → w'.heap[r]? = w.heap[r]?) (hS : ∀ r, S r → S' r) (hb : ∀ o x, β o = some x → β' o = some x) : PtL w' S' β' vs ds :=
  ⟨h.1, fun i v d p q => (h.2 i v d p q).mono hw hS hb⟩
def mfreezes (st : St El) : List (D El) → (St El → List (D El) → Option R) → Option R
  | [], K => K st []
  | d :: r, K => mfreeze st d fun st1 d1 => mfreezes st1 r fun st2 r1 => K st2 (d1 :: r1)
theorem mfreezes_sound : ∀ {ds : List (D El)} {st : St El} {K : St El → List (D El) → Option R} {r : R}, mfreezes st ds K = some r → ∃ st' ds', K st' ds' = some r ∧
    ∀ {X : Ctx El} {S β a w vs}, Rel X st S β a w → PtL w S β vs ds → ∃ S', (∀ r, S r → S' r) ∧ Rel X st' S' β a w ∧ PtL w S' β vs ds' := by
  intro ds
  induction ds with
  | nil => intro st K r h; exact ⟨_, _, h, fun {X S β a w vs} hr hp => ⟨S, fun _ h => h, hr, hp⟩⟩
  | cons d ds ih =>
    intro st K r h
    obtain ⟨st1, d1, h1, s1⟩ := mfreeze_sound h
    obtain ⟨st2, ds2, h2, s2⟩ := ih h1
    refine ⟨_, _, h2, fun {X S β a w vs} hr hp => ?_⟩
    obtain ⟨v, vs', rfl, hv, hp'⟩ := hp.head
    obtain ⟨S1, a1, a2, a3⟩ := s1 hr hv
    obtain ⟨S2, b1, b2, b3⟩ := s2 a2 (hp'.mono (fun _ _ => rfl) a1 (fun _ _ h => h))
    exact ⟨S2, fun r hr => b1 r (a1 r hr), b2, PtL.cons (a3.mono (fun _ _ => rfl) b1 (fun _ _ h => h)) b3⟩
def mfz (st : St El) (d : D El) (K : St El → D El → Option R) : Option R :=
  match d with
  | .agg l => mfreezes st l fun st l' => cond (l'.all D.cell) (K st (.agg l')) none
  | d => mfreeze st d K
theorem mfz_sound {st : St El} {d : D El} {K : St El → D El → Option R} {r : R} (h : mfz st d K = some r) : ∃ st' d', K st' d' = some r ∧
    ∀ {X : Ctx El} {S β a w v}, Rel X st S β a w → VRel w S β v d → ∃ S', (∀ r, S r → S' r) ∧ Rel X st' S' β a w ∧ VRel w S' β v d' := by
  unfold mfz at h
  split at h
  · rename_i l
    obtain ⟨st', l', h1, s1⟩ := mfreezes_sound h
    obtain ⟨hc, h2⟩ := cond_some h1
    refine ⟨_, _, h2, fun {X S β a w v} hr hv => ?_⟩
    cases hv with
    | agg vs _ a1 a2 a3 =>
      obtain ⟨S', b1, b2, b3⟩ := s1 (vs := vs.toList) hr ⟨by simpa using a1, fun i v d p q => a2 i v d (by simpa using p) q⟩
      exact ⟨S', b1, b2, .agg vs l' (by simpa using b3.1) (fun i v d p q => b3.2 i v d (by simpa using p) q) (fun d hd => List.all_eq_true.1 hc d hd)⟩
  · exact mfreeze_sound h
def mfzs (st : St El) : List (D El) → (St El → List (D El) → Option R) → Option R
  | [], K => K st []
  | d :: r, K => mfz st d fun st1 d1 => mfzs st1 r fun st2 r1 => K st2 (d1 :: r1)
theorem mfzs_sound : ∀ {ds : List (D El)} {st : St El} {K : St El → List (D El) → Option R} {r : R}, mfzs st ds K = some r → ∃ st' ds', K st' ds' = some r ∧
    ∀ {X : Ctx El} {S β a w vs}, Rel X st S β a w → PtL w S β vs ds → ∃ S', (∀ r, S r → S' r) ∧ Rel X st' S' β a w ∧ PtL w S' β vs ds' := by
  intro ds
  induction ds with
  | nil => intro st K r h; exact ⟨_, _, h, fun {X S β a w vs} hr hp => ⟨S, fun _ h => h, hr, hp⟩⟩
  | cons d ds ih =>
    intro st K r h
    obtain ⟨st1, d1, h1, s1⟩ := mfz_sound h
    obtain ⟨st2, ds2, h2, s2⟩ := ih h1
    refine ⟨_, _, h2, fun {X S β a w vs} hr hp => ?_⟩
    obtain ⟨v, vs', rfl, hv, hp'⟩ := hp.head
    obtain ⟨S1, a1, a2, a3⟩ := s1 hr hv
    obtain ⟨S2, b1, b2, b3⟩ := s2 a2 (hp'.mono (fun _ _ => rfl) a1 (fun _ _ h => h))
    exact ⟨S2, fun r hr => b1 r (a1 r hr), b2, PtL.cons (a3.mono (fun _ _ => rfl) b1 (fun _ _ h => h)) b3⟩
structure CallOK (P : Program) (C : St El → Nat → List (D El) → (St El → D El → Option R) → Option R) : Prop where
  sound : ∀ {st : St El} {f : Nat} {ds : List (D El)} {K : St El → D El → Option R} {r : R}, C st f ds K = some r → ∃ st' d, K st' d = some r ∧ (∀ args w, (callFunc f args).run P w = .ok (.enter f args) w) ∧
    ∀ {X : Ctx El} {S β a w} {vs : Array Value}, Rel X st S β a w → PtL w S β vs.toList ds → Calls P f vs w fun e w' => ∃ v S' β', e = .returned v ∧ Rel X st' S' β' a w' ∧ VRel w' S' β' v d
def evs (st : St El) (l : List Operand) : List (D El) := l.map (ev st)
theorem evs_rel {X : Ctx El} {st : St El} {S : Nat → Prop} {β : Beta} {a : Act} {w : World} (h : Rel X st S β a w) (l : List Operand) : PtL w S β (l.map a.eval) (evs st l) := by
  refine ⟨by simp [evs], fun i v d p q => ?_⟩
  simp only [evs, List.getElem?_map] at p q
  cases hl : l[i]? with
  | none => rw [hl] at p; cases p
  | some x => rw [hl] at p q; cases p; cases q; exact ev_rel h x
def evo (st : St El) (x : Option Operand) : Option (D El) := x.map (ev st)
theorem evo_rel {X : Ctx El} {st : St El} {S : Nat → Prop} {β : Beta} {a : Act} {w : World} (h : Rel X st S β a w) (x : Option Operand) : BRel w S β (x.map a.eval) (evo st x) := by
  cases x with
  | none => trivial
  | some x => exact ev_rel h x
def toVals : List (D El) → Option (List Value)
  | [] => some []
  | d :: r => match toVal0 d, toVals r with
    | some v, some l => some (v :: l)
    | _, _ => none
theorem toVals_rel {w : World} {S : Nat → Prop} {β : Beta} : ∀ {ds : List (D El)} {us vs : List Value}, toVals ds = some us → PtL w S β vs ds → vs = us := by
  intro ds
  induction ds with
  | nil => intro us vs h hp; simp [toVals] at h; subst h; exact List.eq_nil_of_length_eq_zero hp.1
  | cons d ds ih =>
    intro us vs h hp
    unfold toVals at h
    split at h
    · rename_i v l h1 h2
      cases h
      obtain ⟨v', vs', rfl, hv, hp'⟩ := hp.head
      rw [toVal0_rel h1 hv, ih h2 hp']
    · cases h
def mcallop (P : Program) (C : St El → Nat → List (D El) → (St El → D El → Option R) → Option R) (st : St El) (c : Call) (ty : Nat) (K : St El → D El → Option R) : Option R :=
  match c.callee with
  | .builtin .len =>
    match c.args.toList, c.argTypes.toList with
    | [x], [t] => mlen P st t (ev st x) (K st)
    | _, _ => none
  | .builtin .append =>
    match c.args.toList, c.argTypes.toList with
    | [x, y], [t, u] => cond (Nat.beq t u) (mappend P st t (ev st x) (ev st y) K) none
    | _, _ => none
  | .builtin .max =>
    match toVals (evs st c.args.toList) with
    | some vs => match prun P (Builtin.max_ c.argTypes ty vs.toArray) with | some v => K st (ofVal v) | none => none
    | none => none
  | .builtin .min =>
    match toVals (evs st c.args.toList) with
    | some vs => match prun P (Builtin.min_ c.argTypes ty vs.toArray) with | some v => K st (ofVal v) | none => none
    | none => none
  | .value f =>
    match ev st f with
    | .fn g caps => C st g (evs st c.args.toList ++ caps) K
    | _ => none
  | _ => none
def isFunc : Fn → Option Nat
  | .func f => some f
  | _ => none
def mop (P : Program) (C : St El → Nat → List (D El) → (St El → D El → Option R) → Option R) (o : Oper) (K : St El → Option R) (st : St El) : Option R :=
  match o.op with
  | .move x => K (st.put o.dst (ev st x))
  | .assign x => K (st.put o.dst (ev st x))
  | .pick c x y =>
    match ev st c with
    | .bool b => mpick b (ev st x) (ev st y) fun d => K (st.put o.dst d)
    | _ => none
  | .alloc t =>
    match mzero P t with
    | some ds => K ((st.new (.box t ds)).put o.dst (.ptr st.next 0 0 0))
    | none => none
  | .box t x =>
    match cellsD (ev st x) with
    | some ds => K ((st.new (.box t ds)).put o.dst (.ptr st.next 0 0 0))
    | none => none
  | .build t parts => mbuild P t (parts.toList.map fun p => (p.1, ev st p.2)) fun d => K (st.put o.dst d)
  | .buildSlice t len parts =>
    mfzs st (parts.toList.map fun p => ev st p.2) fun st1 ds => mbuildSlice P st1 t len ((parts.toList.map (·.1)).zip ds) fun st2 d => K (st2.put o.dst d)
  | .load t x => mderef st (ev st x) fun row c => mpart P t row c fun d => K (st.put o.dst d)
  | .store t x y =>
    match P.info? t with
    | some i =>
      match cellsD (ev st y) with
      | some cs => cond (Nat.beq cs.length i.size) (mstore st (ev st x) cs fun st' => K (st'.put o.dst .dead)) none
      | none => none
    | none => none
  | .nilCheck x =>
    match ev st x with
    | .ptr a b c d => K (st.put o.dst (.ptr a b c d))
    | .fptr a b c d => K (st.put o.dst (.fptr a b c d))
    | .fn f caps => K (st.put o.dst (.fn f caps))
    | _ => none
  | .binOp op t x y _ => mbin P op t x y (ev st x) (ev st y) fun d => K (st.put o.dst d)
  | .unOp op _ x =>
    match toVal0 (ev st x) with
    | some v => match prun P (Op.unary op v) with | some u => K (st.put o.dst (ofVal u)) | none => none
    | none => none
  | .convert s t x =>
    match toVal0 (ev st x) with
    | some v => match prun P (convert s t v) with | some u => K (st.put o.dst (ofVal u)) | none => none
    | none => none
  | .slice t x lo hi none => mslice P st t (ev st x) (evo st lo) (evo st hi) fun d => K (st.put o.dst d)
  | .fieldAddr s x f => mfield P s f (ev st x) fun d => K (st.put o.dst d)
  | .indexAddr t x ix => midx P st t (ev st x) (ev st ix) fun d => K (st.put o.dst d)
  | .index t x ix => mindex P t (ev st x) (ev st ix) fun d => K (st.put o.dst d)
  | .extract x i =>
    match ev st x with
    | .tup l => match l[i]? with | some d => K (st.put o.dst d) | none => none
    | _ => none
  | .makeFunc fn first caps =>
    match isFunc fn, first.toList with
    | some f, [] => K (st.put o.dst (.fn f (evs st caps.toList)))
    | _, _ => none
  | .makeSlice t l c => mmake P st t (ev st l) (ev st c) fun st' d => K (st'.put o.dst d)
  | .makeMap t none => mmap P st t fun st' d => K (st'.put o.dst d)
  | .lookup t m k ok => mlookup P st t (ev st m) (ev st k) ok fun d => K (st.put o.dst d)
  | .mapUpdate t m k x => mmapUpd P st t (ev st m) (ev st k) (ev st x) fun st' => K (st'.put o.dst .dead)
  | .mapEntry t m k => mentry P st t (ev st m) (ev st k) fun st' d => K (st'.put o.dst d)
  | .entryStore t m s x => mestore st (ev st m) (ev st s) (ev st x) fun st' => K (st'.put o.dst .dead)
  | .call c => mcallop P C st c o.type fun st' d => K (st'.put o.dst d)
  | _ => none
end Go.M
namespace Go.M
set_option linter.unusedVariables false
set_option linter.unusedSectionVars false
open Uni
variable {El : Nat → Type} [Uni El] [UniOK El] {R : Type}
theorem goes_ok {P : Program} {X : Ctx El} {o : Oper} {st : St El} {d : D El} {v : Value} {S : Nat → Prop} {β : Beta} {a : Act} {w w' : World}
    (h : (execOp a.eval o).run P w = .ok (.value v) w') (hr : Rel X st S β a w') (hv : VRel w' S β v d) : Goes P X o (st.put o.dst d) a w := by
  intro Q
  unfold Oper.wp
  rw [h]
  exact ⟨S, β, hr.put o.dst hv⟩
theorem goes_skip {P : Program} {X : Ctx El} {o : Oper} {st : St El} {S : Nat → Prop} {β : Beta} {a : Act} {w w' : World}
    (h : (execOp a.eval o).run P w = .ok .skip w') (hr : Rel X st S β a w') : Goes P X o (st.put o.dst .dead) a w := by
  intro Q
  unfold Oper.wp
  rw [h]
  exact ⟨S, β, hr.put o.dst (.dead _)⟩
theorem goes_enter {P : Program} {X : Ctx El} {o : Oper} {f : Nat} {vs : Array Value} {st : St El} {d : D El} {a : Act} {w : World}
    (h : (execOp a.eval o).run P w = .ok (.enter f vs) w) (hc : Calls P f vs w fun e w' => ∃ v S' β', e = .returned v ∧ Rel X st S' β' a w' ∧ VRel w' S' β' v d) : Goes P X o (st.put o.dst d) a w := by
  intro Q
  unfold Oper.wp
  rw [h]
  show Calls P f vs w _
  refine hc.mono fun e w' he => ?_
  obtain ⟨v, S', β', rfl, hr, hv⟩ := he
  exact ⟨S', β', hr.put o.dst hv⟩
theorem map_fst {α β γ : Type} (f : β → γ) (l : List (α × β)) : (l.map fun p => (p.1, f p.2)).map (·.1) = l.map (·.1) := by simp
theorem parts_rel {X : Ctx El} {st : St El} {S : Nat → Prop} {β : Beta} {a : Act} {w : World} (h : Rel X st S β a w) (parts : List (Nat × Operand)) :
    ∀ (i : Nat) p q, (parts.map fun x => (x.1, a.eval x.2))[i]? = some p → (parts.map fun x => (x.1, ev st x.2))[i]? = some q → VRel w S β p.2 q.2 := by
  intro i p q h1 h2
  rw [List.getElem?_map] at h1 h2
  cases hl : parts[i]? with
  | none => rw [hl] at h1; cases h1
  | some x => rw [hl] at h1 h2; cases h1; cases h2; exact ev_rel h x.2
theorem mcallop_sound {P : Program} {C : St El → Nat → List (D El) → (St El → D El → Option R) → Option R} (hC : CallOK P C) {st : St El} {c : Call} {ty : Nat} {K : St El → D El → Option R} {r : R} (h : mcallop P C st c ty K = some r) : ∃ st' d, K st' d = some r ∧
    ∀ {X : Ctx El} {S β a w} {o : Oper}, o.op = .call c → o.type = ty → Rel X st S β a w → Goes P X o (st'.put o.dst d) a w := by
  unfold mcallop at h
  split at h
  · rename_i hcal
    split at h
    · rename_i x t hx ht
      obtain ⟨d, h', s⟩ := mlen_sound h
      refine ⟨_, _, h', fun {X S β a w o} ho hty hr => ?_⟩
      obtain ⟨u, h1, h2⟩ := s (ty := o.type) hr (ev_rel hr x)
      have h1 := h1 w
      have ha : c.args = #[x] := by rw [← Array.toArray_toList (xs := c.args), hx]
      have hb : c.argTypes = #[t] := by rw [← Array.toArray_toList (xs := c.argTypes), ht]
      refine goes_ok (S := S) (β := β) ?_ hr h2
      simp only [execOp, ho, resolve, hcal, invoke, builtin, ha, hb, Sem.run_bind, Sem.run_pure, Result.andThen_ok, List.map_toArray, List.map_cons, List.map_nil, h1]
    · cases h
  · rename_i hcal
    split at h
    · rename_i x y t u hx ht
      obtain ⟨htu, h0⟩ := cond_some h
      obtain rfl := beq_true htu
      obtain ⟨st', d, h', s⟩ := mappend_sound h0
      refine ⟨_, _, h', fun {X S β a w o} ho hty hr => ?_⟩
      obtain ⟨v', w', β', h1, h2, h3⟩ := s (ty := o.type) hr (ev_rel hr x) (ev_rel hr y)
      have ha : c.args = #[x, y] := by rw [← Array.toArray_toList (xs := c.args), hx]
      have hb : c.argTypes = #[t, t] := by rw [← Array.toArray_toList (xs := c.argTypes), ht]
      refine goes_ok (S := S) (β := β') (w' := w') ?_ h2 h3
      simp only [execOp, ho, resolve, hcal, invoke, builtin, ha, hb, Sem.run_bind, Sem.run_pure, Result.andThen_ok, List.map_toArray, List.map_cons, List.map_nil, h1]
    · cases h
  · rename_i hcal
    split at h
    · rename_i us hus
      split at h
      · rename_i v hv
        refine ⟨_, _, h, fun {X S β a w o} ho hty hr => ?_⟩
        have e := toVals_rel hus (evs_rel hr c.args.toList)
        have e2 : c.args.map a.eval = us.toArray := by rw [← e, ← Array.toList_map, Array.toArray_toList]
        refine goes_ok (S := S) (β := β) ?_ hr (ofVal_rel w S β v)
        simp only [execOp, ho, resolve, hcal, invoke, builtin, e2, hty, Sem.run_bind, Sem.run_pure, Result.andThen_ok, prun_run hv w]
      · cases h
    · cases h
  · rename_i hcal
    split at h
    · rename_i us hus
      split at h
      · rename_i v hv
        refine ⟨_, _, h, fun {X S β a w o} ho hty hr => ?_⟩
        have e := toVals_rel hus (evs_rel hr c.args.toList)
        have e2 : c.args.map a.eval = us.toArray := by rw [← e, ← Array.toList_map, Array.toArray_toList]
        refine goes_ok (S := S) (β := β) ?_ hr (ofVal_rel w S β v)
        simp only [execOp, ho, resolve, hcal, invoke, builtin, e2, hty, Sem.run_bind, Sem.run_pure, Result.andThen_ok, prun_run hv w]
      · cases h
    · cases h
  · rename_i f hcal
    split at h
    · rename_i g caps hf
      obtain ⟨st', d, h', hen, s⟩ := hC.sound h
      refine ⟨_, _, h', fun {X S β a w o} ho hty hr => ?_⟩
      have hfv := ev_rel hr f
      rw [hf] at hfv
      generalize hv : a.eval f = v at hfv
      cases hfv with
      | fn _ _ vs h1 h2 =>
        refine goes_enter (f := g) (vs := c.args.map a.eval ++ vs) ?_ (s hr ⟨?_, ?_⟩)
        · simp only [execOp, ho, resolve, hcal, hv, Deferred.ofValue, invoke, Sem.run_bind, Sem.run_pure, Result.andThen_ok, hen, Array.empty_append]
        · simp [evs, h1]
        · intro i v d p q
          simp only [Array.toList_append, Array.toList_map] at p
          rw [List.getElem?_append] at p q
          have e := evs_rel hr c.args.toList
          rw [List.length_map] at p
          have el : (evs st c.args.toList).length = c.args.toList.length := by simp [evs]
          rw [el] at q
          split at p
          · rename_i hi
            rw [if_pos hi] at q
            exact e.2 i v d p q
          · rename_i hi
            rw [if_neg hi] at q
            exact h2 _ v d (by simpa using p) q
    · cases h
  · cases h
theorem mop_sound {P : Program} {C : St El → Nat → List (D El) → (St El → D El → Option R) → Option R} (hC : CallOK P C) {o : Oper} {K : St El → Option R} {st : St El} {r : R} (h : mop P C o K st = some r) : ∃ st', K st' = some r ∧
    ∀ {X : Ctx El} {S β a w}, Rel X st S β a w → Goes P X o st' a w := by
  unfold mop at h
  split at h
  · rename_i x ho
    exact ⟨_, h, fun {X S β a w} hr => goes_ok (by simp [execOp, ho]) hr (ev_rel hr x)⟩
  · rename_i x ho
    exact ⟨_, h, fun {X S β a w} hr => goes_ok (by simp [execOp, ho]) hr (ev_rel hr x)⟩
  · rename_i c x y ho
    split at h
    · rename_i b hb
      obtain ⟨d, h', s⟩ := mpick_sound h
      refine ⟨_, h', fun {X S β a w} hr => ?_⟩
      have hc := ev_rel hr c
      rw [hb] at hc
      generalize hv : a.eval c = v at hc
      cases hc
      exact goes_ok (by simp [execOp, ho, hv, asBool]) hr (s w S β _ _ (ev_rel hr x) (ev_rel hr y))
    · cases h
  · rename_i t ho
    split at h
    · rename_i ds hz
      exact ⟨_, h, fun {X S β a w} hr => alloc_sound ho hz hr⟩
    · cases h
  · rename_i t x ho
    split at h
    · rename_i ds hz
      exact ⟨_, h, fun {X S β a w} hr => box_sound ho hz hr⟩
    · cases h
  · rename_i t parts ho
    obtain ⟨d, h', s⟩ := mbuild_sound h
    refine ⟨_, h', fun {X S β a w} hr => ?_⟩
    obtain ⟨v, h1, h2⟩ := s (w := w) (S := S) (β := β) (parts.map fun p => (p.1, a.eval p.2)) (by simp) (fun i p q g1 g2 => parts_rel hr parts.toList i p q (by simpa using g1) g2)
    have h1 := h1 w
    exact goes_ok (by simp [execOp, ho, h1]) hr h2
  · rename_i t len parts ho
    obtain ⟨st1, ds, h1, s1⟩ := mfzs_sound h
    obtain ⟨st2, d, h2, s2⟩ := mbuildSlice_sound h1
    refine ⟨_, h2, fun {X S β a w} hr => ?_⟩
    obtain ⟨S1, g1, g2, g3⟩ := s1 (vs := parts.toList.map fun p => a.eval p.2) hr (by
      have := evs_rel hr (parts.toList.map (·.2))
      simpa [evs, Function.comp_def] using this)
    have hlen : ds.length = parts.toList.length := by have := g3.1; simpa using this.symm
    obtain ⟨v, w', β', k1, k2, k3⟩ := s2 (parts.map fun p => (p.1, a.eval p.2)) g2 (by
      rw [List.map_fst_zip (by simp [hlen])]
      simp) (fun i p q q1 q2 => by
      simp only [Array.toList_map, List.getElem?_map] at q1
      cases hl : parts.toList[i]? with
      | none => rw [hl] at q1; cases q1
      | some x =>
        rw [hl] at q1
        cases q1
        rw [List.getElem?_zip_eq_some] at q2
        exact g3.2 i (a.eval x.2) q.2 (by simp [List.getElem?_map, hl]) q2.2)
    exact goes_ok (by simp [execOp, ho, k1]) k2 k3
  · rename_i t x ho
    obtain ⟨row, c, h1, s1⟩ := mderef_sound h
    obtain ⟨d, h2, s2⟩ := mpart_sound h1
    refine ⟨_, h2, fun {X S β a w} hr => ?_⟩
    obtain ⟨u, k1, k2⟩ := s2 (s1 hr (ev_rel hr x))
    have k1 := k1 w (Stay.refl w)
    exact goes_ok (by simp [execOp, ho, k1]) hr k2
  · rename_i t x y ho
    split at h
    · rename_i i hi
      split at h
      · rename_i cs hcs
        obtain ⟨hk, h0⟩ := cond_some h
        have hk := beq_true hk
        obtain ⟨st', h1, s1⟩ := mstore_sound (P := P) h0
        refine ⟨_, h1, fun {X S β a w} hr => ?_⟩
        obtain ⟨c1, c2⟩ := cellsD_sound hcs (ev_rel hr y)
        obtain ⟨ad, w', e1, e2, e3⟩ := s1 (a.eval y).cells.toList hr (ev_rel hr x) (by simpa using c1) (fun i u e p q => c2 i u e (by simpa using p) q)
        refine goes_skip (w' := w') ?_ e3
        simp [execOp, ho, Instr.storeAt, e1, Instr.sureAddr, storeVar, sizeOf, typeInfo, hi, c1, hk, e2]
      · cases h
    · cases h
  · rename_i x ho
    split at h
    · rename_i o' k i c hx
      refine ⟨_, h, fun {X S β a w} hr => ?_⟩
      have hv := ev_rel hr x
      rw [hx] at hv
      generalize hv2 : a.eval x = v at hv
      cases hv with
      | ptr _ _ _ _ g base b1 b2 => exact goes_ok (by simp [execOp, ho, hv2]) hr (.ptr _ _ _ _ g base b1 b2)
    · rename_i t l i c hx
      refine ⟨_, h, fun {X S β a w} hr => ?_⟩
      have hv := ev_rel hr x
      rw [hx] at hv
      generalize hv2 : a.eval x = v at hv
      have hv3 := hv
      cases hv with
      | fptr g off _ _ _ _ C ty fr vs b1 b2 b3 b4 => exact goes_ok (by simp [execOp, ho, hv2]) hr hv3
    · rename_i f caps hx
      refine ⟨_, h, fun {X S β a w} hr => ?_⟩
      have hv := ev_rel hr x
      rw [hx] at hv
      generalize hv2 : a.eval x = v at hv
      have hv3 := hv
      cases hv with
      | fn _ _ vs b1 b2 => exact goes_ok (by simp [execOp, ho, hv2]) hr hv3
    · cases h
  · rename_i op t x y yt ho
    obtain ⟨d, h', s⟩ := mbin_sound h
    refine ⟨_, h', fun {X S β a w} hr => ?_⟩
    obtain ⟨z, k1, k2⟩ := s w S β _ _ (ev_rel hr x) (ev_rel hr y)
    have k1 := k1 w
    exact goes_ok (by simp only [execOp, ho, Sem.run_bind, k1, Result.andThen_ok, Sem.run_pure]) hr k2
  · rename_i op t x ho
    split at h
    · rename_i v hv
      split at h
      · rename_i u hu
        refine ⟨_, h, fun {X S β a w} hr => ?_⟩
        have e := toVal0_rel hv (ev_rel hr x)
        exact goes_ok (by simp only [execOp, ho, Sem.run_bind, e, prun_run hu w, Result.andThen_ok, Sem.run_pure]) hr (ofVal_rel w S β u)
      · cases h
    · cases h
  · rename_i s t x ho
    split at h
    · rename_i v hv
      split at h
      · rename_i u hu
        refine ⟨_, h, fun {X S β a w} hr => ?_⟩
        have e := toVal0_rel hv (ev_rel hr x)
        exact goes_ok (by simp only [execOp, ho, Sem.run_bind, e, prun_run hu w, Result.andThen_ok, Sem.run_pure]) hr (ofVal_rel w S β u)
      · cases h
    · cases h
  · rename_i t x lo hi ho
    obtain ⟨e, h', s⟩ := mslice_sound h
    refine ⟨_, h', fun {X S β a w} hr => ?_⟩
    obtain ⟨u, k1, k2⟩ := s hr (ev_rel hr x) (evo_rel hr lo) (evo_rel hr hi)
    have k1 := k1 w
    exact goes_ok (by simp only [execOp, ho, Sem.run_bind, Option.map_none, k1, Result.andThen_ok, Sem.run_pure]) hr k2
  · rename_i s x f ho
    obtain ⟨e, h', s⟩ := mfield_sound h
    refine ⟨_, h', fun {X S β a w} hr => ?_⟩
    obtain ⟨u, k1, k2⟩ := s (ev_rel hr x)
    have k1 := k1 w
    exact goes_ok (by simp only [execOp, ho, Sem.run_bind, k1, Result.andThen_ok, Sem.run_pure]) hr k2
  · rename_i t x ix ho
    obtain ⟨e, h', s⟩ := midx_sound h
    refine ⟨_, h', fun {X S β a w} hr => ?_⟩
    obtain ⟨u, k1, k2⟩ := s hr (ev_rel hr x) (ev_rel hr ix)
    have k1 := k1 w
    exact goes_ok (by simp only [execOp, ho, Sem.run_bind, k1, Result.andThen_ok, Sem.run_pure]) hr k2
  · rename_i t x ix ho
    obtain ⟨e, h', s⟩ := mindex_sound h
    refine ⟨_, h', fun {X S β a w} hr => ?_⟩
    obtain ⟨u, k1, k2⟩ := s (ev_rel hr x) (ev_rel hr ix)
    have k1 := k1 w
    exact goes_ok (by simp only [execOp, ho, Sem.run_bind, k1, Result.andThen_ok, Sem.run_pure]) hr k2
  · rename_i x i ho
    split at h
    · rename_i l hx
      split at h
      · rename_i d hd
        refine ⟨_, h, fun {X S β a w} hr => ?_⟩
        have hv := ev_rel hr x
        rw [hx] at hv
        generalize hv2 : a.eval x = v at hv
        cases hv with
        | tup vs _ b1 b2 =>
          have hi : i < vs.size := by rw [b1]; exact (List.getElem?_eq_some_iff.1 hd).1
          have hg : vs[i]? = some vs[i] := by simp [hi]
          exact goes_ok (by simp only [execOp, ho, hv2, Instr.extract, hg, Sem.run_bind, Result.andThen_ok, Sem.run_pure]) hr (b2 i _ d hg hd)
      · cases h
    · cases h
  · rename_i fn first caps ho
    split at h
    · rename_i f hf hfirst
      refine ⟨_, h, fun {X S β a w} hr => ?_⟩
      have hfn : fn = .func f := by
        unfold isFunc at hf
        split at hf
        · cases hf; rfl
        · cases hf
      have hf0 : first = #[] := by rw [← Array.toArray_toList (xs := first), hfirst]
      have e := evs_rel hr caps.toList
      refine goes_ok (v := .func (.func f) #[] (caps.map a.eval)) ?_ hr (.fn f _ _ (by simp [evs]) (fun i v d p q => e.2 i v d (by rw [← Array.toList_map, Array.getElem?_toList]; exact p) q))
      simp only [execOp, ho, hfn, hf0, Instr.makeFunc, Sem.run_bind, Result.andThen_ok, Sem.run_pure]
      simp
    · cases h
  · rename_i t l c ho
    obtain ⟨st', d, h', s⟩ := mmake_sound h
    refine ⟨_, h', fun {X S β a w} hr => ?_⟩
    obtain ⟨v, w', β', k1, k2, k3⟩ := s hr (ev_rel hr l) (ev_rel hr c)
    exact goes_ok (by simp only [execOp, ho, Sem.run_bind, k1, Result.andThen_ok, Sem.run_pure]) k2 k3
  · rename_i t ho
    obtain ⟨st', d, h', s⟩ := mmap_sound h
    refine ⟨_, h', fun {X S β a w} hr => ?_⟩
    obtain ⟨v, w', β', k1, k2, k3⟩ := s hr
    exact goes_ok (by simp only [execOp, ho, Option.map_none, Sem.run_bind, k1, Result.andThen_ok, Sem.run_pure]) k2 k3
  · rename_i t m k ok ho
    obtain ⟨d, h', s⟩ := mlookup_sound h
    refine ⟨_, h', fun {X S β a w} hr => ?_⟩
    obtain ⟨u, k1, k2⟩ := s hr (ev_rel hr m) (ev_rel hr k)
    exact goes_ok (by simp only [execOp, ho, Sem.run_bind, k1 w (Stay.refl w), Result.andThen_ok, Sem.run_pure]) hr k2
  · rename_i t m k x ho
    obtain ⟨st', h', s⟩ := mmapUpd_sound h
    refine ⟨_, h', fun {X S β a w} hr => ?_⟩
    obtain ⟨w', k1, k2⟩ := s hr (ev_rel hr m) (ev_rel hr k) (ev_rel hr x)
    exact goes_skip (by simp only [execOp, ho, Sem.run_bind, k1, Result.andThen_ok, Sem.run_pure]) k2
  · rename_i t m k ho
    obtain ⟨st', d, h', s⟩ := mentry_sound h
    refine ⟨_, h', fun {X S β a w} hr => ?_⟩
    obtain ⟨v, w', k1, k2, k3⟩ := s hr (ev_rel hr m) (ev_rel hr k)
    exact goes_ok (by simp only [execOp, ho, Sem.run_bind, k1, Result.andThen_ok, Sem.run_pure]) k2 k3
  · rename_i t m sx x ho
    obtain ⟨st', h', s⟩ := mestore_sound (P := P) (t := t) h
    refine ⟨_, h', fun {X S β a w} hr => ?_⟩
    obtain ⟨w', k1, k2⟩ := s hr (ev_rel hr m) (ev_rel hr sx) (ev_rel hr x)
    exact goes_skip (by simp only [execOp, ho, Sem.run_bind, k1, Result.andThen_ok, Sem.run_pure]) k2
  · rename_i c ho
    obtain ⟨st', d, h', s⟩ := mcallop_sound hC h
    exact ⟨_, h', fun {X S β a w} hr => s ho rfl hr⟩
  · cases h
end Go.M
namespace Go.M
set_option linter.unusedVariables false
set_option linter.unusedSectionVars false
open Uni
variable {El : Nat → Type} [Uni El] [UniOK El] {R : Type}
def St.know (st : St El) (t : Nat) (v : Bool) : St El := { st with tmps := setNth st.tmps t (.bool v) }
theorem setNth_nth (l : List (D El)) (t : Nat) : setNth l t (nth l t) = l := by
  induction l generalizing t with
  | nil => rfl
  | cons d r ih => cases t <;> simp [setNth, nth, ih]
theorem St.know_eq {st : St El} {t : Nat} {v : Bool} (h : nth st.tmps t = .bool v) : st.know t v = st := by
  unfold St.know
  rw [← h, setNth_nth]
def St.knowOp (st : St El) (c : Operand) (v : Bool) : St El :=
  match c with
  | .tmp t => st.know t v
  | _ => st
theorem St.knowOp_eq {st : St El} {c : Operand} {v : Bool} (h : ev st c = .bool v) : st.knowOp c v = st := by
  cases c <;> first | rfl | exact St.know_eq h
def sliceTy (P : Program) (t : Nat) : Bool := match P.underlying t with | some (.slice _) => true | _ => false
theorem nil_run {P : Program} {t : Nat} (h : sliceTy P t = true) (x y : Operand) (p : Option Addr) (n c : Nat) (w : World) :
    (do eqGuard .eql t x y (.slice p n c) (.slice none 0 0); binOp .eql t (.slice p n c) (.slice none 0 0)).run P w = .ok (.bool p.isNone) w := by
  unfold sliceTy at h
  split at h
  · rename_i e he
    have hu : (underlying t).run P w = .ok (.slice e) w := by unfold underlying; simp [he]
    have h1 : (Op.equal t (.slice p n c) (.slice none 0 0)).run P w = .ok p.isNone w := by
      show (Op.equalIn (9999 + 1) t (.slice p n c) (.slice none 0 0)).run P w = _
      generalize 9999 = d
      rw [Op.equalIn]
      rw [Sem.run_bind, hu, Result.andThen_ok]
      cases p <;> rfl
    have h2 : (eqGuard .eql t x y (.slice p n c) (.slice none 0 0)).run P w = .ok () w := rfl
    have h3 : binOp .eql t (.slice p n c) (.slice none 0 0) = (do pure (.bool (← Op.equal t (.slice p n c) (.slice none 0 0)))) := rfl
    rw [Sem.run_bind, h2, Result.andThen_ok, h3, Sem.run_bind, h1, Result.andThen_ok]
    rfl
  · cases h
noncomputable def both {R : Type} (x y : Option R) : Option R := by classical exact if x = y then x else none
theorem both_some {R : Type} {x y : Option R} {r : R} (h : both x y = some r) : x = some r ∧ y = some r := by
  unfold both at h
  split at h
  · rename_i e
    exact ⟨h, e ▸ h⟩
  · cases h
theorem both_self {R : Type} (x : Option R) : both x x = x := by unfold both; simp
def nilq (P : Program) (st : St El) (o : Oper) : Option Bool :=
  match o.op with
  | .binOp .eql t x (.const (.slice none 0 0)) _ => match ev st x with | .frz _ l => cond (sliceTy P t) (some l.isEmpty) none | _ => none
  | _ => none
noncomputable def mopN (P : Program) (C : St El → Nat → List (D El) → (St El → D El → Option R) → Option R) (o : Oper) (K : St El → Option R) (st : St El) : Option R :=
  match nilq P st o with
  | some e => cond e (both (K (st.put o.dst (.bool true))) (K (st.put o.dst (.bool false)))) (K (st.put o.dst (.bool false)))
  | none => mop P C o K st
theorem mopN_sound {P : Program} {C : St El → Nat → List (D El) → (St El → D El → Option R) → Option R} (hC : CallOK P C) {o : Oper} {K : St El → Option R} {st : St El} {r : R} (h : mopN P C o K st = some r) :
    ∀ {X : Ctx El} {S β a w}, Rel X st S β a w → ∃ st', K st' = some r ∧ Goes P X o st' a w := by
  intro X S β a w hr
  unfold mopN at h
  split at h
  · rename_i e he
    unfold nilq at he
    split at he
    · rename_i t x yt ho
      split at he
      · rename_i tt l hl
        have hv := ev_rel hr x
        rw [hl] at hv
        obtain ⟨hs, he⟩ := cond_some he
        cases he
        have go : ∀ p n c, a.eval x = .slice p n c → Goes P X o (st.put o.dst (.bool p.isNone)) a w := by
          intro p n c hp
          refine goes_ok ?_ hr (.bool _)
          simp only [execOp, ho]
          rw [hp]
          simp only [Act.eval]
          have := nil_run (P := P) hs x (.const (.slice none 0 0)) p n c w
          simp only [Sem.run_bind, this, Result.andThen_ok, Sem.run_pure]
        generalize hz : a.eval x = v at hv
        cases hv with
        | frz0 p c _ =>
          obtain ⟨k1, k2⟩ := both_some (by simpa using h)
          cases p with
          | none => exact ⟨_, k1, go none 0 c hz⟩
          | some q => exact ⟨_, k2, go (some q) 0 c hz⟩
        | frz q o2 cap _ _ C ty fr vs b1 b2 b3 b4 b5 =>
          have k2 : K (st.put o.dst (.bool false)) = some r := by
            cases l with
            | nil => exact (both_some (by simpa using h)).2
            | cons y l => simpa using h
          exact ⟨_, k2, go _ _ _ hz⟩
      · cases he
    · cases he
  · obtain ⟨st', h1, s1⟩ := mop_sound hC h
    exact ⟨st', h1, s1 hr⟩
noncomputable def mops (P : Program) (C : St El → Nat → List (D El) → (St El → D El → Option R) → Option R) (ops : Array Oper) : List Oper → (St El → Option R) → St El → Option R
  | [], K, st => K st
  | o :: rest, K, st =>
    match o.guard with
    | none => mopN P C o (mops P C ops rest K) st
    | some (j, want) =>
      match (ops[j]?).bind (·.dst) with
      | some t =>
        match nth st.tmps t with
        | .bool b => cond b (cond want (mopN P C o (mops P C ops rest K) (st.know t true)) (mops P C ops rest K ((st.know t true).put o.dst (.tup []))))
            (cond want (mops P C ops rest K ((st.know t false).put o.dst (.tup []))) (mopN P C o (mops P C ops rest K) (st.know t false)))
        | .tup [] => mops P C ops rest K (st.put o.dst (.tup []))
        | _ => none
      | none => none
def After (P : Program) (X : Ctx El) (st' : St El) (Q : Exit → Act → World → Prop) : Prop :=
  ∀ a' w', (∃ S' β', Rel X st' S' β' a' w') → Q .normal a' w'
theorem mops_sound {P : Program} {C : St El → Nat → List (D El) → (St El → D El → Option R) → Option R} (hC : CallOK P C) {ops : Array Oper} : ∀ {l : List Oper} {K : St El → Option R} {st : St El} {r : R}, mops P C ops l K st = some r →
    ∀ {X : Ctx El} {S β a w} {Q : Exit → Act → World → Prop}, Rel X st S β a w → (∀ st', K st' = some r → After P X st' Q) → wpList P ops Q l a w := by
  intro l
  induction l with
  | nil => intro K st r h X S β a w Q hr hq; exact hq st h a w ⟨S, β, hr⟩
  | cons o rest ih =>
    intro K st r h X S β a w Q hr hq
    unfold mops at h
    have go : mopN P C o (mops P C ops rest K) st = some r → o.wp P a w (wpList P ops Q rest) Q := by
      intro h
      obtain ⟨st1, h1, s1⟩ := mopN_sound hC h hr
      exact Oper.wp_mono (fun a' w' ⟨S', β', hr'⟩ => ih h1 hr' hq) (s1 Q)
    split at h
    · rename_i hg
      unfold wpList
      have : Region.wanted o (yielded ops a.tmps) = true := by simp [Region.wanted, hg]
      rw [if_pos this]
      exact .inl (go h)
    · rename_i j want hg
      split at h
      · rename_i t ht
        split at h
        · rename_i b hb
          have hy : yielded ops a.tmps j = some b := by
            have hv := hr.tmps t
            rw [hb] at hv
            unfold yielded
            rw [ht]
            simp only [Option.bind_some]
            have hlt : t < a.tmps.size := by
              rcases Nat.lt_or_ge t a.tmps.size with hl | hl
              · exact hl
              · have e : a.tmps.getD t undef = undef := by simp [Array.getD, Nat.not_lt.2 hl]
                rw [e] at hv
                cases hv
            have e : a.tmps[t]? = some (a.tmps.getD t undef) := by simp [Array.getD, hlt]
            rw [e]
            generalize a.tmps.getD t undef = v at hv
            cases hv
            rfl
          have yes : cond want b (!b) = true → mopN P C o (mops P C ops rest K) st = some r → wpList P ops Q (o :: rest) a w := by
            intro hc h
            unfold wpList
            have : Region.wanted o (yielded ops a.tmps) = true := by
              simp only [Region.wanted, hg, hy]
              cases want <;> cases b <;> simp_all
            rw [if_pos this]
            exact .inl (go h)
          have no : cond want b (!b) = false → mops P C ops rest K (st.put o.dst (.tup [])) = some r → wpList P ops Q (o :: rest) a w := by
            intro hc h
            unfold wpList
            have : ¬ Region.wanted o (yielded ops a.tmps) = true := by
              simp only [Region.wanted, hg, hy]
              cases want <;> cases b <;> simp_all
            rw [if_neg this]
            exact ih h (hr.put o.dst .undef) hq
          have hk : st.know t b = st := St.know_eq hb
          cases b with
          | true =>
            simp only [cond_true, hk] at h
            cases want with
            | true => exact yes rfl h
            | false => exact no rfl h
          | false =>
            simp only [cond_false, hk] at h
            cases want with
            | true => exact no rfl h
            | false => exact yes rfl h
        · rename_i hb
          have hy : yielded ops a.tmps j = none := by
            have hv := hr.tmps t
            rw [hb] at hv
            unfold yielded
            rw [ht]
            simp only [Option.bind_some]
            cases ha : a.tmps[t]? with
            | none => rfl
            | some v =>
              have e : a.tmps.getD t undef = v := by simp [Array.getD_eq_getD_getElem?, ha]
              rw [e] at hv
              cases hv
              rfl
          unfold wpList
          have : ¬ Region.wanted o (yielded ops a.tmps) = true := by
            simp only [Region.wanted, hg, hy]
            simp
          rw [if_neg this]
          exact ih h (hr.put o.dst .undef) hq
        · cases h
      · cases h
inductive MX where
  | norm
  | exit (id : Nat)
  | ret
def MX.out : MX → Exit
  | .norm => .normal
  | .exit id => .exit id
  | .ret => .ret
def WOK (q : Nat) (W : St El → Option (St El)) : Prop :=
  ∀ st st', W st = some st' → ∀ {X : Ctx El} {S β a w}, X.q ≤ q → Rel X st S β a w → ∃ S' β', Rel X st' S' β' a w
def mloop (W : St El → Option (St El)) (body : (MX → St El → Option R) → St El → Option R) (K : MX → St El → Option R) : Nat → St El → Option R
  | 0, _ => none
  | k + 1, st => body (fun e st' => match e with
    | .norm => match W st' with
      | some st1 => mloop W body K k st1
      | none => none
    | e => K e st') st
structure Env (El : Nat → Type) (R : Type) where
  P : Program
  C : St El → Nat → List (D El) → (St El → D El → Option R) → Option R
  W : Nat → St El → Option (St El)
  X : Nat → MX → St El → Option (St El)
  draw : Nat → List Oper → (St El → Option R) → St El → Option R
  J : Nat → Bool
def firstReg : Code → Option Nat
  | .region id _ _ => some id
  | .seq x y => match firstReg x with | some i => some i | none => firstReg y
  | .cond _ x y => match firstReg x with | some i => some i | none => firstReg y
  | .block _ x => firstReg x
  | .loop x => firstReg x
  | _ => none
def Env.jn (E : Env El R) (y : Code) : Option Nat :=
  match firstReg y with
  | some r => cond (E.J r) (some (r + 100000)) none
  | none => none
def Env.wrap (E : Env El R) (j : Nat) (K : MX → St El → Option R) : MX → St El → Option R :=
  fun e s => match E.X j e s with | some s1 => K e s1 | none => none
def mjoin (E : Env El R) (j : Option Nat) (body : (MX → St El → Option R) → St El → Option R) (K : MX → St El → Option R) (st : St El) : Option R :=
  match j with
  | none => body K st
  | some j => match E.W j st with
    | some st1 => body (E.wrap j K) st1
    | none => body K st
noncomputable def mexec (E : Env El R) (k : Nat) (b : Nat) : Code → (MX → St El → Option R) → St El → Option R
  | .skip, K, st => K .norm st
  | .label _, K, st => K .norm st
  | .region id ops d, K, st => cond d (E.draw id ops.toList (K .norm) st) (mops E.P E.C ops ops.toList (K .norm) st)
  | .seq x y, K, st => mexec E k b x (fun e st => match e with | .norm => mjoin E (E.jn y) (mexec E k b y) K st | e => K e st) st
  | .cond c x y, K, st =>
    match ev st c with
    | .bool t => cond t (mexec E k b x K (st.knowOp c true)) (mexec E k b y K (st.knowOp c false))
    | _ => none
  | .block id x, K, st => mexec E k id x (fun e st => match e with | .exit j => cond (Nat.beq j id) (K .norm st) (K (.exit j) st) | e => K e st) st
  | .loop x, K, st =>
    match E.W b st with
    | some st1 => mloop (E.W b) (mexec E k b x) (fun e s => match E.X b e s with | some s1 => K e s1 | none => none) k st1
    | none => none
  | .exit id, K, st => K (.exit id) st
  | .ret, K, st => K .ret st
  | _, _, _ => none
structure EnvOK (q : Nat) (E : Env El R) : Prop where
  calls : CallOK E.P E.C
  words : ∀ b, WOK q (E.W b)
  outs : ∀ b e, WOK q (E.X b e)
  drawn : ∀ {id : Nat} {ops : Array Oper} {K : St El → Option R} {st : St El} {r : R}, E.draw id ops.toList K st = some r → ∃ st', K st' = some r ∧
    ∀ {X : Ctx El} {S β a w} {Q : Exit → Act → World → Prop}, Rel X st S β a w → After E.P X st' Q → (∀ c a w, Q (.panic c) a w ↔ False) → (Code.region id ops true).wp E.P Q a w
def Post (X : Ctx El) (K : MX → St El → Option R) (r : R) : Exit → Act → World → Prop :=
  fun e a w => ∃ me st' S β, e = me.out ∧ K me st' = some r ∧ Rel X st' S β a w
theorem mexec_sound {q : Nat} {E : Env El R} (hE : EnvOK q E) {k : Nat} {X : Ctx El} (hX : X.q ≤ q) {r : R} : ∀ (c : Code) {b : Nat} {K : MX → St El → Option R} {st : St El} {S : Nat → Prop} {β : Beta} {a : Act} {w : World},
    mexec E k b c K st = some r → Rel X st S β a w → c.wp E.P (Post X K r) a w := by
  intro c
  induction c with
  | skip => intro b K st S β a w h hr; exact wp_skip ⟨.norm, st, S, β, rfl, h, hr⟩
  | label l => intro b K st S β a w h hr; exact wp_label ⟨.norm, st, S, β, rfl, h, hr⟩
  | exit id => intro b K st S β a w h hr; exact wp_exit ⟨.exit id, st, S, β, rfl, h, hr⟩
  | ret => intro b K st S β a w h hr; exact wp_ret ⟨.ret, st, S, β, rfl, h, hr⟩
  | goto l => intro b K st S β a w h hr; cases h
  | refuse l => intro b K st S β a w h hr; cases h
  | scope x ih => intro b K st S β a w h hr; cases h
  | rangeFunc f p x y ih1 ih2 => intro b K st S β a w h hr; cases h
  | region id ops d =>
    intro b K st S β a w h hr
    simp only [mexec] at h
    cases d with
    | true =>
      obtain ⟨st', h1, s1⟩ := hE.drawn h
      refine s1 hr (fun a' w' ⟨S', β', hr'⟩ => ⟨.norm, st', S', β', rfl, h1, hr'⟩) (fun c a w => ⟨?_, fun h => h.elim⟩)
      rintro ⟨me, _, _, _, h, _⟩
      cases me <;> cases h
    | false =>
      exact wp_region_list (mops_sound hE.calls h hr (fun st' h1 a' w' ⟨S', β', hr'⟩ => ⟨.norm, st', S', β', rfl, h1, hr'⟩))
  | seq x y ih1 ih2 =>
    intro b K st S β a w h hr
    refine wp_seq (wp_mono (ih1 h hr) ?_)
    rintro e a' w' ⟨me, st', S', β', rfl, hk, hr'⟩
    cases me with
    | norm =>
      dsimp only [mjoin] at hk
      cases hj : E.jn y with
      | none =>
        rw [hj] at hk
        exact ih2 hk hr'
      | some j =>
        rw [hj] at hk
        dsimp only at hk
        cases hs : E.W j st' with
        | none =>
          rw [hs] at hk
          exact ih2 hk hr'
        | some st1 =>
          rw [hs] at hk
          dsimp only at hk
          obtain ⟨S1, β1, hr1⟩ := hE.words j st' st1 hs hX hr'
          refine wp_mono (ih2 hk hr1) ?_
          rintro e a2 w2 ⟨me, st2, S2, β2, rfl, hk2, hr2⟩
          unfold Env.wrap at hk2
          split at hk2
          · rename_i s3 h3
            obtain ⟨S3, β3, hr3⟩ := hE.outs j me st2 s3 h3 hX hr2
            exact ⟨me, s3, S3, β3, rfl, hk2, hr3⟩
          · cases hk2
    | exit id => exact ⟨.exit id, st', S', β', rfl, hk, hr'⟩
    | ret => exact ⟨.ret, st', S', β', rfl, hk, hr'⟩
  | cond c x y ih1 ih2 =>
    intro b K st S β a w h hr
    simp only [mexec] at h
    split at h
    · rename_i t ht
      have hv := ev_rel hr c
      rw [ht] at hv
      generalize hv2 : a.eval c = v at hv
      cases hv
      refine wp_cond hv2 ?_
      have hk : st.knowOp c t = st := St.knowOp_eq ht
      cases t with
      | true => rw [hk] at h; exact ih1 h hr
      | false => rw [hk] at h; exact ih2 h hr
    · cases h
  | block id x ih =>
    intro b K st S β a w h hr
    refine wp_block (wp_mono (ih h hr) ?_)
    rintro e a' w' ⟨me, st', S', β', rfl, hk, hr'⟩
    cases me with
    | norm => exact ⟨.norm, st', S', β', rfl, hk, hr'⟩
    | ret => exact ⟨.ret, st', S', β', rfl, hk, hr'⟩
    | exit j =>
      simp only [MX.out, Exit.inBlock]
      simp only at hk
      cases hj : Nat.beq j id with
      | true =>
        rw [hj] at hk
        rw [if_pos (beq_true hj)]
        exact ⟨.norm, st', S', β', rfl, hk, hr'⟩
      | false =>
        rw [hj] at hk
        rw [if_neg (beq_false hj)]
        exact ⟨.exit j, st', S', β', rfl, hk, hr'⟩
  | loop x ih =>
    intro b K st S β a w h hr
    simp only [mexec] at h
    split at h
    · rename_i st0 h0
      obtain ⟨S0, β0, hr0⟩ := hE.words b st st0 h0 hX hr
      refine wp_loop_rounds k ?_
      have key : ∀ (n : Nat) {st : St El} {S : Nat → Prop} {β : Beta} {a : Act} {w : World}, mloop (E.W b) (mexec E k b x) (fun e s => match E.X b e s with | some s1 => K e s1 | none => none) n st = some r → Rel X st S β a w → Code.rounds E.P x (Post X K r) n a w := by
        intro n
        induction n with
        | zero => intro st S β a w h hr; cases h
        | succ n ihn =>
          intro st S β a w h hr
          simp only [mloop] at h
          rw [rounds_succ]
          refine wp_mono (ih h hr) ?_
          rintro e a' w' ⟨me, st', S', β', rfl, hk, hr'⟩
          have fin : ∀ {me : MX}, (match E.X b me st' with | some s1 => K me s1 | none => none) = some r → Post X K r me.out a' w' := by
            intro me hk
            split at hk
            · rename_i s1 hs
              obtain ⟨S1, β1, hr1⟩ := hE.outs b me st' s1 hs hX hr'
              exact ⟨me, s1, S1, β1, rfl, hk, hr1⟩
            · cases hk
          cases me with
          | norm =>
            simp only at hk
            split at hk
            · rename_i st1 h1
              obtain ⟨S1, β1, hr1⟩ := hE.words b st' st1 h1 hX hr'
              exact ihn hk hr1
            · cases hk
          | exit id => exact fin (me := .exit id) hk
          | ret => exact fin (me := .ret) hk
      exact key k h hr0
    · cases h
abbrev LE (El : Nat → Type) (R : Type) := Nat → Code → (MX → St El → Option R) → St El → Option R
noncomputable def mexecG (L : LE El R) (E : Env El R) (b : Nat) : Code → (MX → St El → Option R) → St El → Option R
  | .skip, K, st => K .norm st
  | .label _, K, st => K .norm st
  | .region id ops d, K, st => cond d (E.draw id ops.toList (K .norm) st) (mops E.P E.C ops ops.toList (K .norm) st)
  | .seq x y, K, st => mexecG L E b x (fun e st => match e with
    | .norm => (match E.jn y with
      | some j => (match E.W j st with
        | some st1 => L j y K st1
        | none => mexecG L E b y K st)
      | none => mexecG L E b y K st)
    | e => K e st) st
  | .cond c x y, K, st =>
    match ev st c with
    | .bool t => cond t (mexecG L E b x K (st.knowOp c true)) (mexecG L E b y K (st.knowOp c false))
    | _ => none
  | .block id x, K, st => mexecG L E id x (fun e st => match e with | .exit j => cond (Nat.beq j id) (K .norm st) (K (.exit j) st) | e => K e st) st
  | .loop x, K, st => L b x K st
  | .exit id, K, st => K (.exit id) st
  | .ret, K, st => K .ret st
  | _, _, _ => none
def Told (L : LE El R) (E : Env El R) (k : Nat) (b : Nat) : Code → List Prop
  | .seq x y => Told L E k b x ++ ((match E.jn y with
    | some j => [∀ K st, mexec E k b y (E.wrap j K) st = L j y K st]
    | none => []) ++ Told L E k b y)
  | .cond _ x y => Told L E k b x ++ Told L E k b y
  | .block id x => Told L E k id x
  | .loop x => [∀ K st, mexec E k b (.loop x) K st = L b x K st]
  | _ => []
def AllOf : List Prop → Prop
  | [] => True
  | p :: r => p ∧ AllOf r
theorem AllOf.left {l m : List Prop} (h : AllOf (l ++ m)) : AllOf l := by
  induction l with
  | nil => trivial
  | cons p l ih => exact ⟨h.1, ih h.2⟩
theorem AllOf.right {l m : List Prop} (h : AllOf (l ++ m)) : AllOf m := by
  induction l with
  | nil => exact h
  | cons p l ih => exact ih h.2
theorem mexecG_eq {L : LE El R} {E : Env El R} {k : Nat} : ∀ (c : Code) {b : Nat}, AllOf (Told L E k b c) → ∀ K st, mexec E k b c K st = mexecG L E b c K st := by
  intro c
  induction c with
  | seq x y ih1 ih2 =>
    intro b h K st
    simp only [mexec, mexecG]
    rw [ih1 (AllOf.left h)]
    congr 1
    funext e st
    have h2 := AllOf.right (AllOf.right h)
    have h3 := AllOf.left (AllOf.right h)
    cases e with
    | norm =>
      dsimp only [mjoin]
      cases hj : E.jn y with
      | none => exact ih2 h2 K st
      | some j =>
        dsimp only
        rw [hj] at h3
        cases hw : E.W j st with
        | some st1 => exact h3.1 K st1
        | none => exact ih2 h2 K st
    | exit id => rfl
    | ret => rfl
  | cond c x y ih1 ih2 =>
    intro b h K st
    simp only [mexec, mexecG]
    rw [ih1 (AllOf.left h), ih2 (AllOf.right h)]
  | block id x ih =>
    intro b h K st
    simp only [mexec, mexecG]
    exact ih h _ st
  | loop x ih => intro b h K st; exact h.1 K st
  | _ => intro b h K st; rfl
theorem mloop_eq {W : St El → Option (St El)} {body : (MX → St El → Option R) → St El → Option R} {K : MX → St El → Option R} {A : Type} (stc : A → St El) (T : (A → Option R) → A → Option R) (l : Nat → A → Option R)
    (h0 : ∀ p, l 0 p = none) (hs : ∀ k p, l (k + 1) p = T (l k) p)
    (hA : ∀ (G : St El → Option R) p, body (fun e st' => match e with | .norm => (match W st' with | some st1 => G st1 | none => none) | e => K e st') (stc p) = T (fun p' => G (stc p')) p) :
    ∀ k p, mloop W body K k (stc p) = l k p := by
  intro k
  induction k with
  | zero => intro p; exact (h0 p).symm
  | succ k ih =>
    intro p
    rw [hs]
    refine (hA (mloop W body K k) p).trans ?_
    congr 1
    funext p'
    exact ih p'
end Go.M
