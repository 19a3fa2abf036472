/-
  The plain law: what the function computes is true. No program in sight. Condition: the row is no longer than memory.
-/
import Derived.Test.YtdagocpgefjmdaaDoorNoF0
import Derived.KernelRfl
set_option linter.unusedVariables false
set_option linter.unusedSectionVars false
set_option linter.unusedSimpArgs false
open Go Go.M Go.Proofs T
set_option linter.unusedVariables false
set_option maxRecDepth 100000
namespace Pure
def Som {α : Type} (o : Option α) (P : α → Prop) : Prop := ∃ r, o = some r ∧ P r
def Tot {α : Type} (g : Nat → Option α) (P : α → Prop) : Prop := ∃ r, P r ∧ ∃ K, ∀ k, K ≤ k → g k = some r
theorem Som.tot {α : Type} {o : Option α} {P : α → Prop} (h : Som o P) : Tot (fun _ => o) P := by
  obtain ⟨r, h, hp⟩ := h
  exact ⟨r, hp, 0, fun _ _ => h⟩
theorem Som.mono {α : Type} {o : Option α} {P Q : α → Prop} (h : Som o P) (i : ∀ r, P r → Q r) : Som o Q := by
  obtain ⟨r, h, hp⟩ := h
  exact ⟨r, h, i r hp⟩
theorem Tot.mono {α : Type} {g : Nat → Option α} {P Q : α → Prop} (h : Tot g P) (i : ∀ r, P r → Q r) : Tot g Q := by
  obtain ⟨r, hp, h⟩ := h
  exact ⟨r, i r hp, h⟩
theorem Som.one {α : Type} {r : α} {P : α → Prop} (h : P r) : Som (some r) P := ⟨r, rfl, h⟩
theorem Tot.one {α : Type} {r : α} {P : α → Prop} (h : P r) : Tot (fun _ => some r) P := ⟨r, h, 0, fun _ _ => rfl⟩
theorem Som.bind {α β : Type} {o : Option α} {f : α → Option β} {P : α → Prop} {Q : β → Prop} (h : Som o P) (i : ∀ a, P a → Som (f a) Q) : Som (o.bind f) Q := by
  obtain ⟨r, rfl, hp⟩ := h
  exact i r hp
theorem Tot.bind {α β : Type} {g : Nat → Option α} {f : Nat → α → Option β} {P : α → Prop} {Q : β → Prop} (h : Tot g P) (i : ∀ a, P a → Tot (fun k => f k a) Q) : Tot (fun k => (g k).bind (f k)) Q := by
  obtain ⟨r, hp, K, hK⟩ := h
  obtain ⟨s, hq, L, hL⟩ := i r hp
  refine ⟨s, hq, max K L, fun k hk => ?_⟩
  show (g k).bind (f k) = some s
  rw [hK k (by omega)]
  exact hL k (by omega)
theorem Tot.bind0 {α β : Type} {o : Option α} {f : Nat → α → Option β} {P : α → Prop} {Q : β → Prop} (h : Som o P) (i : ∀ a, P a → Tot (fun k => f k a) Q) : Tot (fun k => o.bind (f k)) Q := Tot.bind h.tot i
theorem Tot.succ {α : Type} {g : Nat → Option α} {P : α → Prop} (h : Tot (fun k => g (k + 1)) P) : Tot g P := by
  obtain ⟨r, hp, K, hK⟩ := h
  refine ⟨r, hp, K + 1, fun k hk => ?_⟩
  obtain ⟨m, rfl⟩ : ∃ m, k = m + 1 := ⟨k - 1, by omega⟩
  exact hK m (by omega)
theorem Tot.pos {α : Type} {c : Prop} [Decidable c] {g f : Nat → Option α} {P : α → Prop} (hc : c) (h : Tot g P) : Tot (fun k => if c then g k else f k) P := by simpa only [if_pos hc] using h
theorem Tot.neg {α : Type} {c : Prop} [Decidable c] {g f : Nat → Option α} {P : α → Prop} (hc : ¬ c) (h : Tot f P) : Tot (fun k => if c then g k else f k) P := by simpa only [if_neg hc] using h
theorem Tot.ite {α : Type} {c : Prop} [Decidable c] {g f : Nat → Option α} {P : α → Prop} (h : c → Tot g P) (i : ¬ c → Tot f P) : Tot (fun k => if c then g k else f k) P := by
  by_cases hc : c
  · exact Tot.pos hc (h hc)
  · exact Tot.neg hc (i hc)
theorem Som.pos {α : Type} {c : Prop} [Decidable c] {o p : Option α} {P : α → Prop} (hc : c) (h : Som o P) : Som (if c then o else p) P := by rwa [if_pos hc]
theorem Som.neg {α : Type} {c : Prop} [Decidable c] {o p : Option α} {P : α → Prop} (hc : ¬ c) (h : Som p P) : Som (if c then o else p) P := by rwa [if_neg hc]
theorem Som.ite {α : Type} {c : Prop} [Decidable c] {o p : Option α} {P : α → Prop} (h : c → Som o P) (i : ¬ c → Som p P) : Som (if c then o else p) P := by
  by_cases hc : c
  · exact Som.pos hc (h hc)
  · exact Som.neg hc (i hc)
theorem Tot.ex {g : Nat → Option Bool} (h : Tot g (fun r => r = true)) : ∃ k, g k = some true := by
  obtain ⟨r, rfl, K, hK⟩ := h
  exact ⟨K, hK K (Nat.le_refl _)⟩
theorem Som.cond {α : Type} {c : Bool} {o p : Option α} {P : α → Prop} (h : c = true → Som o P) (i : c = false → Som p P) : Som (_root_.cond c o p) P := by
  cases c
  · exact i rfl
  · exact h rfl
theorem Tot.cond {α : Type} {c : Bool} {g f : Nat → Option α} {P : α → Prop} (h : c = true → Tot g P) (i : c = false → Tot f P) : Tot (fun k => _root_.cond c (g k) (f k)) P := by
  cases c
  · exact i rfl
  · exact h rfl
theorem wr {x : Int} (h0 : -9223372036854775808 ≤ x) (h1 : x ≤ 9223372036854775807) : IntKind.wrap .i64 x = x := by
  have e : IntKind.wrap .i64 x = if x % 18446744073709551616 ≥ 9223372036854775808 then x % 18446744073709551616 - 18446744073709551616 else x % 18446744073709551616 := by
    simp [IntKind.wrap, IntKind.bits, IntKind.signed]
  rw [e]
  split <;> omega
theorem wrn {m : Nat} (h : m ≤ 9223372036854775807) : IntKind.wrap .i64 (m : Int) = (m : Int) := wr (by omega) (by omega)
theorem ctrue {c : Bool} {α : Type} {a b : α} (h : c = true) : _root_.cond c a b = a := by rw [h]; rfl
theorem cfalse {c : Bool} {α : Type} {a b : α} (h : c = false) : _root_.cond c a b = b := by rw [h]; rfl
theorem Som.ct {α : Type} {c : Bool} {o p : Option α} {P : α → Prop} (hc : c = true) (h : Som o P) : Som (_root_.cond c o p) P := by rw [hc]; exact h
theorem Som.cf {α : Type} {c : Bool} {o p : Option α} {P : α → Prop} (hc : c = false) (h : Som p P) : Som (_root_.cond c o p) P := by rw [hc]; exact h

theorem below_som (k : Nat) (x n : Int) (hn : n ≤ 4611686018427387904) : Som (Fn.f117.F k (x, n)) (fun r => (n < 1 → r = 0) ∧ (1 ≤ n → 0 ≤ r ∧ r < n)) := by
  unfold Fn.f117.F
  dsimp only
  refine Som.cond (fun h => ?_) (fun h => ?_)
  · have h := of_decide_eq_true h
    exact Som.one ⟨fun _ => rfl, fun h' => by omega⟩
  · have h := of_decide_eq_false h
    have h1 := Int.tmod_lt_of_pos x (show 0 < n by omega)
    have h2 := Int.lt_tmod_of_pos x (show 0 < n by omega)
    refine Som.neg (by omega) (Som.cond (fun h3 => ?_) (fun h3 => ?_))
    · have h3 := of_decide_eq_true h3
      rw [wr (by omega) (by omega)]
      exact Som.one ⟨fun h' => by omega, fun _ => by omega⟩
    · have h3 := of_decide_eq_false h3
      exact Som.one ⟨fun h' => by omega, fun _ => by omega⟩
theorem next_som (k : Nat) (l : List Int) (at_ n : Int) (hl : l.length ≤ 1125899906842624) (h0 : 0 ≤ at_) (h1 : at_ ≤ 1000000) (hn : n ≤ 4611686018427387904) :
    Som (Fn.f58.F k (l, at_, n)) (fun r => r.2.1 = l ∧ r.2.2 = at_ + 1 ∧ (n < 1 → r.1 = 0) ∧ (1 ≤ n → 0 ≤ r.1 ∧ r.1 < n)) := by
  unfold Fn.f58.F
  dsimp only
  rw [wr (x := at_ + 1) (by omega) (by omega)]
  have e : IntKind.wrap .i64 (at_ + 1 - 1) = at_ := by rw [wr] <;> omega
  rw [e]
  refine Som.cond (fun h => ?_) (fun h => ?_)
  · exact Som.bind (below_som k _ n hn) (fun a ha => Som.one ⟨rfl, rfl, ha.1, ha.2⟩)
  · have h : ¬ (l.length : Int) = 0 := by simpa using h
    have h2 := Int.tmod_lt_of_pos at_ (show 0 < (l.length : Int) by omega)
    have h3 := Int.tmod_nonneg (l.length : Int) h0
    refine Som.neg h (Som.neg h (Som.pos h3 (Som.pos h2 ?_)))
    have hlt : (Int.tmod at_ (l.length : Int)).toNat < l.length := by omega
    refine Som.bind (P := fun _ => True) ⟨l[(Int.tmod at_ (l.length : Int)).toNat], List.getElem?_eq_getElem hlt, trivial⟩ (fun y _ => ?_)
    refine Som.bind (below_som k _ _ (by omega)) (fun a _ => Som.bind (below_som k _ n hn) (fun b hb => Som.one ⟨rfl, rfl, hb.1, hb.2⟩))
theorem range_som (k : Nat) (l : List Int) (at_ lo hi : Int) (hl : l.length ≤ 1125899906842624) (h0 : 0 ≤ at_) (h1 : at_ ≤ 1000000) (b0 : -2199023255552 ≤ lo) (b1 : lo ≤ 2199023255552) (b2 : -2199023255552 ≤ hi) (b3 : hi ≤ 2199023255552) :
    Som (Fn.f37.F k (l, at_, lo, hi)) (fun r => r.2.1 = l ∧ at_ ≤ r.2.2 ∧ r.2.2 ≤ at_ + 1 ∧ lo ≤ r.1 ∧ (r.1 ≤ hi ∨ hi < lo ∧ r.1 = lo)) := by
  unfold Fn.f37.F
  dsimp only
  refine Som.cond (fun h => ?_) (fun h => ?_)
  · have h := of_decide_eq_true h
    exact Som.one ⟨rfl, by simp, by simp; omega, by simp, .inr ⟨h, rfl⟩⟩
  · have h := of_decide_eq_false h
    rw [wr (x := hi - lo) (by omega) (by omega), wr (x := hi - lo + 1) (by omega) (by omega)]
    refine Som.bind (next_som k l at_ _ hl h0 h1 (by omega)) (fun a ha => ?_)
    have h2 := ha.2.2.2 (by omega)
    rw [wr (by omega) (by omega)]
    exact Som.one ⟨ha.1, by have := ha.2.1; simp; omega, by have := ha.2.1; simp; omega, by simp; omega, .inl (by simp; omega)⟩
theorem flip_som (k : Nat) (l : List Int) (at_ n : Int) (hl : l.length ≤ 1125899906842624) (h0 : 0 ≤ at_) (h1 : at_ ≤ 1000000) (hn : n ≤ 4611686018427387904) :
    Som (Fn.f56.F k (l, at_, n)) (fun r => r.2.1 = l ∧ r.2.2 = at_ + 1) := by
  unfold Fn.f56.F
  dsimp only
  exact Som.bind (next_som k l at_ n hl h0 h1 hn) (fun a ha => Som.one ⟨ha.1, ha.2.1⟩)
theorem rd_som {α : Type} (xs : List α) (i : Int) (h0 : 0 ≤ i) (h1 : i < (xs.length : Int)) : Som (xs[i.toNat]?) (fun y => y ∈ xs) := by
  have : i.toNat < xs.length := by omega
  exact ⟨xs[i.toNat], List.getElem?_eq_getElem this, List.getElem_mem _⟩
theorem pick_som (k : Nat) (l : List Int) (at_ : Int) (xs : List Int) (hl : l.length ≤ 1125899906842624) (h0 : 0 ≤ at_) (h1 : at_ ≤ 1000000) (hx : 0 < xs.length) (hx2 : xs.length ≤ 1000000) :
    Som (Fn.f42.F k (l, at_, xs)) (fun r => r.2.1 = l ∧ r.2.2 = at_ + 1 ∧ r.1 ∈ xs) := by
  unfold Fn.f42.F
  dsimp only
  refine Som.bind (next_som k l at_ _ hl h0 h1 (by omega)) (fun a ha => ?_)
  have h2 := ha.2.2.2 (by omega)
  exact Som.pos h2.1 (Som.pos h2.2 (Som.bind (rd_som xs a.1 h2.1 h2.2) (fun y hy => Som.one ⟨ha.1, ha.2.1, hy⟩)))
theorem odd_som (k : Nat) (l : List Int) (at_ lo hi : Int) (hl : l.length ≤ 1125899906842624) (h0 : 0 ≤ at_) (h1 : at_ ≤ 900000) (b0 : -1099511627776 ≤ lo) (b1 : lo ≤ 1099511627776) (b2 : -1099511627776 ≤ hi) (b3 : hi ≤ 1099511627776) :
    Som (Fn.f64.F k (l, at_, lo, hi)) (fun r => r.2.1 = l ∧ at_ ≤ r.2.2 ∧ r.2.2 ≤ at_ + 2 ∧ (r.1 ∈ [lo - 1, hi + 1, lo, hi, -1099511627776, 1099511627776] ∨ lo ≤ r.1 ∧ (r.1 ≤ hi ∨ hi < lo ∧ r.1 = lo))) := by
  unfold Fn.f64.F
  dsimp only
  refine Som.bind (flip_som k l at_ 12 hl h0 (by omega) (by omega)) (fun a ha => Som.cond (fun _ => ?_) (fun _ => ?_))
  · rw [wr (x := lo - 1) (by omega) (by omega), wr (x := hi + 1) (by omega) (by omega), ha.1]
    refine Som.bind (pick_som k l _ _ hl (by omega) (by omega) (by simp) (by simp)) (fun b hb => Som.one ⟨hb.1, by have := hb.2.1; simp; omega, by have := hb.2.1; simp; omega, .inl hb.2.2⟩)
  · rw [ha.1]
    refine Som.bind (range_som k l _ lo hi hl (by omega) (by omega) (by omega) (by omega) (by omega) (by omega)) (fun b hb => Som.one ⟨hb.1, by have := hb.2; simp; omega, by have := hb.2; simp; omega, .inr hb.2.2.2⟩)

theorem some_som (k : Nat) (l : List Int) (at_ : Int) (xs : List ByteArray) (hl : l.length ≤ 1125899906842624) (h0 : 0 ≤ at_) (h1 : at_ ≤ 1000000) (hx : 0 < xs.length) (hx2 : xs.length ≤ 1000000) :
    Som (Fn.f30.F k (l, at_, xs)) (fun r => r.2.1 = l ∧ r.2.2 = at_ + 1 ∧ r.1 ∈ xs) := by
  unfold Fn.f30.F
  dsimp only
  refine Som.bind (next_som k l at_ _ hl h0 h1 (by omega)) (fun a ha => ?_)
  have h2 := ha.2.2.2 (by omega)
  exact Som.pos h2.1 (Som.pos h2.2 (Som.bind (rd_som xs a.1 h2.1 h2.2) (fun y hy => Som.one ⟨ha.1, ha.2.1, hy⟩)))
noncomputable def chkText (t : ByteArray) : Bool := match Fn.f68.F 20 t, Fn.f69.F 20 t with
  | some a, some b => (a.2 == b.2) && (a.1 == b.1)
  | _, _ => false
noncomputable def chkName (n : Nat) : Bool := match Fn.f67.F 20 (n : Int) with
  | some t => chkText t
  | none => false
def allN (p : Nat → Bool) : Nat → Bool
  | 0 => true
  | n + 1 => cond (p n) (allN p n) false
theorem allN_spec {p : Nat → Bool} : ∀ {n : Nat}, allN p n = true → ∀ i, i < n → p i = true
  | 0, _, i, h => by omega
  | n + 1, h, i, hi => by
    unfold allN at h
    cases hp : p n with
    | false => rw [hp] at h; cases h
    | true =>
      rw [hp] at h
      by_cases he : i = n
      · subst he; exact hp
      · exact allN_spec h i (by omega)
theorem names_ok : allN chkName 128 = true := by kernel_rfl
theorem name_som (n : Int) (h0 : 0 ≤ n) (h1 : n ≤ 127) : Som (Fn.f67.F 20 n) (fun t => chkText t = true) := by
  have h := allN_spec names_ok n.toNat (by omega)
  unfold chkName at h
  have e : ((n.toNat : Nat) : Int) = n := by omega
  rw [e] at h
  split at h
  · rename_i t ht
    exact ⟨t, ht, h⟩
  · cases h
theorem all_spec {α : Type} {p : α → Bool} {l : List α} (h : l.all p = true) : ∀ x ∈ l, p x = true := List.all_eq_true.1 h
theorem text_som (l : List Int) (at_ : Int) (hl : l.length ≤ 1125899906842624) (h0 : 0 ≤ at_) (h1 : at_ ≤ 900000) :
    Som (Fn.f65.F 20 (l, at_)) (fun r => r.2.1 = l ∧ at_ ≤ r.2.2 ∧ r.2.2 ≤ at_ + 3 ∧ chkText r.1 = true) := by
  unfold Fn.f65.F
  dsimp only
  refine Som.bind (range_som 20 l at_ 0 127 hl h0 (by omega) (by omega) (by omega) (by omega) (by omega)) (fun a ha => ?_)
  refine Som.bind (name_som a.1 ha.2.2.2.1 (by rcases ha.2.2.2.2 with h | h <;> omega)) (fun t ht => ?_)
  rw [ha.1]
  refine Som.bind (flip_som 20 l _ 3 hl (by omega) (by omega) (by omega)) (fun b hb => Som.cond (fun _ => ?_) (fun _ => ?_))
  · rw [hb.1]
    refine Som.bind (some_som 20 l _ _ hl (by omega) (by omega) (by simp) (by simp)) (fun c hc => Som.one ⟨hc.1, by have := hc.2.1; simp; omega, by have := hc.2.1; simp; omega, ?_⟩)
    refine all_spec ?_ _ hc.2.2
    kernel_rfl
  · exact Som.one ⟨hb.1, by simp; omega, by simp; omega, ht⟩
def AllEq (L : Int → Prop) : List Int → Prop
  | [] => True
  | n :: r => L n ∧ AllEq L r
theorem AllEq.get {L : Int → Prop} : ∀ {l : List Int}, AllEq L l → ∀ n ∈ l, L n
  | [], _, n, h => by cases h
  | m :: r, h, n, hn => by
    rcases List.mem_cons.1 hn with rfl | hn
    · exact h.1
    · exact AllEq.get h.2 n hn
def NoteOK (n : Int) : Prop := ∀ t, Fn.f10.l100005 20 (fun t2 => some t2) (n, t) = Fn.f10.l100009 20 (fun t2 => some t2) t
theorem notes_ok : AllEq NoteOK [-1, 128, -1099511627776, 1099511627776, 0, 1, 2, 3, 4, 5, 6, 7, 8, 9, 10, 11, 12, 13, 14, 15, 16, 17, 18, 19, 20, 21, 22, 23, 24, 25, 26, 27, 28, 29, 30, 31, 32, 33, 34, 35, 36, 37, 38, 39, 40, 41, 42, 43, 44, 45, 46, 47, 48, 49, 50, 51, 52, 53, 54, 55, 56, 57, 58, 59, 60, 61, 62, 63, 64, 65, 66, 67, 68, 69, 70, 71, 72, 73, 74, 75, 76, 77, 78, 79, 80, 81, 82, 83, 84, 85, 86, 87, 88, 89, 90, 91, 92, 93, 94, 95, 96, 97, 98, 99, 100, 101, 102, 103, 104, 105, 106, 107, 108, 109, 110, 111, 112, 113, 114, 115, 116, 117, 118, 119, 120, 121, 122, 123, 124, 125, 126, 127] := by
  repeat (first | exact trivial | refine ⟨fun t => by kernel_rfl, ?_⟩)
theorem last_som (t : ByteArray) (h : chkText t = true) : Fn.f10.l100009 20 (fun t2 => some t2) t = some true := by
  unfold chkText at h
  unfold Fn.f10.l100009
  dsimp only
  split at h
  · rename_i a b ha hb
    obtain ⟨h1, h2⟩ := Bool.and_eq_true_iff.1 h
    rw [ha, hb]
    simp only [Option.bind_some]
    rw [ctrue h1, ctrue h2]
    kernel_rfl
  · cases h
theorem mem_notes (n : Int) (h : n ∈ [(0 : Int) - 1, 127 + 1, 0, 127, -1099511627776, 1099511627776] ∨ 0 ≤ n ∧ (n ≤ 127 ∨ (127 : Int) < 0 ∧ n = 0)) : NoteOK n := by
  refine notes_ok.get n ?_
  rcases h with h | ⟨h1, h2⟩
  · simp only [List.mem_cons, List.not_mem_nil, or_false] at h
    rcases h with rfl | rfl | rfl | rfl | rfl | rfl <;> decide
  · have : n ≤ 127 := by omega
    obtain ⟨m, rfl⟩ : ∃ m : Nat, n = m := ⟨n.toNat, by omega⟩
    have hm : m < 128 := by omega
    have := allN_spec (p := fun m => decide ((m : Int) ∈ ([-1, 128, -1099511627776, 1099511627776, 0, 1, 2, 3, 4, 5, 6, 7, 8, 9, 10, 11, 12, 13, 14, 15, 16, 17, 18, 19, 20, 21, 22, 23, 24, 25, 26, 27, 28, 29, 30, 31, 32, 33, 34, 35, 36, 37, 38, 39, 40, 41, 42, 43, 44, 45, 46, 47, 48, 49, 50, 51, 52, 53, 54, 55, 56, 57, 58, 59, 60, 61, 62, 63, 64, 65, 66, 67, 68, 69, 70, 71, 72, 73, 74, 75, 76, 77, 78, 79, 80, 81, 82, 83, 84, 85, 86, 87, 88, 89, 90, 91, 92, 93, 94, 95, 96, 97, 98, 99, 100, 101, 102, 103, 104, 105, 106, 107, 108, 109, 110, 111, 112, 113, 114, 115, 116, 117, 118, 119, 120, 121, 122, 123, 124, 125, 126, 127] : List Int))) (n := 128) (by decide +kernel) m hm
    exact of_decide_eq_true this
theorem law_pure (l : List Int) (hl : l.length ≤ 1125899906842624) : ∃ k, Fn.f10.F k l = some true := by
  refine ⟨20, ?_⟩
  have key : Som (Fn.f10.F 20 l) (fun r => r = true) := by
    unfold Fn.f10.F
    refine Som.bind (odd_som 20 l 0 0 127 hl (by omega) (by omega) (by omega) (by omega) (by omega) (by omega)) (fun a ha => ?_)
    rw [ha.1]
    refine Som.bind (text_som l _ hl (by omega) (by omega)) (fun b hb => ?_)
    rw [hb.1]
    refine Som.bind (flip_som 20 l _ 2 hl (by omega) (by omega) (by omega)) (fun c hc => Som.cond (fun _ => ?_) (fun _ => ?_))
    · rw [hc.1]
      refine Som.bind (range_som 20 l _ 0 127 hl (by omega) (by omega) (by omega) (by omega) (by omega) (by omega)) (fun d hd => ?_)
      exact ⟨true, (mem_notes d.1 (.inr hd.2.2.2) b.1).trans (last_som b.1 hb.2.2.2), rfl⟩
    · exact ⟨true, (mem_notes a.1 ha.2.2.2 b.1).trans (last_som b.1 hb.2.2.2), rfl⟩
  obtain ⟨r, h, rfl⟩ := key
  exact h

end Pure
