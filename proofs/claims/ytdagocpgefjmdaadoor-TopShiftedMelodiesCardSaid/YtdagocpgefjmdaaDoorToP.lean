/-
  The plain law: what the function computes is true. No program in sight. Condition: the row is no longer than memory.
-/
import Derived.Test.YtdagocpgefjmdaaDoorToF30
import Derived.KernelRfl
set_option linter.unusedVariables false
set_option linter.unusedSectionVars false
set_option linter.unusedSimpArgs false
open Go Go.M Go.Proofs T
set_option linter.unusedVariables false
set_option maxRecDepth 100000
namespace Pure
def Som {α : Type} (o : Option α) (P : α → Prop) : Prop := ∃ r, o = some r ∧ P r
def Tot {α : Type} (g : Nat → Option α) (P : α → Prop) : Prop := ∃ r, P r ∧ ∃ K, ∀ k, K ≤ k → g k = some r
theorem Som.tot {α : Type} {o : Option α} {P : α → Prop} (h : Som o P) : Tot (fun _ => o) P := by
  obtain ⟨r, h, hp⟩ := h
  exact ⟨r, hp, 0, fun _ _ => h⟩
theorem Som.mono {α : Type} {o : Option α} {P Q : α → Prop} (h : Som o P) (i : ∀ r, P r → Q r) : Som o Q := by
  obtain ⟨r, h, hp⟩ := h
  exact ⟨r, h, i r hp⟩
theorem Tot.mono {α : Type} {g : Nat → Option α} {P Q : α → Prop} (h : Tot g P) (i : ∀ r, P r → Q r) : Tot g Q := by
  obtain ⟨r, hp, h⟩ := h
  exact ⟨r, i r hp, h⟩
theorem Som.one {α : Type} {r : α} {P : α → Prop} (h : P r) : Som (some r) P := ⟨r, rfl, h⟩
theorem Tot.one {α : Type} {r : α} {P : α → Prop} (h : P r) : Tot (fun _ => some r) P := ⟨r, h, 0, fun _ _ => rfl⟩
theorem Som.bind {α β : Type} {o : Option α} {f : α → Option β} {P : α → Prop} {Q : β → Prop} (h : Som o P) (i : ∀ a, P a → Som (f a) Q) : Som (o.bind f) Q := by
  obtain ⟨r, rfl, hp⟩ := h
  exact i r hp
theorem Tot.bind {α β : Type} {g : Nat → Option α} {f : Nat → α → Option β} {P : α → Prop} {Q : β → Prop} (h : Tot g P) (i : ∀ a, P a → Tot (fun k => f k a) Q) : Tot (fun k => (g k).bind (f k)) Q := by
  obtain ⟨r, hp, K, hK⟩ := h
  obtain ⟨s, hq, L, hL⟩ := i r hp
  refine ⟨s, hq, max K L, fun k hk => ?_⟩
  show (g k).bind (f k) = some s
  rw [hK k (by omega)]
  exact hL k (by omega)
theorem Tot.bind0 {α β : Type} {o : Option α} {f : Nat → α → Option β} {P : α → Prop} {Q : β → Prop} (h : Som o P) (i : ∀ a, P a → Tot (fun k => f k a) Q) : Tot (fun k => o.bind (f k)) Q := Tot.bind h.tot i
theorem Tot.succ {α : Type} {g : Nat → Option α} {P : α → Prop} (h : Tot (fun k => g (k + 1)) P) : Tot g P := by
  obtain ⟨r, hp, K, hK⟩ := h
  refine ⟨r, hp, K + 1, fun k hk => ?_⟩
  obtain ⟨m, rfl⟩ : ∃ m, k = m + 1 := ⟨k - 1, by omega⟩
  exact hK m (by omega)
theorem Tot.pos {α : Type} {c : Prop} [Decidable c] {g f : Nat → Option α} {P : α → Prop} (hc : c) (h : Tot g P) : Tot (fun k => if c then g k else f k) P := by simpa only [if_pos hc] using h
theorem Tot.neg {α : Type} {c : Prop} [Decidable c] {g f : Nat → Option α} {P : α → Prop} (hc : ¬ c) (h : Tot f P) : Tot (fun k => if c then g k else f k) P := by simpa only [if_neg hc] using h
theorem Tot.ite {α : Type} {c : Prop} [Decidable c] {g f : Nat → Option α} {P : α → Prop} (h : c → Tot g P) (i : ¬ c → Tot f P) : Tot (fun k => if c then g k else f k) P := by
  by_cases hc : c
  · exact Tot.pos hc (h hc)
  · exact Tot.neg hc (i hc)
theorem Som.pos {α : Type} {c : Prop} [Decidable c] {o p : Option α} {P : α → Prop} (hc : c) (h : Som o P) : Som (if c then o else p) P := by rwa [if_pos hc]
theorem Som.neg {α : Type} {c : Prop} [Decidable c] {o p : Option α} {P : α → Prop} (hc : ¬ c) (h : Som p P) : Som (if c then o else p) P := by rwa [if_neg hc]
theorem Som.ite {α : Type} {c : Prop} [Decidable c] {o p : Option α} {P : α → Prop} (h : c → Som o P) (i : ¬ c → Som p P) : Som (if c then o else p) P := by
  by_cases hc : c
  · exact Som.pos hc (h hc)
  · exact Som.neg hc (i hc)
theorem Tot.ex {g : Nat → Option Bool} (h : Tot g (fun r => r = true)) : ∃ k, g k = some true := by
  obtain ⟨r, rfl, K, hK⟩ := h
  exact ⟨K, hK K (Nat.le_refl _)⟩
theorem Som.cond {α : Type} {c : Bool} {o p : Option α} {P : α → Prop} (h : c = true → Som o P) (i : c = false → Som p P) : Som (_root_.cond c o p) P := by
  cases c
  · exact i rfl
  · exact h rfl
theorem Tot.cond {α : Type} {c : Bool} {g f : Nat → Option α} {P : α → Prop} (h : c = true → Tot g P) (i : c = false → Tot f P) : Tot (fun k => _root_.cond c (g k) (f k)) P := by
  cases c
  · exact i rfl
  · exact h rfl
theorem wr {x : Int} (h0 : -9223372036854775808 ≤ x) (h1 : x ≤ 9223372036854775807) : IntKind.wrap .i64 x = x := by
  have e : IntKind.wrap .i64 x = if x % 18446744073709551616 ≥ 9223372036854775808 then x % 18446744073709551616 - 18446744073709551616 else x % 18446744073709551616 := by
    simp [IntKind.wrap, IntKind.bits, IntKind.signed]
  rw [e]
  split <;> omega
theorem wrn {m : Nat} (h : m ≤ 9223372036854775807) : IntKind.wrap .i64 (m : Int) = (m : Int) := wr (by omega) (by omega)
theorem ctrue {c : Bool} {α : Type} {a b : α} (h : c = true) : _root_.cond c a b = a := by rw [h]; rfl
theorem cfalse {c : Bool} {α : Type} {a b : α} (h : c = false) : _root_.cond c a b = b := by rw [h]; rfl
theorem Som.ct {α : Type} {c : Bool} {o p : Option α} {P : α → Prop} (hc : c = true) (h : Som o P) : Som (_root_.cond c o p) P := by rw [hc]; exact h
theorem Som.cf {α : Type} {c : Bool} {o p : Option α} {P : α → Prop} (hc : c = false) (h : Som p P) : Som (_root_.cond c o p) P := by rw [hc]; exact h

theorem below_som (k : Nat) (x n : Int) (hn : n ≤ 4611686018427387904) : Som (Fn.f117.F k (x, n)) (fun r => (n < 1 → r = 0) ∧ (1 ≤ n → 0 ≤ r ∧ r < n)) := by
  unfold Fn.f117.F
  dsimp only
  refine Som.cond (fun h => ?_) (fun h => ?_)
  · have h := of_decide_eq_true h
    exact Som.one ⟨fun _ => rfl, fun h' => by omega⟩
  · have h := of_decide_eq_false h
    have h1 := Int.tmod_lt_of_pos x (show 0 < n by omega)
    have h2 := Int.lt_tmod_of_pos x (show 0 < n by omega)
    refine Som.neg (by omega) (Som.cond (fun h3 => ?_) (fun h3 => ?_))
    · have h3 := of_decide_eq_true h3
      rw [wr (by omega) (by omega)]
      exact Som.one ⟨fun h' => by omega, fun _ => by omega⟩
    · have h3 := of_decide_eq_false h3
      exact Som.one ⟨fun h' => by omega, fun _ => by omega⟩
theorem next_som (k : Nat) (l : List Int) (at_ n : Int) (hl : l.length ≤ 1125899906842624) (h0 : 0 ≤ at_) (h1 : at_ ≤ 1000000) (hn : n ≤ 4611686018427387904) :
    Som (Fn.f58.F k (l, at_, n)) (fun r => r.2.1 = l ∧ r.2.2 = at_ + 1 ∧ (n < 1 → r.1 = 0) ∧ (1 ≤ n → 0 ≤ r.1 ∧ r.1 < n)) := by
  unfold Fn.f58.F
  dsimp only
  rw [wr (x := at_ + 1) (by omega) (by omega)]
  have e : IntKind.wrap .i64 (at_ + 1 - 1) = at_ := by rw [wr] <;> omega
  rw [e]
  refine Som.cond (fun h => ?_) (fun h => ?_)
  · exact Som.bind (below_som k _ n hn) (fun a ha => Som.one ⟨rfl, rfl, ha.1, ha.2⟩)
  · have h : ¬ (l.length : Int) = 0 := by simpa using h
    have h2 := Int.tmod_lt_of_pos at_ (show 0 < (l.length : Int) by omega)
    have h3 := Int.tmod_nonneg (l.length : Int) h0
    refine Som.neg h (Som.neg h (Som.pos h3 (Som.pos h2 ?_)))
    have hlt : (Int.tmod at_ (l.length : Int)).toNat < l.length := by omega
    refine Som.bind (P := fun _ => True) ⟨l[(Int.tmod at_ (l.length : Int)).toNat], List.getElem?_eq_getElem hlt, trivial⟩ (fun y _ => ?_)
    refine Som.bind (below_som k _ _ (by omega)) (fun a _ => Som.bind (below_som k _ n hn) (fun b hb => Som.one ⟨rfl, rfl, hb.1, hb.2⟩))
theorem range_som (k : Nat) (l : List Int) (at_ lo hi : Int) (hl : l.length ≤ 1125899906842624) (h0 : 0 ≤ at_) (h1 : at_ ≤ 1000000) (b0 : -2199023255552 ≤ lo) (b1 : lo ≤ 2199023255552) (b2 : -2199023255552 ≤ hi) (b3 : hi ≤ 2199023255552) :
    Som (Fn.f37.F k (l, at_, lo, hi)) (fun r => r.2.1 = l ∧ at_ ≤ r.2.2 ∧ r.2.2 ≤ at_ + 1 ∧ lo ≤ r.1 ∧ (r.1 ≤ hi ∨ hi < lo ∧ r.1 = lo)) := by
  unfold Fn.f37.F
  dsimp only
  refine Som.cond (fun h => ?_) (fun h => ?_)
  · have h := of_decide_eq_true h
    exact Som.one ⟨rfl, by simp, by simp; omega, by simp, .inr ⟨h, rfl⟩⟩
  · have h := of_decide_eq_false h
    rw [wr (x := hi - lo) (by omega) (by omega), wr (x := hi - lo + 1) (by omega) (by omega)]
    refine Som.bind (next_som k l at_ _ hl h0 h1 (by omega)) (fun a ha => ?_)
    have h2 := ha.2.2.2 (by omega)
    rw [wr (by omega) (by omega)]
    exact Som.one ⟨ha.1, by have := ha.2.1; simp; omega, by have := ha.2.1; simp; omega, by simp; omega, .inl (by simp; omega)⟩
theorem flip_som (k : Nat) (l : List Int) (at_ n : Int) (hl : l.length ≤ 1125899906842624) (h0 : 0 ≤ at_) (h1 : at_ ≤ 1000000) (hn : n ≤ 4611686018427387904) :
    Som (Fn.f56.F k (l, at_, n)) (fun r => r.2.1 = l ∧ r.2.2 = at_ + 1) := by
  unfold Fn.f56.F
  dsimp only
  exact Som.bind (next_som k l at_ n hl h0 h1 hn) (fun a ha => Som.one ⟨ha.1, ha.2.1⟩)
theorem rd_som {α : Type} (xs : List α) (i : Int) (h0 : 0 ≤ i) (h1 : i < (xs.length : Int)) : Som (xs[i.toNat]?) (fun y => y ∈ xs) := by
  have : i.toNat < xs.length := by omega
  exact ⟨xs[i.toNat], List.getElem?_eq_getElem this, List.getElem_mem _⟩
theorem pick_som (k : Nat) (l : List Int) (at_ : Int) (xs : List Int) (hl : l.length ≤ 1125899906842624) (h0 : 0 ≤ at_) (h1 : at_ ≤ 1000000) (hx : 0 < xs.length) (hx2 : xs.length ≤ 1000000) :
    Som (Fn.f42.F k (l, at_, xs)) (fun r => r.2.1 = l ∧ r.2.2 = at_ + 1 ∧ r.1 ∈ xs) := by
  unfold Fn.f42.F
  dsimp only
  refine Som.bind (next_som k l at_ _ hl h0 h1 (by omega)) (fun a ha => ?_)
  have h2 := ha.2.2.2 (by omega)
  exact Som.pos h2.1 (Som.pos h2.2 (Som.bind (rd_som xs a.1 h2.1 h2.2) (fun y hy => Som.one ⟨ha.1, ha.2.1, hy⟩)))

abbrev PT := T.E114
def tenor : ByteArray := ⟨#[116, 101, 110, 111, 114]⟩
def alto : ByteArray := ⟨#[97, 108, 116, 111]⟩
def bass : ByteArray := ⟨#[98, 97, 115, 115]⟩
def nms : List ByteArray := [tenor, alto, bass, ⟨#[]⟩]
def okP (x : PT) : Prop := x.f0 ∈ nms ∧ (42 ≤ x.f1 ∧ x.f1 ≤ 100) ∧ (49 ≤ x.f2 ∧ x.f2 ≤ 66) ∧ (-1 ≤ x.f3 ∧ x.f3 ≤ 5) ∧ (0 ≤ x.f4 ∧ x.f4 ≤ 101)
theorem some_som (k : Nat) (l : List Int) (at_ : Int) (xs : List ByteArray) (hl : l.length ≤ 1125899906842624) (h0 : 0 ≤ at_) (h1 : at_ ≤ 1000000) (hx : 0 < xs.length) (hx2 : xs.length ≤ 1000000) :
    Som (Fn.f30.F k (l, at_, xs)) (fun r => r.2.1 = l ∧ r.2.2 = at_ + 1 ∧ r.1 ∈ xs) := by
  unfold Fn.f30.F
  dsimp only
  refine Som.bind (next_som k l at_ _ hl h0 h1 (by omega)) (fun a ha => ?_)
  have h2 := ha.2.2.2 (by omega)
  exact Som.pos h2.1 (Som.pos h2.2 (Som.bind (rd_som xs a.1 h2.1 h2.2) (fun y hy => Som.one ⟨ha.1, ha.2.1, hy⟩)))
theorem parts_loop (k : Nat) (l : List Int) (hl : l.length ≤ 1125899906842624) (E : List Int × Int × List PT → Option (List PT × List Int × Int)) (Q : List PT × List Int × Int → Prop) (t13 : Int) (ht : t13 ≤ 3) (t12l : Nat) (htl : (t12l : Int) = t13) :
    ∀ (d n : Nat) (t14 at_ : Int) (o1 : List PT), d = (t13 - t14).toNat → 0 ≤ t14 → t14 ≤ t13 → d < n → (o1.length : Int) = t14 → (∀ x ∈ o1, okP x) → 0 ≤ at_ → at_ + 4 * (d : Int) ≤ 900000 →
      (∀ (a : Int) (o : List PT), at_ ≤ a → a ≤ at_ + 4 * (d : Int) → o.length ≤ 3 → (∀ x ∈ o, okP x) → Som (E (l, a, o)) Q) → Som (Fn.f132.l0 k E n (0, t12l, t13, t14, l, at_, o1, [tenor, alto, bass])) Q := by
  intro d
  induction d with
  | zero =>
    intro n t14 at_ o1 hd h0 h1 hn hlen hok ha0 ha1 hE
    obtain ⟨m, rfl⟩ : ∃ q, n = q + 1 := ⟨n - 1, by omega⟩
    show Som (Fn.f132.l0T k E (Fn.f132.l0 k E m) _) Q
    unfold Fn.f132.l0T
    dsimp only
    refine Som.cf (decide_eq_false (by omega)) ?_
    exact hE at_ o1 (by omega) (by omega) (by omega) hok
  | succ d ih =>
    intro n t14 at_ o1 hd h0 h1 hn hlen hok ha0 ha1 hE
    obtain ⟨m, rfl⟩ : ∃ q, n = q + 1 := ⟨n - 1, by omega⟩
    show Som (Fn.f132.l0T k E (Fn.f132.l0 k E m) _) Q
    unfold Fn.f132.l0T
    dsimp only
    refine Som.ct (decide_eq_true (by omega)) (Som.pos h0 (Som.pos (by omega) ?_))
    have hi : 0 + t14.toNat < [tenor, alto, bass].length := by simp; omega
    refine Som.bind (P := fun y => y ∈ [tenor, alto, bass]) ⟨_, List.getElem?_eq_getElem hi, List.getElem_mem _⟩ (fun y hy => ?_)
    refine Som.bind (pick_som k l at_ _ hl ha0 (by omega) (by simp) (by simp)) (fun a h => ?_)
    rw [h.1]
    refine Som.bind (pick_som k l _ _ hl (by omega) (by omega) (by simp) (by simp)) (fun b hb => ?_)
    rw [hb.1]
    refine Som.bind (pick_som k l _ _ hl (by omega) (by omega) (by simp) (by simp)) (fun c hc => ?_)
    rw [hc.1]
    refine Som.bind (pick_som k l _ _ hl (by omega) (by omega) (by simp) (by simp)) (fun e he => ?_)
    rw [he.1]
    have a3 := h.2.2
    have b3 := hb.2.2
    have c3 := hc.2.2
    have e3 := he.2.2
    simp only [List.mem_cons, List.not_mem_nil, or_false] at a3 b3 c3 e3
    have a4 : 42 ≤ a.1 ∧ a.1 ≤ 52 := by clear b3 c3 e3; omega
    have b4 : 0 ≤ b.1 ∧ b.1 ≤ 2 := by clear a3 c3 e3; omega
    have c4 : 7 ≤ c.1 ∧ c.1 ≤ 14 := by clear a3 b3 e3; omega
    have e4 : 0 ≤ e.1 ∧ e.1 ≤ 3 := by clear a3 b3 c3; omega
    clear a3 b3 c3 e3
    refine Som.pos (by simp only [List.length_cons, List.length_nil]; omega) ?_
    rw [wr (x := t14 + 1) (by omega) (by omega), wr (x := a.1 + c.1) (by omega) (by omega), wr (x := b.1 + e.1) (by omega) (by omega)]
    refine ih m (t14 + 1) e.2.2 (o1 ++ [⟨y, a.1, a.1 + c.1, b.1, b.1 + e.1⟩]) (by omega) (by omega) (by omega) (by omega) (by simp; omega) (fun x hx => ?_) (by omega) (by omega) (fun a' o' q1 q2 q3 q4 => hE a' o' (by omega) (by omega) q3 q4)
    rcases List.mem_append.1 hx with hx | hx
    · exact hok x hx
    · rw [List.mem_singleton] at hx
      subst hx
      refine ⟨?_, by dsimp only; omega, by dsimp only; omega, by dsimp only; omega, by dsimp only; omega⟩
      dsimp only
      simp only [nms, List.mem_cons, List.not_mem_nil, or_false] at hy ⊢
      rcases hy with h | h | h
      · exact .inl h
      · exact .inr (.inl h)
      · exact .inr (.inr (.inl h))
theorem parts_odd (k : Nat) (l : List Int) (hl : l.length ≤ 1125899906842624) (E : List Int × Int × List PT → Option (List PT × List Int × Int)) (Q : List PT × List Int × Int → Prop) (at_ : Int) (o1 : List PT) (h0 : 0 ≤ at_) (h1 : at_ ≤ 900000) (b : Bool) (hb : b = true → 0 < o1.length) (hlen : o1.length ≤ 3) (hok : ∀ x ∈ o1, okP x)
    (hE : ∀ (a : Int) (o : List PT), at_ ≤ a → a ≤ at_ + 10 → o.length ≤ 3 → (∀ x ∈ o, okP x) → Som (E (l, a, o)) Q) : Som (Fn.f132.l100010 k E (b, l, at_, o1)) Q := by
  unfold Fn.f132.l100010
  dsimp only
  refine Som.cond (fun h => ?_) (fun _ => hE at_ o1 (by omega) (by omega) hlen hok)
  have hp := hb h
  refine Som.bind (next_som k l at_ _ hl h0 (by omega) (by omega)) (fun a ha => ?_)
  have h2 := ha.2.2.2 (by omega)
  refine Som.pos h2.1 (Som.pos h2.2 ?_)
  have hlt : a.1.toNat < o1.length := by omega
  have hget : o1[a.1.toNat]? = some o1[a.1.toNat] := List.getElem?_eq_getElem hlt
  have hxok : okP o1[a.1.toNat] := hok _ (List.getElem_mem _)
  generalize hx : o1[a.1.toNat] = x at hget hxok
  clear hx
  rw [ha.1]
  simp only [hget, Option.bind_some, ↓reduceIte, List.getElem?_set_self, hlt, List.set_set]
  refine Som.bind (some_som k l _ _ hl (by omega) (by omega) (by simp) (by simp)) (fun y hy => ?_)
  rw [hy.1]
  refine Som.bind (pick_som k l _ _ hl (by omega) (by omega) (by simp) (by simp)) (fun c hc => ?_)
  rw [hc.1]
  refine Som.bind (pick_som k l _ _ hl (by omega) (by omega) (by simp) (by simp)) (fun d hd => ?_)
  rw [hd.1]
  refine Som.bind (pick_som k l _ _ hl (by omega) (by omega) (by simp) (by simp)) (fun e he => ?_)
  rw [he.1]
  have y3 := hy.2.2
  have c3 := hc.2.2
  have d3 := hd.2.2
  have e3 := he.2.2
  simp only [List.mem_cons, List.not_mem_nil, or_false] at y3 c3 d3 e3
  obtain ⟨x1, x2, x3, x4, x5⟩ := hxok
  have c4 : -1 ≤ c.1 ∧ c.1 ≤ 5 := by clear d3 e3; omega
  have d4 : 0 ≤ d.1 ∧ d.1 ≤ 101 := by clear c3 e3; omega
  have e4 : 42 ≤ e.1 ∧ e.1 ≤ 100 := by clear c3 d3; omega
  clear c3 d3 e3
  refine hE _ _ (by omega) (by omega) (by simp; omega) (fun z hz => ?_)
  rcases List.mem_or_eq_of_mem_set hz with hz | hz
  · exact hok z hz
  · subst hz
    refine ⟨?_, by dsimp only; omega, x3, by dsimp only; omega, by dsimp only; omega⟩
    dsimp only
    rcases y3 with h | h | h
    · rw [h]; exact x1
    · rw [h]; simp [nms]
    · rw [h]; simp [nms, tenor]
theorem parts_som (k : Nat) (hk : 10 ≤ k) (l : List Int) (at_ : Int) (hl : l.length ≤ 1125899906842624) (h0 : 0 ≤ at_) (h1 : at_ ≤ 800000) :
    Som (Fn.f132.F k (l, at_)) (fun r => r.2.1 = l ∧ at_ ≤ r.2.2 ∧ r.2.2 ≤ at_ + 30 ∧ r.1.length ≤ 3 ∧ ∀ x ∈ r.1, okP x) := by
  unfold Fn.f132.F
  dsimp only
  refine Som.bind (range_som k l at_ 0 3 hl h0 (by omega) (by omega) (by omega) (by omega) (by omega)) (fun a ha => ?_)
  have ha3 : 0 ≤ a.1 ∧ a.1 ≤ 3 := by omega
  refine Som.pos ha3.1 (Som.pos (by simp only [List.length_cons, List.length_nil]; omega) ?_)
  rw [ha.1]
  have e0 : Int.toNat (Option.getD (Option.none : Option Int) 0) = 0 := rfl
  rw [e0]
  have e1 : (((a.1.toNat - 0 : Nat)) : Int) = a.1 := by omega
  refine parts_loop k l hl _ _ _ (by omega) _ rfl _ k 0 a.2.2 [] rfl (by omega) (by omega) (by omega) rfl (fun x hx => by cases hx) (by omega) (by omega) (fun b o q1 q2 q3 q4 => ?_)
  dsimp only
  refine Som.cond (fun h => ?_) (fun h => ?_)
  · have h := of_decide_eq_true h
    refine Som.bind (flip_som k l b 12 hl (by omega) (by omega) (by omega)) (fun c hc => ?_)
    rw [hc.1]
    exact parts_odd k l hl _ _ _ o (by omega) (by omega) _ (fun _ => by omega) q3 q4 (fun a' o' w1 w2 w3 w4 => Som.one ⟨rfl, by show at_ ≤ a'; omega, by show a' ≤ at_ + 30; omega, w3, w4⟩)
  · exact parts_odd k l hl _ _ _ o (by omega) (by omega) _ (fun h => by cases h) q3 q4 (fun a' o' w1 w2 w3 w4 => Som.one ⟨rfl, by show at_ ≤ a'; omega, by show a' ≤ at_ + 30; omega, w3, w4⟩)
theorem key_both (k : Nat) (hk : 1000 = k) (x : ByteArray) (hx : x ∈ nms) : ∃ b, Fn.f89.F k x = some b ∧ Fn.f95.F k x = some b := by
  subst hk
  simp only [nms, List.mem_cons, List.not_mem_nil, or_false] at hx
  rcases hx with rfl | rfl | rfl | rfl
  · exact ⟨true, by kernel_rfl, by kernel_rfl⟩
  · exact ⟨true, by kernel_rfl, by kernel_rfl⟩
  · exact ⟨true, by kernel_rfl, by kernel_rfl⟩
  · exact ⟨false, by kernel_rfl, by kernel_rfl⟩
theorem in_eq (k : Nat) (x lo hi : Int) : Fn.f90.F k (x, lo, hi) = some (decide (lo ≤ x ∧ x ≤ hi)) := by
  unfold Fn.f90.F
  dsimp only
  by_cases h1 : lo ≤ x <;> by_cases h2 : x ≤ hi <;> simp [h1, h2]
theorem out_eq (k : Nat) (x lo hi : Int) : Fn.f74.F k (x, lo, hi) = some (!decide (lo ≤ x ∧ x ≤ hi)) := by
  unfold Fn.f74.F
  dsimp only
  by_cases h1 : lo ≤ x
  · rw [decide_eq_false (show ¬ x < lo by omega)]
    by_cases h2 : x ≤ hi
    · (simp [h1, h2]; try omega)
    · (simp [h1, h2]; try omega)
  · rw [decide_eq_true (show x < lo by omega)]
    simp [h1]
theorem rr_eq (k : Nat) (a b : Int) : Fn.f168.F k (a, b) = some (decide (0 ≤ a ∧ a ≤ b ∧ b ≤ 127)) := by
  unfold Fn.f168.F
  dsimp only
  rw [in_eq]
  by_cases h1 : 0 ≤ a ∧ a ≤ b
  · by_cases h2 : b ≤ 127 <;> simp [h1, h2]
  · rw [Option.bind_some, decide_eq_false h1, decide_eq_false (show ¬ (0 ≤ a ∧ a ≤ b ∧ b ≤ 127) from fun h => h1 ⟨h.1, h.2.1⟩)]
    rfl
theorem ir_eq (k : Nat) (a b : Int) : Fn.f136.F k (a, b) = some (decide (0 ≤ a ∧ a ≤ b ∧ b ≤ 127)) := by
  unfold Fn.f136.F
  dsimp only
  rw [out_eq]
  by_cases h1 : 0 ≤ a ∧ a ≤ b
  · by_cases h2 : b ≤ 127 <;> simp [h1, h2]
  · rw [Option.bind_some, decide_eq_false h1, decide_eq_false (show ¬ (0 ≤ a ∧ a ≤ b ∧ b ≤ 127) from fun h => h1 ⟨h.1, h.2.1⟩)]
    rfl
theorem idx_loop (k : Nat) (p : List PT) (nm : ByteArray) (a b c d : Int) (E0 : Int × ByteArray × Int × Int × Int × Int → Option (Int × ByteArray × Int × Int × Int × Int)) (E1 : ByteArray × Int × Int × Int × Int → Option (Int × ByteArray × Int × Int × Int × Int)) (Q : Int × ByteArray × Int × Int × Int × Int → Prop)
    (h0 : ∀ t, Som (E0 (t, nm, a, b, c, d)) Q) (h1 : Som (E1 (nm, a, b, c, d)) Q) (hp : p.length ≤ 1000) : ∀ (dd n : Nat) (i : Int), dd = ((p.length : Int) - i).toNat → 0 ≤ i → i ≤ (p.length : Int) → dd < n → Som (Fn.f204_167.l0 k E0 E1 n (p, (p.length : Int), i, nm, a, b, c, d)) Q := by
  intro dd
  induction dd with
  | zero =>
    intro n i hd hi0 hi1 hn
    obtain ⟨m, rfl⟩ : ∃ q, n = q + 1 := ⟨n - 1, by omega⟩
    show Som (Fn.f204_167.l0T k E0 E1 (Fn.f204_167.l0 k E0 E1 m) _) Q
    unfold Fn.f204_167.l0T
    dsimp only
    exact Som.cf (decide_eq_false (by omega)) h1
  | succ dd ih =>
    intro n i hd hi0 hi1 hn
    obtain ⟨m, rfl⟩ : ∃ q, n = q + 1 := ⟨n - 1, by omega⟩
    show Som (Fn.f204_167.l0T k E0 E1 (Fn.f204_167.l0 k E0 E1 m) _) Q
    unfold Fn.f204_167.l0T
    dsimp only
    refine Som.ct (decide_eq_true (by omega)) (Som.pos hi0 (Som.pos (by omega) (Som.bind (rd_som p i hi0 (by omega)) (fun y _ => ?_))))
    refine Som.cond (fun _ => h0 i) (fun _ => ?_)
    rw [wr (x := i + 1) (by omega) (by omega)]
    exact ih m (i + 1) (by omega) (by omega) (by omega) (by omega)
theorem cont_eq : Fn.f166_169.F = Fn.f166_167.F := by kernel_rfl
theorem cont_som (k : Nat) (hk : 1000 = k) (p : List PT) (hp : p.length ≤ 900) (nm : ByteArray) (a b c d : Int) : ∃ q, Fn.f166_167.F k (p, nm, a, b, c, d) = some (q, nm, a, b, c, d) := by
  have h : Som (Fn.f166_167.F k (p, nm, a, b, c, d)) (fun r => r.2 = (nm, a, b, c, d)) := by
    unfold Fn.f166_167.F Fn.f204_167.F
    dsimp only
    refine Som.bind (idx_loop k p nm a b c d _ _ (fun r => r.2 = (nm, a, b, c, d)) (fun t => ⟨_, rfl, rfl⟩) ⟨_, rfl, rfl⟩ (by omega) _ k 0 rfl (by omega) (by omega) (by omega)) (fun r hr => Som.one ?_)
    show (r.2.1, r.2.2.1, r.2.2.2.1, r.2.2.2.2.1, r.2.2.2.2.2) = _
    rw [hr]
  obtain ⟨r, h1, h2⟩ := h
  exact ⟨r.1, by rw [h1, ← h2]⟩
theorem msub_len {α : Type} (p : List α) (i : Int) (h0 : 0 ≤ i) (h1 : i ≤ (p.length : Int)) : (Go.M.msub p none (some i)).length ≤ p.length := by
  simp [Go.M.msub]
  try omega
theorem check_both (k : Nat) (hk : 1000 = k) (p : List PT) (hp : p.length ≤ 3) (hok : ∀ x ∈ p, okP x) : ∀ (dd n : Nat) (i : Int), dd = ((p.length : Int) - i).toNat → 0 ≤ i → i ≤ (p.length : Int) → dd < n →
    ∃ v : Int, Fn.f133.l0 k (fun t2 => some t2) (fun () => some 0) n (p, p, (p.length : Int), i) = some v ∧ Fn.f134.l0 k (fun t2 => some t2) (fun () => some 0) n (p, p, (p.length : Int), i) = some v ∧
      (v = 0 → ∀ (j : Nat) x, i ≤ (j : Int) → p[j]? = some x → 0 ≤ x.f1 ∧ x.f1 ≤ x.f2) := by
  intro dd
  induction dd with
  | zero =>
    intro n i hd hi0 hi1 hn
    obtain ⟨m, rfl⟩ : ∃ q, n = q + 1 := ⟨n - 1, by omega⟩
    have e : decide (i < (p.length : Int)) = false := decide_eq_false (by omega)
    refine ⟨0, ?_, ?_, fun _ j x hj hx => ?_⟩
    · show Fn.f133.l0T k (fun t2 => some t2) (fun () => some 0) (Fn.f133.l0 k (fun t2 => some t2) (fun () => some 0) m) _ = _
      unfold Fn.f133.l0T
      dsimp only
      rw [e]
      rfl
    · show Fn.f134.l0T k (fun t2 => some t2) (fun () => some 0) (Fn.f134.l0 k (fun t2 => some t2) (fun () => some 0) m) _ = _
      unfold Fn.f134.l0T
      dsimp only
      rw [e]
      rfl
    · have := (List.getElem?_eq_some_iff.1 hx).1
      omega
  | succ dd ih =>
    intro n i hd hi0 hi1 hn
    obtain ⟨m, rfl⟩ : ∃ q, n = q + 1 := ⟨n - 1, by omega⟩
    have hlt : i < (p.length : Int) := by omega
    have e : decide (i < (p.length : Int)) = true := decide_eq_true hlt
    have hln : i.toNat < p.length := by omega
    have hget : p[i.toNat]? = some p[i.toNat] := List.getElem?_eq_getElem hln
    have hx := hok _ (List.getElem_mem hln)
    generalize hxe : p[i.toNat] = x at hget hx
    obtain ⟨b, kb1, kb2⟩ := key_both k hk x.f0 hx.1
    obtain ⟨c, hc⟩ := cont_som k hk (Go.M.msub p none (some i)) (by have := msub_len p i hi0 hi1; omega) x.f0 x.f1 x.f2 x.f3 x.f4
    have hc2 := hc
    rw [← cont_eq] at hc2
    obtain ⟨v, v1, v2, v3⟩ := ih m (i + 1) (by omega) (by omega) (by omega) (by omega)
    show ∃ v : Int, Fn.f133.l0T k (fun t2 => some t2) (fun () => some 0) (Fn.f133.l0 k (fun t2 => some t2) (fun () => some 0) m) (p, p, (p.length : Int), i) = some v ∧ Fn.f134.l0T k (fun t2 => some t2) (fun () => some 0) (Fn.f134.l0 k (fun t2 => some t2) (fun () => some 0) m) (p, p, (p.length : Int), i) = some v ∧ _
    unfold Fn.f133.l0T Fn.f134.l0T Fn.f133.l100011 Fn.f134.l100011
    simp only [e, cond_true, if_pos hi0, if_pos hlt, if_pos hi1, hget, Option.bind_some, kb1, kb2, hc, hc2, rr_eq, ir_eq, in_eq, out_eq, wr (x := i + 1) (by omega) (by omega), v1, v2, Bool.not_not]
    cases b with
    | false => exact ⟨5, rfl, rfl, fun h => by omega⟩
    | true =>
      cases c with
      | true => exact ⟨6, rfl, rfl, fun h => by omega⟩
      | false =>
        by_cases h1 : 0 ≤ x.f1 ∧ x.f1 ≤ x.f2 ∧ x.f2 ≤ 127
        · by_cases h2 : 0 ≤ x.f3 ∧ x.f3 ≤ x.f4
          · by_cases h3 : x.f4 > 100
            · refine ⟨1, ?_, ?_, fun h => by omega⟩ <;> simp [h1, h2, h3]
            · refine ⟨v, ?_, ?_, fun h j y hj hy => ?_⟩
              · simp [h1, h2, h3]
              · simp [h1, h2, h3]
              · by_cases hji : (j : Int) = i
                · have : j = i.toNat := by omega
                  subst this
                  rw [hget] at hy
                  cases hy
                  exact ⟨h1.1, h1.2.1⟩
                · exact v3 h j y (by omega) hy
          · refine ⟨1, ?_, ?_, fun h => by omega⟩ <;> simp [h1, h2]
        · refine ⟨1, ?_, ?_, fun h => by omega⟩ <;> simp [h1]
theorem faults (k : Nat) (hk : 1000 = k) (p : List PT) (hp : p.length ≤ 3) (hok : ∀ x ∈ p, okP x) : ∃ v : Int, Fn.f133.F k p = some v ∧ Fn.f134.F k p = some v ∧ (v = 0 → ∀ x ∈ p, 0 ≤ x.f1 ∧ x.f1 ≤ x.f2) := by
  obtain ⟨v, v1, v2, v3⟩ := check_both k hk p hp hok _ k 0 rfl (by omega) (by omega) (by omega)
  have e : decide ((p.length : Int) > 12) = false := decide_eq_false (by omega)
  refine ⟨v, ?_, ?_, fun h x hx => ?_⟩
  · unfold Fn.f133.F
    try dsimp only
    rw [e]
    exact v1
  · unfold Fn.f134.F
    try dsimp only
    rw [e]
    exact v2
  · obtain ⟨j, hj⟩ := List.mem_iff_getElem?.1 hx
    exact v3 h j x (by omega) hj
theorem nil_ok (k : Nat) (hk : 1000 = k) : Fn.f134.F k [] = some 0 := by
  subst hk
  kernel_rfl
structure RightP (k : Nat) (p : List PT) : Prop where
  len : p.length ≤ 3
  ok : ∀ x ∈ p, okP x
  chk : Fn.f134.F k p = some 0
  rng : ∀ x ∈ p, 0 ≤ x.f1 ∧ x.f1 ≤ x.f2
theorem right_som (k : Nat) (hk : 1000 = k) (l : List Int) (at_ : Int) (hl : l.length ≤ 1125899906842624) (h0 : 0 ≤ at_) (h1 : at_ ≤ 700000) :
    Som (Fn.f70.F k (l, at_)) (fun r => r.2.1 = l ∧ at_ ≤ r.2.2 ∧ r.2.2 ≤ at_ + 200 ∧ RightP k r.1) := by
  have loop : ∀ (d n : Nat) (t4 a : Int), d = (6 - t4).toNat → 0 ≤ t4 → t4 ≤ 6 → d < n → at_ ≤ a → a + 30 * (d : Int) ≤ at_ + 180 → Som (Fn.f70.l0 k (fun (t2, b0_0, b0_1) => some (t2, b0_0, b0_1)) (fun (b0_0, b0_1) => some ([], b0_0, b0_1)) n (t4, l, a)) (fun r => r.2.1 = l ∧ at_ ≤ r.2.2 ∧ r.2.2 ≤ at_ + 200 ∧ RightP k r.1) := by
    intro d
    induction d with
    | zero =>
      intro n t4 a hd q0 q1 hn ha hb
      obtain ⟨m, rfl⟩ : ∃ q, n = q + 1 := ⟨n - 1, by omega⟩
      show Som (Fn.f70.l0T k _ _ (Fn.f70.l0 k _ _ m) _) _
      unfold Fn.f70.l0T
      dsimp only
      refine Som.cf (decide_eq_false (by omega)) (Som.one ⟨rfl, ha, by show a ≤ at_ + 200; omega, show RightP k [] from ⟨by simp, fun x hx => by (cases hx), nil_ok k hk, fun x hx => by (cases hx)⟩⟩)
    | succ d ih =>
      intro n t4 a hd q0 q1 hn ha hb
      obtain ⟨m, rfl⟩ : ∃ q, n = q + 1 := ⟨n - 1, by omega⟩
      show Som (Fn.f70.l0T k _ _ (Fn.f70.l0 k _ _ m) _) _
      unfold Fn.f70.l0T
      dsimp only
      refine Som.ct (decide_eq_true (by omega)) (Som.bind (parts_som k (by omega) l a hl (by omega) (by omega)) (fun r hr => ?_))
      obtain ⟨r1, r2, r3, r4, r5⟩ := hr
      obtain ⟨v, v1, v2, v3⟩ := faults k hk r.1 r4 r5
      rw [v1, Option.bind_some, r1]
      refine Som.cond (fun h => ?_) (fun h => ?_)
      · have hv : v = 0 := by simpa using h
        exact Som.one ⟨rfl, by show at_ ≤ r.2.2; omega, by show r.2.2 ≤ at_ + 200; omega, r4, r5, by rw [v2, hv], v3 hv⟩
      · rw [wr (x := t4 + 1) (by omega) (by omega)]
        exact ih m (t4 + 1) r.2.2 (by omega) (by omega) (by omega) (by omega) (by omega) (by omega)
  unfold Fn.f70.F
  dsimp only
  exact loop 6 k 0 at_ (by omega) (by omega) (by omega) (by omega) (by omega) (by omega)
def sh (x : PT) : PT := ⟨x.f0, x.f1 + 12, x.f2 + 12, x.f3, x.f4⟩
theorem clone_eq (k : Nat) (p : List PT) (hp : p.length ≤ 1000) : Fn.f170.F k p = some p := by
  unfold Fn.f170.F
  try dsimp only
  rw [if_pos (by omega)]
  cases p with
  | nil => exact both_self _
  | cons x p => rfl
theorem shift_loop (k : Nat) (p : List PT) (hp : RightP k p) (E0 : Bool → Option (List PT × Bool)) (Q : List PT × Bool → Prop) (hQ : Q (p.map sh, true)) : ∀ (d n : Nat) (i : Int) (o : List PT), d = ((p.length : Int) - i).toNat → 0 ≤ i → i ≤ (p.length : Int) → d < n → o.length = p.length → (∀ j : Nat, o[j]? = if (j : Int) < i then (p[j]?).map sh else p[j]?) →
    Som (Fn.f135.l0 k E0 (fun o0 => some (o0, Bool.true)) n (12, (p.length : Int), i, o)) Q := by
  intro d
  induction d with
  | zero =>
    intro n i o hd h0 h1 hn hl ho
    obtain ⟨m, rfl⟩ : ∃ q, n = q + 1 := ⟨n - 1, by omega⟩
    show Som (Fn.f135.l0T k E0 (fun o0 => some (o0, Bool.true)) (Fn.f135.l0 k E0 (fun o0 => some (o0, Bool.true)) m) _) Q
    unfold Fn.f135.l0T
    dsimp only
    refine Som.cf (decide_eq_false (by omega)) (Som.one ?_)
    have : o = p.map sh := by
      apply List.ext_getElem?
      intro j
      rw [ho j, List.getElem?_map]
      by_cases hj : (j : Int) < i
      · rw [if_pos hj]
      · rw [if_neg hj, List.getElem?_eq_none (by omega)]
        rfl
    rw [this]
    exact hQ
  | succ d ih =>
    intro n i o hd h0 h1 hn hl ho
    obtain ⟨m, rfl⟩ : ∃ q, n = q + 1 := ⟨n - 1, by omega⟩
    have hlt : i < (p.length : Int) := by omega
    have hln : i.toNat < p.length := by omega
    have hlo : i.toNat < o.length := by omega
    have hget : o[i.toNat]? = some p[i.toNat] := by
      rw [ho, if_neg (by omega), List.getElem?_eq_getElem hln]
    have hx := hp.ok _ (List.getElem_mem hln)
    have hx2 := hp.rng _ (List.getElem_mem hln)
    have hpg : p[i.toNat]? = some p[i.toNat] := List.getElem?_eq_getElem hln
    generalize hxe : p[i.toNat] = x at hget hx hx2 hpg
    obtain ⟨x1, x2, x3, x4, x5⟩ := hx
    have hlt2 : i < (o.length : Int) := by omega
    have hl3 := hp.len
    show Som (Fn.f135.l0T k E0 (fun o0 => some (o0, Bool.true)) (Fn.f135.l0 k E0 (fun o0 => some (o0, Bool.true)) m) _) Q
    unfold Fn.f135.l0T
    dsimp only
    refine Som.ct (decide_eq_true hlt) (Som.pos h0 (Som.pos hlt2 ?_))
    simp only [hget, Option.bind_some, List.getElem?_set_self, hlo, List.set_set, List.length_set, ir_eq, wr (x := x.f1 + 12) (by omega) (by omega), wr (x := x.f2 + 12) (by omega) (by omega), wr (x := i + 1) (by omega) (by omega)]
    refine Som.cf (by rw [decide_eq_true (by omega)]; rfl) ?_
    refine ih m (i + 1) _ (by omega) (by omega) (by omega) (by omega) (by rw [List.length_set]; exact hl) (fun j => ?_)
    by_cases hji : j = i.toNat
    · subst hji
      rw [List.getElem?_set_self hlo, if_pos (by omega), hpg]
      rfl
    · rw [List.getElem?_set_ne (Ne.symm hji), ho]
      by_cases hj : (j : Int) < i
      · rw [if_pos hj, if_pos (by omega)]
      · rw [if_neg hj, if_neg (by omega)]
theorem shifted_eq (k : Nat) (hk : 1000 = k) (p : List PT) (hp : RightP k p) : Fn.f71.F k (p, 12) = some (p.map sh, 0) := by
  unfold Fn.f71.F
  dsimp only
  rw [hp.chk, Option.bind_some, out_eq, Option.bind_some]
  have h : Som (Fn.f135.F k (p, 12)) (fun r => r = (p.map sh, true)) := by
    unfold Fn.f135.F
    dsimp only
    rw [clone_eq k p (by have := hp.len; omega), Option.bind_some]
    exact shift_loop k p hp _ (fun r => r = (p.map sh, true)) rfl _ k 0 p rfl (by omega) (by omega) (by have := hp.len; omega) rfl (fun j => by rw [if_neg (by omega)])
  obtain ⟨r, h1, rfl⟩ := h
  rw [h1]
  rfl
def cf (u v : Int) : Int × Bool × Int := ((if 0 > if u < v then u else v then 0 else if u < v then u else v), decide ((if u < v then u else v) ≥ 0), 0)
theorem comf_eq (k : Nat) (a b c d : Int) (h1 : 0 ≤ a ∧ a ≤ b ∧ b ≤ 127) (h2 : 0 ≤ c ∧ c ≤ d ∧ d ≤ 127) : Fn.f72.F k (a, b, c, d) = some (cf (b - d) (c - a)) := by
  unfold Fn.f72.F Fn.f72.l100002 Fn.f72.l100003
  dsimp only
  rw [ir_eq, decide_eq_true h1, Option.bind_some, ir_eq, decide_eq_true h2, wr (x := b - d) (by omega) (by omega), wr (x := c - a) (by omega) (by omega)]
  rfl
theorem main_loop (k : Nat) (p : List PT) (hp : RightP k p) (E0 : Bool → Option Bool) (lo : Int) (hlo : 30 ≤ lo ∧ lo ≤ 60) : ∀ (d n : Nat) (i : Int), d = ((p.length : Int) - i).toNat → 0 ≤ i → i ≤ (p.length : Int) → d < n →
    Som (Fn.f11.l0 k E0 (fun () => some true) n (p, p.map sh, (p.length : Int), i, lo, lo + 20, lo + 12, lo + 32)) (fun r => r = true) := by
  intro d
  induction d with
  | zero =>
    intro n i hd h0 h1 hn
    obtain ⟨m, rfl⟩ : ∃ q, n = q + 1 := ⟨n - 1, by omega⟩
    show Som (Fn.f11.l0T k E0 (fun () => some true) (Fn.f11.l0 k E0 (fun () => some true) m) _) _
    unfold Fn.f11.l0T
    dsimp only
    exact Som.cf (decide_eq_false (by omega)) (Som.one rfl)
  | succ d ih =>
    intro n i hd h0 h1 hn
    obtain ⟨m, rfl⟩ : ∃ q, n = q + 1 := ⟨n - 1, by omega⟩
    have hlt : i < (p.length : Int) := by omega
    have hln : i.toNat < p.length := by omega
    have hx := hp.ok _ (List.getElem_mem hln)
    have hx2 := hp.rng _ (List.getElem_mem hln)
    have hpg : p[i.toNat]? = some p[i.toNat] := List.getElem?_eq_getElem hln
    generalize hxe : p[i.toNat] = x at hx hx2 hpg
    obtain ⟨x1, x2, x3, x4, x5⟩ := hx
    have hqg : (p.map sh)[i.toNat]? = some (sh x) := by rw [List.getElem?_map, hpg]; rfl
    show Som (Fn.f11.l0T k E0 (fun () => some true) (Fn.f11.l0 k E0 (fun () => some true) m) _) _
    unfold Fn.f11.l0T Fn.f11.l100018
    dsimp only
    refine Som.ct (decide_eq_true hlt) (Som.pos h0 (Som.pos hlt ?_))
    rw [hpg, Option.bind_some, comf_eq k _ _ _ _ (by omega) (by omega), Option.bind_some]
    refine Som.pos h0 (Som.pos (by simpa using hlt) ?_)
    rw [hqg, Option.bind_some, comf_eq k _ _ (sh x).f1 (sh x).f2 (by omega) (by show 0 ≤ x.f1 + 12 ∧ x.f1 + 12 ≤ x.f2 + 12 ∧ x.f2 + 12 ≤ 127; omega), Option.bind_some]
    have e1 : lo + 32 - (sh x).f2 = lo + 20 - x.f2 := by show lo + 32 - (x.f2 + 12) = _; omega
    have e2 : (sh x).f1 - (lo + 12) = x.f1 - lo := by show x.f1 + 12 - (lo + 12) = _; omega
    rw [e1, e2]
    have e3 : (cf (lo + 20 - x.f2) (x.f1 - lo)).2.2 = 0 := rfl
    generalize cf (lo + 20 - x.f2) (x.f1 - lo) = z at e3 ⊢
    rw [e3]
    have f1 : ((0 : Int) != 0) = false := rfl
    have f2 : (z.1 != z.1) = false := by simp
    have f3 : (!(z.2.1 == z.2.1)) = false := by simp
    rw [f1, f2, f3]
    have hl3 := hp.len
    simp only [cond_false]
    rw [wr (x := i + 1) (by omega) (by omega)]
    exact ih m (i + 1) (by omega) (by omega) (by omega) (by omega)
noncomputable def chkN (n : Nat) : Bool :=
  match Fn.f66.F 1000 (n : Int) with
  | some y => match Fn.f66.F 1000 (Go.IntKind.wrap Go.IntKind.i64 ((n : Int) + 12)) with
    | some z => !(y.2 != 0) && (!(z.2 != 0) && (!(decide ((y.1.size : Int) < 2)) && (!(decide ((z.1.size : Int) < 2)) && (decide (0 ≤ Go.IntKind.wrap Go.IntKind.i64 ((y.1.size : Int) - 1)) && (decide (Go.IntKind.wrap Go.IntKind.i64 ((y.1.size : Int) - 1) < (y.1.size : Int)) && (decide (0 ≤ Go.IntKind.wrap Go.IntKind.i64 ((z.1.size : Int) - 1)) && (decide (Go.IntKind.wrap Go.IntKind.i64 ((z.1.size : Int) - 1) < (z.1.size : Int)) &&
        (!(!(ByteArray.toList (ByteArray.extract y.1 (Int.toNat (Option.getD Option.none 0)) (Int.toNat (Go.IntKind.wrap Go.IntKind.i64 ((y.1.size : Int) - 1)))) == ByteArray.toList (ByteArray.extract z.1 (Int.toNat (Option.getD Option.none 0)) (Int.toNat (Go.IntKind.wrap Go.IntKind.i64 ((z.1.size : Int) - 1)))))) &&
          !(Go.IntKind.wrap Go.IntKind.u8 (Go.M.bt y.1 (Go.IntKind.wrap Go.IntKind.i64 ((y.1.size : Int) - 1)) + 1) != Go.M.bt z.1 (Go.IntKind.wrap Go.IntKind.i64 ((z.1.size : Int) - 1)))))))))))
    | none => false
  | none => false
def allN (p : Nat → Bool) : Nat → Bool
  | 0 => true
  | n + 1 => cond (p n) (allN p n) false
theorem allN_spec {p : Nat → Bool} : ∀ {n : Nat}, allN p n = true → ∀ i, i < n → p i = true
  | 0, _, i, h => by omega
  | n + 1, h, i, hi => by
    unfold allN at h
    cases hp : p n with
    | false => rw [hp] at h; cases h
    | true =>
      rw [hp] at h
      by_cases he : i = n
      · subst he; exact hp
      · exact allN_spec h i (by omega)
theorem names_ok : allN (fun i => chkN (i + 12)) 89 = true := by kernel_rfl
theorem name_up (k : Nat) (hk : 1000 = k) (n : Int) (h0 : 12 ≤ n) (h1 : n ≤ 100) : ∃ y z, Fn.f66.F k n = some y ∧ Fn.f66.F k (Go.IntKind.wrap Go.IntKind.i64 (n + 12)) = some z ∧ (y.2 != 0) = false ∧ (z.2 != 0) = false ∧ decide ((y.1.size : Int) < 2) = false ∧ decide ((z.1.size : Int) < 2) = false ∧
    0 ≤ Go.IntKind.wrap Go.IntKind.i64 ((y.1.size : Int) - 1) ∧ Go.IntKind.wrap Go.IntKind.i64 ((y.1.size : Int) - 1) < (y.1.size : Int) ∧ 0 ≤ Go.IntKind.wrap Go.IntKind.i64 ((z.1.size : Int) - 1) ∧ Go.IntKind.wrap Go.IntKind.i64 ((z.1.size : Int) - 1) < (z.1.size : Int) ∧
    (!(ByteArray.toList (ByteArray.extract y.1 (Int.toNat (Option.getD Option.none 0)) (Int.toNat (Go.IntKind.wrap Go.IntKind.i64 ((y.1.size : Int) - 1)))) == ByteArray.toList (ByteArray.extract z.1 (Int.toNat (Option.getD Option.none 0)) (Int.toNat (Go.IntKind.wrap Go.IntKind.i64 ((z.1.size : Int) - 1)))))) = false ∧
    (Go.IntKind.wrap Go.IntKind.u8 (Go.M.bt y.1 (Go.IntKind.wrap Go.IntKind.i64 ((y.1.size : Int) - 1)) + 1) != Go.M.bt z.1 (Go.IntKind.wrap Go.IntKind.i64 ((z.1.size : Int) - 1))) = false := by
  subst hk
  have h := allN_spec names_ok (n.toNat - 12) (by omega)
  have h : chkN (n.toNat - 12 + 12) = true := h
  unfold chkN at h
  have e : (((n.toNat - 12 + 12 : Nat)) : Int) = n := by omega
  rw [e] at h
  split at h
  · rename_i y hy
    split at h
    · rename_i z hz
      simp only [Bool.and_eq_true, Bool.not_eq_true', decide_eq_true_eq] at h
      obtain ⟨k1, k2, k3, k4, k5, k6, k7, k8, k9, k10⟩ := h
      exact ⟨y, z, hy, hz, k1, k2, k3, k4, k5, k6, k7, k8, k9, k10⟩
    · cases h
  · cases h
theorem law_k (k : Nat) (hk : 1000 = k) (l : List Int) (hl : l.length ≤ 1125899906842624) : Som (Fn.f11.F k l) (fun r => r = true) := by
  unfold Fn.f11.F
  dsimp only
  refine Som.bind (range_som k l 0 12 100 hl (by omega) (by omega) (by omega) (by omega) (by omega) (by omega)) (fun a ha => ?_)
  rw [ha.1]
  refine Som.bind (right_som k hk l _ hl (by omega) (by omega)) (fun p hp => ?_)
  obtain ⟨p1, p2, p3, p4⟩ := hp
  rw [p1]
  refine Som.bind (range_som k l _ 30 60 hl (by omega) (by omega) (by omega) (by omega) (by omega) (by omega)) (fun lo hlo => ?_)
  have hn : 12 ≤ a.1 ∧ a.1 ≤ 100 := by omega
  have hlo2 : 30 ≤ lo.1 ∧ lo.1 ≤ 60 := by omega
  obtain ⟨y, z, k1, k2, k3, k4, k5, k6, k7, k8, k9, k10, k11, k12⟩ := name_up k hk a.1 hn.1 hn.2
  rw [k1, Option.bind_some, k2, Option.bind_some, k3, k4, k5, k6]
  simp only [cond_false]
  rw [if_pos k7, if_pos (Int.le_of_lt k8), if_pos k9, if_pos (Int.le_of_lt k10), k11]
  simp only [cond_false]
  rw [if_pos k7, if_pos k8, if_pos k9, if_pos k10, k12]
  unfold Fn.f11.l100006 Fn.f11.l100007
  dsimp only
  simp only [cond_false]
  rw [shifted_eq k hk p.1 p4, Option.bind_some]
  unfold Fn.f11.l100009 Fn.f11.l100010
  dsimp only
  have f1 : ((0 : Int) != 0) = false := rfl
  have f2 : (((p.1.map sh).length : Int) != (p.1.length : Int)) = false := by simp
  rw [f1, f2]
  simp only [cond_false]
  rw [wr (x := lo.1 + 20) (by omega) (by omega), wr (x := lo.1 + 12) (by omega) (by omega), wr (x := lo.1 + 32) (by omega) (by omega)]
  have := p4.len
  exact main_loop k p.1 p4 _ lo.1 hlo2 _ k 0 rfl (by omega) (by omega) (by omega)
theorem law_pure (l : List Int) (hl : l.length ≤ 1125899906842624) : ∃ k, Fn.f11.F k l = some true := by
  obtain ⟨r, h, rfl⟩ := law_k 1000 rfl l hl
  exact ⟨1000, h⟩

end Pure
