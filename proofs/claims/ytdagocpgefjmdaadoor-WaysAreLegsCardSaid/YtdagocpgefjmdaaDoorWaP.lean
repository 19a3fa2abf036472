/-
  The plain law: what the function computes is true. No program in sight. Condition: the row is no longer than memory.
-/
import Derived.Test.YtdagocpgefjmdaaDoorWaF40
import Derived.KernelRfl
set_option linter.unusedVariables false
set_option linter.unusedSectionVars false
set_option linter.unusedSimpArgs false
open Go Go.M Go.Proofs T
set_option linter.unusedVariables false
set_option maxRecDepth 100000
namespace Pure
def Som {α : Type} (o : Option α) (P : α → Prop) : Prop := ∃ r, o = some r ∧ P r
def Tot {α : Type} (g : Nat → Option α) (P : α → Prop) : Prop := ∃ r, P r ∧ ∃ K, ∀ k, K ≤ k → g k = some r
theorem Som.tot {α : Type} {o : Option α} {P : α → Prop} (h : Som o P) : Tot (fun _ => o) P := by
  obtain ⟨r, h, hp⟩ := h
  exact ⟨r, hp, 0, fun _ _ => h⟩
theorem Som.mono {α : Type} {o : Option α} {P Q : α → Prop} (h : Som o P) (i : ∀ r, P r → Q r) : Som o Q := by
  obtain ⟨r, h, hp⟩ := h
  exact ⟨r, h, i r hp⟩
theorem Tot.mono {α : Type} {g : Nat → Option α} {P Q : α → Prop} (h : Tot g P) (i : ∀ r, P r → Q r) : Tot g Q := by
  obtain ⟨r, hp, h⟩ := h
  exact ⟨r, i r hp, h⟩
theorem Som.one {α : Type} {r : α} {P : α → Prop} (h : P r) : Som (some r) P := ⟨r, rfl, h⟩
theorem Tot.one {α : Type} {r : α} {P : α → Prop} (h : P r) : Tot (fun _ => some r) P := ⟨r, h, 0, fun _ _ => rfl⟩
theorem Som.bind {α β : Type} {o : Option α} {f : α → Option β} {P : α → Prop} {Q : β → Prop} (h : Som o P) (i : ∀ a, P a → Som (f a) Q) : Som (o.bind f) Q := by
  obtain ⟨r, rfl, hp⟩ := h
  exact i r hp
theorem Tot.bind {α β : Type} {g : Nat → Option α} {f : Nat → α → Option β} {P : α → Prop} {Q : β → Prop} (h : Tot g P) (i : ∀ a, P a → Tot (fun k => f k a) Q) : Tot (fun k => (g k).bind (f k)) Q := by
  obtain ⟨r, hp, K, hK⟩ := h
  obtain ⟨s, hq, L, hL⟩ := i r hp
  refine ⟨s, hq, max K L, fun k hk => ?_⟩
  show (g k).bind (f k) = some s
  rw [hK k (by omega)]
  exact hL k (by omega)
theorem Tot.bind0 {α β : Type} {o : Option α} {f : Nat → α → Option β} {P : α → Prop} {Q : β → Prop} (h : Som o P) (i : ∀ a, P a → Tot (fun k => f k a) Q) : Tot (fun k => o.bind (f k)) Q := Tot.bind h.tot i
theorem Tot.succ {α : Type} {g : Nat → Option α} {P : α → Prop} (h : Tot (fun k => g (k + 1)) P) : Tot g P := by
  obtain ⟨r, hp, K, hK⟩ := h
  refine ⟨r, hp, K + 1, fun k hk => ?_⟩
  obtain ⟨m, rfl⟩ : ∃ m, k = m + 1 := ⟨k - 1, by omega⟩
  exact hK m (by omega)
theorem Tot.pos {α : Type} {c : Prop} [Decidable c] {g f : Nat → Option α} {P : α → Prop} (hc : c) (h : Tot g P) : Tot (fun k => if c then g k else f k) P := by simpa only [if_pos hc] using h
theorem Tot.neg {α : Type} {c : Prop} [Decidable c] {g f : Nat → Option α} {P : α → Prop} (hc : ¬ c) (h : Tot f P) : Tot (fun k => if c then g k else f k) P := by simpa only [if_neg hc] using h
theorem Tot.ite {α : Type} {c : Prop} [Decidable c] {g f : Nat → Option α} {P : α → Prop} (h : c → Tot g P) (i : ¬ c → Tot f P) : Tot (fun k => if c then g k else f k) P := by
  by_cases hc : c
  · exact Tot.pos hc (h hc)
  · exact Tot.neg hc (i hc)
theorem Som.pos {α : Type} {c : Prop} [Decidable c] {o p : Option α} {P : α → Prop} (hc : c) (h : Som o P) : Som (if c then o else p) P := by rwa [if_pos hc]
theorem Som.neg {α : Type} {c : Prop} [Decidable c] {o p : Option α} {P : α → Prop} (hc : ¬ c) (h : Som p P) : Som (if c then o else p) P := by rwa [if_neg hc]
theorem Som.ite {α : Type} {c : Prop} [Decidable c] {o p : Option α} {P : α → Prop} (h : c → Som o P) (i : ¬ c → Som p P) : Som (if c then o else p) P := by
  by_cases hc : c
  · exact Som.pos hc (h hc)
  · exact Som.neg hc (i hc)
theorem Tot.ex {g : Nat → Option Bool} (h : Tot g (fun r => r = true)) : ∃ k, g k = some true := by
  obtain ⟨r, rfl, K, hK⟩ := h
  exact ⟨K, hK K (Nat.le_refl _)⟩
theorem Som.cond {α : Type} {c : Bool} {o p : Option α} {P : α → Prop} (h : c = true → Som o P) (i : c = false → Som p P) : Som (_root_.cond c o p) P := by
  cases c
  · exact i rfl
  · exact h rfl
theorem Tot.cond {α : Type} {c : Bool} {g f : Nat → Option α} {P : α → Prop} (h : c = true → Tot g P) (i : c = false → Tot f P) : Tot (fun k => _root_.cond c (g k) (f k)) P := by
  cases c
  · exact i rfl
  · exact h rfl
theorem wr {x : Int} (h0 : -9223372036854775808 ≤ x) (h1 : x ≤ 9223372036854775807) : IntKind.wrap .i64 x = x := by
  have e : IntKind.wrap .i64 x = if x % 18446744073709551616 ≥ 9223372036854775808 then x % 18446744073709551616 - 18446744073709551616 else x % 18446744073709551616 := by
    simp [IntKind.wrap, IntKind.bits, IntKind.signed]
  rw [e]
  split <;> omega
theorem wrn {m : Nat} (h : m ≤ 9223372036854775807) : IntKind.wrap .i64 (m : Int) = (m : Int) := wr (by omega) (by omega)
theorem ctrue {c : Bool} {α : Type} {a b : α} (h : c = true) : _root_.cond c a b = a := by rw [h]; rfl
theorem cfalse {c : Bool} {α : Type} {a b : α} (h : c = false) : _root_.cond c a b = b := by rw [h]; rfl
theorem Som.ct {α : Type} {c : Bool} {o p : Option α} {P : α → Prop} (hc : c = true) (h : Som o P) : Som (_root_.cond c o p) P := by rw [hc]; exact h
theorem Som.cf {α : Type} {c : Bool} {o p : Option α} {P : α → Prop} (hc : c = false) (h : Som p P) : Som (_root_.cond c o p) P := by rw [hc]; exact h

theorem below_som (k : Nat) (x n : Int) (hn : n ≤ 4611686018427387904) : Som (Fn.f117.F k (x, n)) (fun r => (n < 1 → r = 0) ∧ (1 ≤ n → 0 ≤ r ∧ r < n)) := by
  unfold Fn.f117.F
  dsimp only
  refine Som.cond (fun h => ?_) (fun h => ?_)
  · have h := of_decide_eq_true h
    exact Som.one ⟨fun _ => rfl, fun h' => by omega⟩
  · have h := of_decide_eq_false h
    have h1 := Int.tmod_lt_of_pos x (show 0 < n by omega)
    have h2 := Int.lt_tmod_of_pos x (show 0 < n by omega)
    refine Som.neg (by omega) (Som.cond (fun h3 => ?_) (fun h3 => ?_))
    · have h3 := of_decide_eq_true h3
      rw [wr (by omega) (by omega)]
      exact Som.one ⟨fun h' => by omega, fun _ => by omega⟩
    · have h3 := of_decide_eq_false h3
      exact Som.one ⟨fun h' => by omega, fun _ => by omega⟩
theorem next_som (k : Nat) (l : List Int) (at_ n : Int) (hl : l.length ≤ 1125899906842624) (h0 : 0 ≤ at_) (h1 : at_ ≤ 1000000) (hn : n ≤ 4611686018427387904) :
    Som (Fn.f58.F k (l, at_, n)) (fun r => r.2.1 = l ∧ r.2.2 = at_ + 1 ∧ (n < 1 → r.1 = 0) ∧ (1 ≤ n → 0 ≤ r.1 ∧ r.1 < n)) := by
  unfold Fn.f58.F
  dsimp only
  rw [wr (x := at_ + 1) (by omega) (by omega)]
  have e : IntKind.wrap .i64 (at_ + 1 - 1) = at_ := by rw [wr] <;> omega
  rw [e]
  refine Som.cond (fun h => ?_) (fun h => ?_)
  · exact Som.bind (below_som k _ n hn) (fun a ha => Som.one ⟨rfl, rfl, ha.1, ha.2⟩)
  · have h : ¬ (l.length : Int) = 0 := by simpa using h
    have h2 := Int.tmod_lt_of_pos at_ (show 0 < (l.length : Int) by omega)
    have h3 := Int.tmod_nonneg (l.length : Int) h0
    refine Som.neg h (Som.neg h (Som.pos h3 (Som.pos h2 ?_)))
    have hlt : (Int.tmod at_ (l.length : Int)).toNat < l.length := by omega
    refine Som.bind (P := fun _ => True) ⟨l[(Int.tmod at_ (l.length : Int)).toNat], List.getElem?_eq_getElem hlt, trivial⟩ (fun y _ => ?_)
    refine Som.bind (below_som k _ _ (by omega)) (fun a _ => Som.bind (below_som k _ n hn) (fun b hb => Som.one ⟨rfl, rfl, hb.1, hb.2⟩))
theorem range_som (k : Nat) (l : List Int) (at_ lo hi : Int) (hl : l.length ≤ 1125899906842624) (h0 : 0 ≤ at_) (h1 : at_ ≤ 1000000) (b0 : -2199023255552 ≤ lo) (b1 : lo ≤ 2199023255552) (b2 : -2199023255552 ≤ hi) (b3 : hi ≤ 2199023255552) :
    Som (Fn.f37.F k (l, at_, lo, hi)) (fun r => r.2.1 = l ∧ at_ ≤ r.2.2 ∧ r.2.2 ≤ at_ + 1 ∧ lo ≤ r.1 ∧ (r.1 ≤ hi ∨ hi < lo ∧ r.1 = lo)) := by
  unfold Fn.f37.F
  dsimp only
  refine Som.cond (fun h => ?_) (fun h => ?_)
  · have h := of_decide_eq_true h
    exact Som.one ⟨rfl, by simp, by simp; omega, by simp, .inr ⟨h, rfl⟩⟩
  · have h := of_decide_eq_false h
    rw [wr (x := hi - lo) (by omega) (by omega), wr (x := hi - lo + 1) (by omega) (by omega)]
    refine Som.bind (next_som k l at_ _ hl h0 h1 (by omega)) (fun a ha => ?_)
    have h2 := ha.2.2.2 (by omega)
    rw [wr (by omega) (by omega)]
    exact Som.one ⟨ha.1, by have := ha.2.1; simp; omega, by have := ha.2.1; simp; omega, by simp; omega, .inl (by simp; omega)⟩
theorem flip_som (k : Nat) (l : List Int) (at_ n : Int) (hl : l.length ≤ 1125899906842624) (h0 : 0 ≤ at_) (h1 : at_ ≤ 1000000) (hn : n ≤ 4611686018427387904) :
    Som (Fn.f56.F k (l, at_, n)) (fun r => r.2.1 = l ∧ r.2.2 = at_ + 1) := by
  unfold Fn.f56.F
  dsimp only
  exact Som.bind (next_som k l at_ n hl h0 h1 hn) (fun a ha => Som.one ⟨ha.1, ha.2.1⟩)
theorem rd_som {α : Type} (xs : List α) (i : Int) (h0 : 0 ≤ i) (h1 : i < (xs.length : Int)) : Som (xs[i.toNat]?) (fun y => y ∈ xs) := by
  have : i.toNat < xs.length := by omega
  exact ⟨xs[i.toNat], List.getElem?_eq_getElem this, List.getElem_mem _⟩
theorem pick_som (k : Nat) (l : List Int) (at_ : Int) (xs : List Int) (hl : l.length ≤ 1125899906842624) (h0 : 0 ≤ at_) (h1 : at_ ≤ 1000000) (hx : 0 < xs.length) (hx2 : xs.length ≤ 1000000) :
    Som (Fn.f42.F k (l, at_, xs)) (fun r => r.2.1 = l ∧ r.2.2 = at_ + 1 ∧ r.1 ∈ xs) := by
  unfold Fn.f42.F
  dsimp only
  refine Som.bind (next_som k l at_ _ hl h0 h1 (by omega)) (fun a ha => ?_)
  have h2 := ha.2.2.2 (by omega)
  exact Som.pos h2.1 (Som.pos h2.2 (Som.bind (rd_som xs a.1 h2.1 h2.2) (fun y hy => Som.one ⟨ha.1, ha.2.1, hy⟩)))

theorem odd_som (k : Nat) (l : List Int) (at_ lo hi : Int) (hl : l.length ≤ 1125899906842624) (h0 : 0 ≤ at_) (h1 : at_ ≤ 900000) (b0 : -1099511627776 ≤ lo) (b1 : lo ≤ 1099511627776) (b2 : -1099511627776 ≤ hi) (b3 : hi ≤ 1099511627776) :
    Som (Fn.f64.F k (l, at_, lo, hi)) (fun r => r.2.1 = l ∧ at_ ≤ r.2.2 ∧ r.2.2 ≤ at_ + 2 ∧ (r.1 ∈ [lo - 1, hi + 1, lo, hi, -1099511627776, 1099511627776] ∨ lo ≤ r.1 ∧ (r.1 ≤ hi ∨ hi < lo ∧ r.1 = lo))) := by
  unfold Fn.f64.F
  dsimp only
  refine Som.bind (flip_som k l at_ 12 hl h0 (by omega) (by omega)) (fun a ha => Som.cond (fun _ => ?_) (fun _ => ?_))
  · rw [wr (x := lo - 1) (by omega) (by omega), wr (x := hi + 1) (by omega) (by omega), ha.1]
    refine Som.bind (pick_som k l _ _ hl (by omega) (by omega) (by simp) (by simp)) (fun b hb => Som.one ⟨hb.1, by have := hb.2.1; simp; omega, by have := hb.2.1; simp; omega, .inl hb.2.2⟩)
  · rw [ha.1]
    refine Som.bind (range_som k l _ lo hi hl (by omega) (by omega) (by omega) (by omega) (by omega) (by omega)) (fun b hb => Som.one ⟨hb.1, by have := hb.2; simp; omega, by have := hb.2; simp; omega, .inr hb.2.2.2⟩)

abbrev LG := T.E58
def bonn : ByteArray := ⟨#[98, 111, 110, 110]⟩
def jena : ByteArray := ⟨#[106, 101, 110, 97]⟩
def kiel : ByteArray := ⟨#[107, 105, 101, 108]⟩
def ulm : ByteArray := ⟨#[117, 108, 109]⟩
def nmL : List ByteArray := [⟨#[]⟩, bonn, jena, kiel, ulm]
def rk (s : ByteArray) : Int := if s = bonn then 1 else if s = jena then 2 else if s = kiel then 3 else if s = ulm then 4 else 0
def okL (x : LG) : Prop := x.f0 ∈ nmL ∧ x.f1 ∈ nmL ∧ -1099511627776 ≤ x.f2 ∧ x.f2 ≤ 1099511627776
theorem some_som (k : Nat) (l : List Int) (at_ : Int) (xs : List ByteArray) (hl : l.length ≤ 1125899906842624) (h0 : 0 ≤ at_) (h1 : at_ ≤ 1000000) (hx : 0 < xs.length) (hx2 : xs.length ≤ 1000000) :
    Som (Fn.f30.F k (l, at_, xs)) (fun r => r.2.1 = l ∧ r.2.2 = at_ + 1 ∧ r.1 ∈ xs) := by
  unfold Fn.f30.F
  dsimp only
  refine Som.bind (next_som k l at_ _ hl h0 h1 (by omega)) (fun a ha => ?_)
  have h2 := ha.2.2.2 (by omega)
  exact Som.pos h2.1 (Som.pos h2.2 (Som.bind (rd_som xs a.1 h2.1 h2.2) (fun y hy => Som.one ⟨ha.1, ha.2.1, hy⟩)))
theorem legs_in (k : Nat) (l : List Int) (hl : l.length ≤ 1125899906842624) (t5 : ByteArray) (ht5 : t5 ∈ nmL) (E : Int × Int × List Int × Int × List LG × List ByteArray → Option (List LG × List Int × Int)) (Q : List LG × List Int × Int → Prop) (t10 t11 : Int) (o2 : List ByteArray) :
    ∀ (d n : Nat) (t17 at_ : Int) (o1 : List LG), d = (4 - t17).toNat → 0 ≤ t17 → t17 ≤ 4 → d < n → (∀ x ∈ o1, okL x) → o1.length + d ≤ 900 → 0 ≤ at_ → at_ + 2 * (d : Int) ≤ 900000 →
      (∀ (a : Int) (o : List LG), at_ ≤ a → a ≤ at_ + 2 * (d : Int) → o.length ≤ o1.length + d → (∀ x ∈ o, okL x) → Som (E (t10, t11, l, a, o, o2)) Q) → Som (Fn.f29.l2 k E n (t5, t10, t11, 4, t17, l, at_, o1, o2, [bonn, jena, kiel, ulm])) Q := by
  intro d
  induction d with
  | zero =>
    intro n t17 at_ o1 hd h0 h1 hn hok hlen ha0 ha1 hE
    obtain ⟨m, rfl⟩ : ∃ q, n = q + 1 := ⟨n - 1, by omega⟩
    show Som (Fn.f29.l2T k E (Fn.f29.l2 k E m) _) Q
    unfold Fn.f29.l2T
    dsimp only
    exact Som.cf (decide_eq_false (by omega)) (hE at_ o1 (by omega) (by omega) (by omega) hok)
  | succ d ih =>
    intro n t17 at_ o1 hd h0 h1 hn hok hlen ha0 ha1 hE
    obtain ⟨m, rfl⟩ : ∃ q, n = q + 1 := ⟨n - 1, by omega⟩
    show Som (Fn.f29.l2T k E (Fn.f29.l2 k E m) _) Q
    unfold Fn.f29.l2T Fn.f29.l100009
    dsimp only
    have h4 : (([bonn, jena, kiel, ulm] : List ByteArray).length : Int) = 4 := rfl
    refine Som.ct (decide_eq_true (by omega)) (Som.pos h0 (Som.pos (by omega) (Som.bind (rd_som _ t17 h0 (by omega)) (fun y hy => ?_))))
    have hy2 : y ∈ nmL := by
      simp only [List.mem_cons, List.not_mem_nil, or_false] at hy
      simp only [nmL, List.mem_cons, List.not_mem_nil, or_false]
      exact .inr hy
    refine Som.cond (fun _ => ?_) (fun _ => ?_)
    · refine Som.bind (flip_som k l at_ 3 hl ha0 (by omega) (by omega)) (fun a ha => ?_)
      rw [ha.1]
      refine Som.cond (fun _ => ?_) (fun _ => ?_)
      · refine Som.bind (pick_som k l _ _ hl (by omega) (by omega) (by simp) (by simp)) (fun b hb => ?_)
        rw [hb.1]
        have b3 := hb.2.2
        simp only [List.mem_cons, List.not_mem_nil, or_false] at b3
        have b4 : 1 ≤ b.1 ∧ b.1 ≤ 9 := by omega
        clear b3
        refine Som.pos (by simp only [List.length_cons, List.length_nil]; omega) ?_
        rw [wr (x := t17 + 1) (by omega) (by omega)]
        refine ih m (t17 + 1) b.2.2 (o1 ++ [⟨t5, y, b.1⟩]) (by omega) (by omega) (by omega) (by omega) (fun x hx => ?_) (by simp; omega) (by omega) (by omega) (fun a' o' q1 q2 q3 q4 => hE a' o' (by omega) (by omega) (by simp at q3; omega) q4)
        rcases List.mem_append.1 hx with hx | hx
        · exact hok x hx
        · rw [List.mem_singleton] at hx
          subst hx
          exact ⟨ht5, hy2, by show _ ≤ b.1; omega, by show b.1 ≤ _; omega⟩
      · rw [wr (x := t17 + 1) (by omega) (by omega)]
        exact ih m (t17 + 1) a.2.2 o1 (by omega) (by omega) (by omega) (by omega) hok (by omega) (by omega) (by omega) (fun a' o' q1 q2 q3 q4 => hE a' o' (by omega) (by omega) (by omega) q4)
    · refine Som.cf rfl ?_
      rw [wr (x := t17 + 1) (by omega) (by omega)]
      exact ih m (t17 + 1) at_ o1 (by omega) (by omega) (by omega) (by omega) hok (by omega) (by omega) (by omega) (fun a' o' q1 q2 q3 q4 => hE a' o' (by omega) (by omega) (by omega) q4)
theorem legs_out (k : Nat) (hk : 10 ≤ k) (l : List Int) (hl : l.length ≤ 1125899906842624) (E : List Int × Int × List LG → Option (List LG × List Int × Int)) (Q : List LG × List Int × Int → Prop) :
    ∀ (d n : Nat) (t11 at_ : Int) (o1 : List LG), d = (4 - t11).toNat → 0 ≤ t11 → t11 ≤ 4 → d < n → (∀ x ∈ o1, okL x) → o1.length + 4 * d ≤ 800 → 0 ≤ at_ → at_ + 8 * (d : Int) ≤ 800000 →
      (∀ (a : Int) (o : List LG), at_ ≤ a → a ≤ at_ + 8 * (d : Int) → o.length ≤ o1.length + 4 * d → (∀ x ∈ o, okL x) → Som (E (l, a, o)) Q) → Som (Fn.f29.l0 k E n (4, t11, l, at_, o1, [bonn, jena, kiel, ulm])) Q := by
  intro d
  induction d with
  | zero =>
    intro n t11 at_ o1 hd h0 h1 hn hok hlen ha0 ha1 hE
    obtain ⟨m, rfl⟩ : ∃ q, n = q + 1 := ⟨n - 1, by omega⟩
    show Som (Fn.f29.l0T k E (Fn.f29.l0 k E m) _) Q
    unfold Fn.f29.l0T
    dsimp only
    exact Som.cf (decide_eq_false (by omega)) (hE at_ o1 (by omega) (by omega) (by omega) hok)
  | succ d ih =>
    intro n t11 at_ o1 hd h0 h1 hn hok hlen ha0 ha1 hE
    obtain ⟨m, rfl⟩ : ∃ q, n = q + 1 := ⟨n - 1, by omega⟩
    show Som (Fn.f29.l0T k E (Fn.f29.l0 k E m) _) Q
    unfold Fn.f29.l0T
    dsimp only
    have h4 : (([bonn, jena, kiel, ulm] : List ByteArray).length : Int) = 4 := rfl
    refine Som.ct (decide_eq_true (by omega)) (Som.pos h0 (Som.pos (by omega) (Som.bind (rd_som _ t11 h0 (by omega)) (fun y hy => ?_))))
    have hy2 : y ∈ nmL := by
      simp only [List.mem_cons, List.not_mem_nil, or_false] at hy
      simp only [nmL, List.mem_cons, List.not_mem_nil, or_false]
      exact .inr hy
    refine legs_in k l hl y hy2 _ Q 4 t11 [bonn, jena, kiel, ulm] 4 k 0 at_ o1 (by omega) (by omega) (by omega) (by omega) hok (by omega) ha0 (by omega) (fun a o q1 q2 q3 q4 => ?_)
    dsimp only
    rw [wr (x := t11 + 1) (by omega) (by omega)]
    exact ih m (t11 + 1) a o (by omega) (by omega) (by omega) (by omega) q4 (by omega) (by omega) (by omega) (fun a' o' w1 w2 w3 w4 => hE a' o' (by omega) (by omega) (by omega) w4)
theorem legs_odd (k : Nat) (l : List Int) (hl : l.length ≤ 1125899906842624) (E : List Int × Int × List LG → Option (List LG × List Int × Int)) (Q : List LG × List Int × Int → Prop) (at_ : Int) (o1 : List LG) (h0 : 0 ≤ at_) (h1 : at_ ≤ 800000) (b : Bool) (hb : b = true → 0 < o1.length) (hlen : o1.length ≤ 900) (hok : ∀ x ∈ o1, okL x)
    (hE : ∀ (a : Int) (o : List LG), at_ ≤ a → a ≤ at_ + 10 → o.length = o1.length → (∀ x ∈ o, okL x) → Som (E (l, a, o)) Q) : Som (Fn.f29.l100013 k E (b, l, at_, o1)) Q := by
  unfold Fn.f29.l100013
  dsimp only
  refine Som.cond (fun h => ?_) (fun _ => hE at_ o1 (by omega) (by omega) rfl hok)
  have hp := hb h
  refine Som.bind (next_som k l at_ _ hl h0 (by omega) (by omega)) (fun a ha => ?_)
  have h2 := ha.2.2.2 (by omega)
  refine Som.pos h2.1 (Som.pos h2.2 ?_)
  have hlt : a.1.toNat < o1.length := by omega
  have hget : o1[a.1.toNat]? = some o1[a.1.toNat] := List.getElem?_eq_getElem hlt
  have hxok : okL o1[a.1.toNat] := hok _ (List.getElem_mem _)
  generalize hx : o1[a.1.toNat] = x at hget hxok
  clear hx
  rw [ha.1]
  simp only [hget, Option.bind_some, ↓reduceIte, List.getElem?_set_self, hlt, List.set_set]
  refine Som.bind (some_som k l _ _ hl (by omega) (by omega) (by simp) (by simp)) (fun y hy => ?_)
  rw [hy.1]
  refine Som.bind (some_som k l _ _ hl (by omega) (by omega) (by simp) (by simp)) (fun c hc => ?_)
  rw [hc.1]
  refine Som.bind (odd_som k l _ 1 100000000 hl (by omega) (by omega) (by omega) (by omega) (by omega) (by omega)) (fun d hd => ?_)
  rw [hd.1]
  have y3 := hy.2.2
  have c3 := hc.2.2
  have d3 := hd.2.2.2
  simp only [List.mem_cons, List.not_mem_nil, or_false] at y3 c3 d3
  obtain ⟨x1, x2, x3, x4⟩ := hxok
  have d4 : -1099511627776 ≤ d.1 ∧ d.1 ≤ 1099511627776 := by omega
  clear d3
  refine hE _ _ (by omega) (by omega) (by simp) (fun z hz => ?_)
  rcases List.mem_or_eq_of_mem_set hz with hz | hz
  · exact hok z hz
  · subst hz
    refine ⟨?_, ?_, d4.1, d4.2⟩
    · dsimp only
      rcases y3 with h | h
      · rw [h]; exact x1
      · rw [h]; simp [nmL]
    · dsimp only
      rcases c3 with h | h
      · rw [h]; exact x2
      · rw [h]; exact x1
theorem legs_som (k : Nat) (hk : 10 ≤ k) (l : List Int) (at_ : Int) (hl : l.length ≤ 1125899906842624) (h0 : 0 ≤ at_) (h1 : at_ ≤ 700000) :
    Som (Fn.f29.F k (l, at_)) (fun r => r.2.1 = l ∧ at_ ≤ r.2.2 ∧ r.2.2 ≤ at_ + 50 ∧ r.1.length ≤ 16 ∧ ∀ x ∈ r.1, okL x) := by
  unfold Fn.f29.F
  dsimp only
  refine legs_out k hk l hl _ _ 4 k 0 at_ [] (by omega) (by omega) (by omega) (by omega) (fun x hx => by cases hx) (by simp) h0 (by omega) (fun b o q1 q2 q3 q4 => ?_)
  dsimp only
  simp only [List.length_nil] at q3
  refine Som.cond (fun h => ?_) (fun h => ?_)
  · have h := of_decide_eq_true h
    refine Som.bind (flip_som k l b 15 hl (by omega) (by omega) (by omega)) (fun c hc => ?_)
    rw [hc.1]
    exact legs_odd k l hl _ _ _ o (by omega) (by omega) _ (fun _ => by omega) (by omega) q4 (fun a' o' w1 w2 w3 w4 => Som.one ⟨rfl, by show at_ ≤ a'; omega, by show a' ≤ at_ + 50; omega, by show o'.length ≤ 16; omega, w4⟩)
  · exact legs_odd k l hl _ _ _ o (by omega) (by omega) _ (fun h => by cases h) (by omega) q4 (fun a' o' w1 w2 w3 w4 => Som.one ⟨rfl, by show at_ ≤ a'; omega, by show a' ≤ at_ + 50; omega, by show o'.length ≤ 16; omega, w4⟩)

def emp : ByteArray := ⟨#[]⟩
def cmpR (a b : Int) : Int := if a < b then -1 else if a = b then 0 else 1
theorem key_nm (k : Nat) (hk : 9223372036854775808 = k) (x : ByteArray) (hx : x ∈ nmL) : Fn.f89.F k x = some (decide (x ≠ emp)) ∧ Fn.f95.F k x = some (decide (x ≠ emp)) := by
  subst hk
  simp only [nmL, List.mem_cons, List.not_mem_nil, or_false] at hx
  rcases hx with rfl | rfl | rfl | rfl | rfl <;> exact ⟨by kernel_rfl, by kernel_rfl⟩
theorem eq_nm (a b : ByteArray) (ha : a ∈ nmL) (hb : b ∈ nmL) : (ByteArray.toList a == ByteArray.toList b) = decide (a = b) := by
  simp only [nmL, List.mem_cons, List.not_mem_nil, or_false] at ha hb
  rcases ha with rfl | rfl | rfl | rfl | rfl <;> rcases hb with rfl | rfl | rfl | rfl | rfl <;> kernel_rfl
theorem cmp_nm (a b : ByteArray) (ha : a ∈ nmL) (hb : b ∈ nmL) : Go.Lib.compareBytes (Array.toList (ByteArray.data a)) (Array.toList (ByteArray.data b)) = cmpR (rk a) (rk b) := by
  simp only [nmL, List.mem_cons, List.not_mem_nil, or_false] at ha hb
  rcases ha with rfl | rfl | rfl | rfl | rfl <;> rcases hb with rfl | rfl | rfl | rfl | rfl <;> kernel_rfl
theorem rk_nm (a : ByteArray) (ha : a ∈ nmL) : 0 ≤ rk a ∧ rk a ≤ 4 := by
  simp only [nmL, List.mem_cons, List.not_mem_nil, or_false] at ha
  rcases ha with rfl | rfl | rfl | rfl | rfl <;> decide
theorem rk_inj (a b : ByteArray) (ha : a ∈ nmL) (hb : b ∈ nmL) (h : rk a = rk b) : a = b := by
  simp only [nmL, List.mem_cons, List.not_mem_nil, or_false] at ha hb
  rcases ha with rfl | rfl | rfl | rfl | rfl <;> rcases hb with rfl | rfl | rfl | rfl | rfl <;> first | rfl | (revert h; decide)
theorem or2 (k : Nat) (hk : 9223372036854775808 = k) (u v : Int) : Fn.f91.F k [u, v] = cond (u != 0) (some u) (cond (v != 0) (some v) (some 0)) := by
  subst hk
  kernel_rfl
def cd (x : LG) : Int := 5 * rk x.f0 + rk x.f1
theorem or_cd (k : Nat) (hk : 9223372036854775808 = k) (y x : LG) (hy : okL y) (hx : okL x) : ∃ v : Int, Fn.f91.F k [cmpR (rk y.f0) (rk x.f0), cmpR (rk y.f1) (rk x.f1)] = some v ∧ decide (v ≥ 0) = !decide (cd y < cd x) := by
  rw [or2 k hk]
  have a1 := rk_nm y.f0 hy.1
  have a2 := rk_nm y.f1 hy.2.1
  have a3 := rk_nm x.f0 hx.1
  have a4 := rk_nm x.f1 hx.2.1
  unfold cd
  generalize rk y.f0 = p at *
  generalize rk y.f1 = q at *
  generalize rk x.f0 = r at *
  generalize rk x.f1 = s at *
  unfold cmpR
  by_cases h1 : p < r
  · rw [if_pos h1]
    refine ⟨-1, rfl, ?_⟩
    rw [decide_eq_true (show 5 * p + q < 5 * r + s by omega)]
    rfl
  · rw [if_neg h1]
    by_cases h2 : p = r
    · rw [if_pos h2]
      by_cases h3 : q < s
      · rw [if_pos h3]
        refine ⟨-1, rfl, ?_⟩
        rw [decide_eq_true (show 5 * p + q < 5 * r + s by omega)]
        rfl
      · rw [if_neg h3]
        by_cases h4 : q = s
        · rw [if_pos h4]
          refine ⟨0, rfl, ?_⟩
          rw [decide_eq_false (show ¬ 5 * p + q < 5 * r + s by omega)]
          rfl
        · rw [if_neg h4]
          refine ⟨1, rfl, ?_⟩
          rw [decide_eq_false (show ¬ 5 * p + q < 5 * r + s by omega)]
          rfl
    · rw [if_neg h2]
      refine ⟨1, rfl, ?_⟩
      rw [decide_eq_false (show ¬ 5 * p + q < 5 * r + s by omega)]
      rfl
theorem in_eq (k : Nat) (x lo hi : Int) : Fn.f90.F k (x, lo, hi) = some (decide (lo ≤ x ∧ x ≤ hi)) := by
  unfold Fn.f90.F
  dsimp only
  by_cases h1 : lo ≤ x <;> by_cases h2 : x ≤ hi <;> simp [h1, h2]
theorem out_eq (k : Nat) (x lo hi : Int) : Fn.f74.F k (x, lo, hi) = some (!decide (lo ≤ x ∧ x ≤ hi)) := by
  unfold Fn.f74.F
  dsimp only
  by_cases h1 : lo ≤ x
  · rw [decide_eq_false (show ¬ x < lo by omega)]
    by_cases h2 : x ≤ hi
    · (simp [h1, h2]; try omega)
    · (simp [h1, h2]; try omega)
  · rw [decide_eq_true (show x < lo by omega)]
    simp [h1]
def goodL (x : LG) : Prop := x.f0 ≠ emp ∧ x.f1 ≠ emp ∧ x.f0 ≠ x.f1 ∧ 1 ≤ x.f2 ∧ x.f2 ≤ 100000000
theorem legs_both (k : Nat) (hk : 9223372036854775808 = k) (p : List LG) (hp : p.length ≤ 300) (hok : ∀ x ∈ p, okL x) : ∀ (dd n : Nat) (i : Int), dd = ((p.length : Int) - i).toNat → 0 ≤ i → i ≤ (p.length : Int) → dd < n →
    ∃ v : Int, Fn.f31.l0 k (fun t2 => some t2) (fun () => some 0) n (p, p, (p.length : Int), i) = some v ∧ Fn.f94.l0 k (fun t2 => some t2) (fun () => some 0) n (p, p, (p.length : Int), i) = some v ∧
      (v = 0 → ∀ (j : Nat) x, i ≤ (j : Int) → p[j]? = some x → goodL x ∧ ∀ y, 0 < j → p[j - 1]? = some y → cd y < cd x) := by
  intro dd
  induction dd with
  | zero =>
    intro n i hd hi0 hi1 hn
    obtain ⟨m, rfl⟩ : ∃ q, n = q + 1 := ⟨n - 1, by omega⟩
    have e : decide (i < (p.length : Int)) = false := decide_eq_false (by omega)
    refine ⟨0, ?_, ?_, fun _ j x hj hx => ?_⟩
    · show Fn.f31.l0T k (fun t2 => some t2) (fun () => some 0) (Fn.f31.l0 k (fun t2 => some t2) (fun () => some 0) m) _ = _
      unfold Fn.f31.l0T
      dsimp only
      rw [e]
      rfl
    · show Fn.f94.l0T k (fun t2 => some t2) (fun () => some 0) (Fn.f94.l0 k (fun t2 => some t2) (fun () => some 0) m) _ = _
      unfold Fn.f94.l0T
      dsimp only
      rw [e]
      rfl
    · have := (List.getElem?_eq_some_iff.1 hx).1
      omega
  | succ dd ih =>
    intro n i hd hi0 hi1 hn
    obtain ⟨m, rfl⟩ : ∃ q, n = q + 1 := ⟨n - 1, by omega⟩
    have hlt : i < (p.length : Int) := by omega
    have e : decide (i < (p.length : Int)) = true := decide_eq_true hlt
    have hln : i.toNat < p.length := by omega
    have hget : p[i.toNat]? = some p[i.toNat] := List.getElem?_eq_getElem hln
    have hx := hok _ (List.getElem_mem hln)
    generalize hxe : p[i.toNat] = x at hget hx
    obtain ⟨v, v1, v2, v3⟩ := ih m (i + 1) (by omega) (by omega) (by omega) (by omega)
    obtain ⟨ka1, ka2⟩ := key_nm k hk x.f0 hx.1
    obtain ⟨kb1, kb2⟩ := key_nm k hk x.f1 hx.2.1
    have stop : ∀ c : Int, c ≠ 0 → (c = 0 → ∀ (j : Nat) x, i ≤ (j : Int) → p[j]? = some x → goodL x ∧ ∀ y, 0 < j → p[j - 1]? = some y → cd y < cd x) := fun c hc h => absurd h hc
    show ∃ v : Int, Fn.f31.l0T k (fun t2 => some t2) (fun () => some 0) (Fn.f31.l0 k (fun t2 => some t2) (fun () => some 0) m) (p, p, (p.length : Int), i) = some v ∧ Fn.f94.l0T k (fun t2 => some t2) (fun () => some 0) (Fn.f94.l0 k (fun t2 => some t2) (fun () => some 0) m) (p, p, (p.length : Int), i) = some v ∧ _
    unfold Fn.f31.l0T Fn.f94.l0T Fn.f31.l100007 Fn.f94.l100007 Fn.f31.l100013 Fn.f94.l100013
    simp only [e, cond_true, if_pos hi0, if_pos hlt, hget, Option.bind_some, ka1, ka2, kb1, kb2, in_eq, out_eq, eq_nm x.f0 x.f1 hx.1 hx.2.1, wr (x := i + 1) (by omega) (by omega), v1, v2]
    by_cases h1 : x.f0 = emp
    · exact ⟨5, by simp [h1], by simp [h1], stop 5 (by omega)⟩
    · by_cases h2 : x.f1 = emp
      · exact ⟨5, by simp [h1, h2], by simp [h1, h2], stop 5 (by omega)⟩
      · by_cases h3 : x.f0 = x.f1
        · exact ⟨3, by simp [h2, h3], by simp [h2, h3], stop 3 (by omega)⟩
        · by_cases h4 : 1 ≤ x.f2 ∧ x.f2 ≤ 100000000
          · by_cases h5 : i > 0
            · have hi1' : 0 ≤ i - 1 := by omega
              have hi2' : i - 1 < (p.length : Int) := by omega
              have hpn : (i - 1).toNat < p.length := by omega
              have hgp : p[(i - 1).toNat]? = some p[(i - 1).toNat] := List.getElem?_eq_getElem hpn
              have hy := hok _ (List.getElem_mem hpn)
              generalize hye : p[(i - 1).toNat] = y at hgp hy
              obtain ⟨c, c1, c2⟩ := or_cd k hk y x hy hx
              simp only [wr (x := i - 1) (by omega) (by omega), if_pos hi1', if_pos hi2', hgp, Option.bind_some, cmp_nm y.f0 x.f0 hy.1 hx.1, cmp_nm y.f1 x.f1 hy.2.1 hx.2.1, c1, c2, decide_eq_true h5, cond_true]
              by_cases h6 : cd y < cd x
              · refine ⟨v, by simp [h1, h2, h3, h4, h6], by simp [h1, h2, h3, h4, h6], fun h j z hj hz => ?_⟩
                by_cases hji : (j : Int) = i
                · have : j = i.toNat := by omega
                  subst this
                  rw [hget] at hz
                  cases hz
                  refine ⟨⟨h1, h2, h3, h4⟩, fun w hw0 hw => ?_⟩
                  have e2 : i.toNat - 1 = (i - 1).toNat := by omega
                  rw [e2, hgp] at hw
                  cases hw
                  exact h6
                · exact v3 h j z (by omega) hz
              · exact ⟨7, by simp [h1, h2, h3, h4, h6], by simp [h1, h2, h3, h4, h6], stop 7 (by omega)⟩
            · simp only [decide_eq_false h5, cond_false]
              refine ⟨v, by simp [h1, h2, h3, h4], by simp [h1, h2, h3, h4], fun h j z hj hz => ?_⟩
              by_cases hji : (j : Int) = i
              · have : j = i.toNat := by omega
                subst this
                rw [hget] at hz
                cases hz
                exact ⟨⟨h1, h2, h3, h4⟩, fun w hw0 hw => by omega⟩
              · exact v3 h j z (by omega) hz
          · exact ⟨1, by simp [h1, h2, h3, h4], by simp [h1, h2, h3, h4], stop 1 (by omega)⟩
structure RightL (k : Nat) (p : List LG) : Prop where
  len : p.length ≤ 16
  ok : ∀ x ∈ p, okL x
  good : ∀ x ∈ p, goodL x
  chk : Fn.f94.F k p = some 0
  asc : ∀ (i j : Nat) x y, i < j → p[i]? = some x → p[j]? = some y → cd x < cd y
theorem legs_right (k : Nat) (hk : 9223372036854775808 = k) (p : List LG) (hp : p.length ≤ 16) (hok : ∀ x ∈ p, okL x) : ∃ v : Int, Fn.f31.F k p = some v ∧ (v = 0 → RightL k p) := by
  obtain ⟨v, v1, v2, v3⟩ := legs_both k hk p (by omega) hok _ k 0 rfl (by omega) (by omega) (by omega)
  have e : decide ((p.length : Int) > 400) = false := decide_eq_false (by omega)
  refine ⟨v, ?_, fun h => ⟨hp, hok, fun x hx => ?_, ?_, ?_⟩⟩
  · unfold Fn.f31.F
    try dsimp only
    rw [e]
    exact v1
  · obtain ⟨j, hj⟩ := List.mem_iff_getElem?.1 hx
    exact (v3 h j x (by omega) hj).1
  · unfold Fn.f94.F
    try dsimp only
    rw [e, ← h]
    rw [h] at v2 ⊢
    exact v2
  · intro i j
    induction j with
    | zero => intro x y hij; omega
    | succ j ih =>
      intro x y hij hx hy
      have hjl : j < p.length := by have := (List.getElem?_eq_some_iff.1 hy).1; omega
      have hz : p[j]? = some p[j] := List.getElem?_eq_getElem hjl
      have h1 := (v3 h (j + 1) y (by omega) hy).2 p[j] (by omega) (by simp)
      by_cases hji : i = j
      · subst hji
        rw [hx] at hz
        cases hz
        exact h1
      · exact Int.lt_trans (ih x p[j] (by omega) hx hz) h1

abbrev WY := T.E144
abbrev WM := List (Value × WY)
theorem eqs (a b : ByteArray) : eqK (.string a) (.string b) = decide (a = b) := by
  by_cases h : a = b
  · subst h
    rw [decide_eq_true rfl]
    show (a.data == a.data) = true
    simp
  · rw [decide_eq_false h]
    cases hb : eqK (.string a) (.string b) with
    | false => rfl
    | true =>
      exfalso
      have hb : (a.data == b.data) = true := hb
      have := eq_of_beq hb
      apply h
      cases a; cases b
      congr 1
theorem eqs_inv {p : ByteArray} {v : Value} (h : eqK (.string p) v = true) : v = .string p := by
  cases v with
  | string s => rw [eqs] at h; rw [of_decide_eq_true h]
  | _ => cases h
theorem mix_set {α : Type} (p q : ByteArray) (x : α) : ∀ (l : List (Value × α)) (i0 j : Nat) (y : α), mix (.string p) l i0 = some (j, y) → mix (.string q) (l.set (j - i0) (.string p, x)) i0 = if q = p then some (j, x) else mix (.string q) l i0
  | [], i0, j, y, h => by cases h
  | z :: l, i0, j, y, h => by
    unfold mix at h
    cases hb : eqK (.string p) z.1 with
    | true =>
      rw [hb] at h
      cases h
      have hz := eqs_inv hb
      rw [Nat.sub_self, List.set_cons_zero]
      unfold mix
      rw [eqs, hz, eqs]
      by_cases hq : q = p
      · rw [if_pos hq, decide_eq_true hq]; rfl
      · rw [if_neg hq, decide_eq_false hq]; rfl
    | false =>
      rw [hb] at h
      have h : mix (.string p) l (i0 + 1) = some (j, y) := h
      have hj := (mix_lt h).1
      have ej : j - i0 = (j - (i0 + 1)) + 1 := by
        have : i0 + 1 ≤ j := hj
        omega
      rw [ej, List.set_cons_succ]
      have ih := mix_set p q x l (i0 + 1) j y h
      unfold mix
      cases hq : eqK (.string q) z.1 with
      | true =>
        have hz := eqs_inv hq
        have hne : q ≠ p := fun e => by
          rw [hz, eqs, e] at hb
          simp at hb
        rw [if_neg hne]
        rfl
      | false =>
        simp only [cond_false]
        exact ih
theorem mix_app {α : Type} (p q : ByteArray) (x : α) : ∀ (l : List (Value × α)) (i0 : Nat), mix (.string p) l i0 = none → mix (.string q) (l ++ [(.string p, x)]) i0 = if q = p then some (i0 + l.length, x) else mix (.string q) l i0
  | [], i0, h => by
    show cond (eqK (.string q) (.string p)) (some (i0, x)) none = _
    rw [eqs]
    by_cases hq : q = p
    · rw [if_pos hq, decide_eq_true hq]; rfl
    · rw [if_neg hq, decide_eq_false hq]; rfl
  | z :: l, i0, h => by
    unfold mix at h
    cases hb : eqK (.string p) z.1 with
    | true => rw [hb] at h; cases h
    | false =>
      rw [hb] at h
      have ih := mix_app p q x l (i0 + 1) h
      rw [List.cons_append]
      unfold mix
      cases hq : eqK (.string q) z.1 with
      | true =>
        have hz := eqs_inv hq
        have hne : q ≠ p := fun e => by
          rw [hz, eqs, e] at hb
          simp at hb
        rw [if_neg hne]
        rfl
      | false =>
        simp only [cond_false]
        rw [ih]
        by_cases hqp : q = p
        · rw [if_pos hqp, if_pos hqp]
          simp
          omega
        · rw [if_neg hqp, if_neg hqp]
abbrev has (o : WM) (q : ByteArray) : Bool := mhas o (.string q)
abbrev val (o : WM) (q : ByteArray) : WY := mgetD o (.string q) ⟨0, 0⟩
theorem mix_put (o : WM) (p q : ByteArray) (x : WY) : (mix (.string q) (mput o (.string p) x) 0).map (·.2) = if q = p then some x else (mix (.string q) o 0).map (·.2) := by
  unfold mput
  cases h : mix (.string p) o 0 with
  | some y =>
    obtain ⟨j, y⟩ := y
    have := mix_set p q x o 0 j y h
    rw [Nat.sub_zero] at this
    show (mix (.string q) (o.set j (.string p, x)) 0).map (·.2) = _
    rw [this]
    by_cases hq : q = p
    · rw [if_pos hq, if_pos hq]; rfl
    · rw [if_neg hq, if_neg hq]
  | none =>
    show (mix (.string q) (o ++ [(.string p, x)]) 0).map (·.2) = _
    rw [mix_app p q x o 0 h]
    by_cases hq : q = p
    · rw [if_pos hq, if_pos hq]; rfl
    · rw [if_neg hq, if_neg hq]
theorem has_eq (o : WM) (q : ByteArray) : has o q = ((mix (.string q) o 0).map (·.2)).isSome := by unfold has mhas; cases mix (.string q) o 0 <;> rfl
theorem val_eq (o : WM) (q : ByteArray) : val o q = ((mix (.string q) o 0).map (·.2)).getD ⟨0, 0⟩ := by unfold val mgetD; cases mix (.string q) o 0 <;> rfl
theorem has_put (o : WM) (p q : ByteArray) (x : WY) : has (mput o (.string p) x) q = (decide (q = p) || has o q) := by
  rw [has_eq, mix_put, has_eq]
  by_cases hq : q = p
  · rw [if_pos hq, decide_eq_true hq]; rfl
  · rw [if_neg hq, decide_eq_false hq]; rfl
theorem val_put (o : WM) (p q : ByteArray) (x : WY) : val (mput o (.string p) x) q = if q = p then x else val o q := by
  rw [val_eq, mix_put, val_eq]
  by_cases hq : q = p
  · rw [if_pos hq, if_pos hq]; rfl
  · rw [if_neg hq, if_neg hq]
def lt (a b : WY) : Prop := a.f0 < b.f0 ∨ (a.f0 = b.f0 ∧ a.f1 < b.f1)
instance (a b : WY) : Decidable (lt a b) := by unfold lt; infer_instance
def by' (v : WY) (x : LG) : WY := ⟨v.f0 + x.f2, v.f1 + 1⟩
theorem less_eq (k : Nat) (a b c d : Int) : Fn.f146.F k (a, b, c, d) = some (decide (lt ⟨a, b⟩ ⟨c, d⟩)) := by
  unfold Fn.f146.F lt
  dsimp only
  by_cases h1 : a < c
  · simp [h1]
  · by_cases h2 : a = c
    · simp [h2]
    · have e : (a == c) = false := beq_false_of_ne h2
      simp [h1, h2, e]
def card (o : WM) : Nat := (nmL.filter (has o)).length
theorem filter_le {α : Type} (f g : α → Bool) (h : ∀ p, f p = true → g p = true) : ∀ l : List α, (l.filter f).length ≤ (l.filter g).length ∧ ((∃ q ∈ l, g q = true ∧ f q = false) → (l.filter f).length + 1 ≤ (l.filter g).length)
  | [] => ⟨Nat.le_refl _, fun ⟨q, hq, _⟩ => by cases hq⟩
  | x :: l => by
    obtain ⟨i1, i2⟩ := filter_le f g h l
    cases hf : f x with
    | true =>
      have hg := h x hf
      rw [List.filter_cons_of_pos hf, List.filter_cons_of_pos hg]
      refine ⟨by simpa using i1, fun ⟨q, hq, h1, h2⟩ => ?_⟩
      rcases List.mem_cons.1 hq with rfl | hq
      · rw [hf] at h2; cases h2
      · have := i2 ⟨q, hq, h1, h2⟩
        simpa using this
    | false =>
      rw [List.filter_cons_of_neg (by simp [hf])]
      cases hg : g x with
      | true =>
        rw [List.filter_cons_of_pos hg]
        refine ⟨by simp; omega, fun _ => by simp; omega⟩
      | false =>
        rw [List.filter_cons_of_neg (by simp [hg])]
        refine ⟨i1, fun ⟨q, hq, h1, h2⟩ => ?_⟩
        rcases List.mem_cons.1 hq with rfl | hq
        · rw [hg] at h1; cases h1
        · exact i2 ⟨q, hq, h1, h2⟩
theorem card_le (o : WM) : card o ≤ 5 := by
  unfold card
  exact Nat.le_trans (List.length_filter_le _ _) (by decide)
structure Inv (p : List LG) (tgt : ByteArray) (o : WM) : Prop where
  to1 : has o tgt = true
  to2 : val o tgt = ⟨0, 0⟩
  dom : ∀ q, has o q = true → q ∈ nmL ∧ 0 ≤ (val o q).f1 ∧ (val o q).f1 ≤ (val o q).f0 ∧ (val o q).f0 ≤ 100000000 * (card o : Int) ∧ (q ≠ tgt → 1 ≤ (val o q).f1)
  just : ∀ q, has o q = true → q ≠ tgt → ∃ x ∈ p, x.f0 = q ∧ has o x.f1 = true ∧ ¬ lt (val o q) (by' (val o x.f1) x)
def phi (o : WM) (q : ByteArray) : Nat := if has o q = true then ((val o q).f0 * 1000000000 + (val o q).f1).toNat else 600000000000000000
def mu (o : WM) : Nat := (nmL.map (phi o)).sum
theorem sum_lt (f g : ByteArray → Nat) (h : ∀ p, f p ≤ g p) : ∀ l : List ByteArray, (l.map f).sum ≤ (l.map g).sum ∧ ((∃ q ∈ l, f q < g q) → (l.map f).sum < (l.map g).sum)
  | [] => ⟨Nat.le_refl _, fun ⟨q, hq, _⟩ => by cases hq⟩
  | x :: l => by
    obtain ⟨i1, i2⟩ := sum_lt f g h l
    have hx := h x
    simp only [List.map_cons, List.sum_cons]
    refine ⟨by omega, fun ⟨q, hq, h1⟩ => ?_⟩
    rcases List.mem_cons.1 hq with rfl | hq
    · omega
    · have := i2 ⟨q, hq, h1⟩
      omega
theorem mu_le (p : List LG) (tgt : ByteArray) (o : WM) (h : Inv p tgt o) : mu o ≤ 3000000000000000000 := by
  have hb : ∀ q, phi o q ≤ 600000000000000000 := fun q => by
    unfold phi
    split
    · rename_i hq
      obtain ⟨_, h1, h2, h3, _⟩ := h.dom q hq
      have := card_le o
      omega
    · exact Nat.le_refl _
  have h1 := hb emp
  unfold mu
  have := (sum_lt (phi o) (fun _ => 600000000000000000) hb nmL).1
  exact Nat.le_trans this (by decide)
def fixx (o : WM) (x : LG) : Prop := has o x.f1 = true → has o x.f0 = true ∧ ¬ lt (by' (val o x.f1) x) (val o x.f0)
theorem inv_put {p : List LG} {tgt : ByteArray} {o : WM} (hI : Inv p tgt o) {x : LG} (hx : x ∈ p) (hok : okL x) (hg : goodL x) (h1 : has o x.f1 = true) (h2 : has o x.f0 = false ∨ lt (by' (val o x.f1) x) (val o x.f0)) :
    Inv p tgt (mput o (.string x.f0) (by' (val o x.f1) x)) ∧ mu (mput o (.string x.f0) (by' (val o x.f1) x)) < mu o := by
  obtain ⟨g1, g2, g3, g4, g5⟩ := hg
  obtain ⟨d1, d2, d3, d4, d5⟩ := hI.dom x.f1 h1
  have hcl := card_le o
  generalize hv : by' (val o x.f1) x = v at h2
  have hv0 : v.f0 = (val o x.f1).f0 + x.f2 := by rw [← hv]; rfl
  have hv1 : v.f1 = (val o x.f1).f1 + 1 := by rw [← hv]; rfl
  have hne : x.f0 ≠ tgt := fun e => by
    rcases h2 with h | h
    · rw [e, hI.to1] at h; cases h
    · rw [e, hI.to2] at h
      unfold lt at h
      dsimp only at h
      omega
  have hh := fun q => has_put o x.f0 q v
  have hw := fun q => val_put o x.f0 q v
  generalize mput o (.string x.f0) v = o' at hh hw
  have hmono : ∀ q, has o q = true → has o' q = true := fun q h => by rw [hh, h, Bool.or_true]
  have hnew : has o' x.f0 = true := by rw [hh, decide_eq_true rfl]; rfl
  have hcc := filter_le (has o) (has o') hmono nmL
  have hc1 : card o ≤ card o' := hcc.1
  have hc2 : has o x.f0 = false → card o + 1 ≤ card o' := fun h => hcc.2 ⟨x.f0, hok.1, hnew, h⟩
  have hold : has o x.f0 = true → lt v (val o x.f0) := fun h => by
    rcases h2 with h' | h'
    · rw [h] at h'; cases h'
    · exact h'
  have hvb : v.f0 ≤ 100000000 * (card o' : Int) := by
    cases hb : has o x.f0 with
    | false => have := hc2 hb; omega
    | true =>
      obtain ⟨_, _, _, e4, _⟩ := hI.dom x.f0 hb
      have := hold hb
      unfold lt at this
      omega
  have hcl' := card_le o'
  refine ⟨⟨by rw [hh, hI.to1, Bool.or_true], by rw [hw, if_neg (Ne.symm hne)]; exact hI.to2, fun q hq => ?_, fun q hq hqt => ?_⟩, ?_⟩
  · by_cases e : q = x.f0
    · rw [hw, if_pos e]
      exact ⟨by rw [e]; exact hok.1, by omega, by omega, hvb, fun _ => by omega⟩
    · rw [hh, decide_eq_false e, Bool.false_or] at hq
      obtain ⟨e1, e2, e3, e4, e5⟩ := hI.dom q hq
      rw [hw, if_neg e]
      exact ⟨e1, e2, e3, by omega, e5⟩
  · by_cases e : q = x.f0
    · refine ⟨x, hx, e.symm, hmono _ h1, ?_⟩
      rw [hw, if_pos e, hw, if_neg (fun h => g3 h.symm), hv]
      unfold lt
      omega
    · rw [hh, decide_eq_false e, Bool.false_or] at hq
      obtain ⟨y, y1, y2, y3, y4⟩ := hI.just q hq hqt
      refine ⟨y, y1, y2, hmono _ y3, ?_⟩
      rw [hw, if_neg e, hw]
      by_cases e2 : y.f1 = x.f0
      · rw [if_pos e2]
        rw [e2] at y3 y4
        have := hold y3
        unfold lt by' at *
        dsimp only at *
        omega
      · rw [if_neg e2]
        exact y4
  · refine (sum_lt (phi o') (phi o) (fun q => ?_) nmL).2 ⟨x.f0, hok.1, ?_⟩
    · by_cases e : q = x.f0
      · subst e
        unfold phi
        rw [if_pos hnew, hw, if_pos rfl]
        split
        · rename_i hb
          have := hold hb
          obtain ⟨_, e2, e3, e4, _⟩ := hI.dom x.f0 hb
          unfold lt at this
          omega
        · omega
      · unfold phi
        rw [hh, decide_eq_false e, Bool.false_or, hw, if_neg e]
        exact Nat.le_refl _
    · unfold phi
      rw [if_pos hnew, hw, if_pos rfl]
      split
      · rename_i hb
        have := hold hb
        obtain ⟨_, e2, e3, e4, _⟩ := hI.dom x.f0 hb
        unfold lt at this
        omega
      · omega
theorem ways_in (k : Nat) (p : List LG) (hp : RightL k p) (tgt : ByteArray) (o0 : WM) (E : List LG × Bool × WM → Option WM) (Q : WM → Prop) :
    ∀ (d n : Nat) (i : Int) (b : Bool) (o : WM), d = ((p.length : Int) - i).toNat → 0 ≤ i → i ≤ (p.length : Int) → d < n → Inv p tgt o → (b = false → o = o0 ∧ ∀ (j : Nat) x, (j : Int) < i → p[j]? = some x → fixx o x) → (b = true → mu o < mu o0) →
      (∀ b' o', Inv p tgt o' → (b' = false → o' = o0 ∧ ∀ x ∈ p, fixx o' x) → (b' = true → mu o' < mu o0) → Som (E (p, b', o')) Q) → Som (Fn.f96.l2 k E n (p, b, p, (p.length : Int), i, o)) Q := by
  intro d
  induction d with
  | zero =>
    intro n i b o hd h0 h1 hn hI hb1 hb2 hE
    obtain ⟨m, rfl⟩ : ∃ q, n = q + 1 := ⟨n - 1, by omega⟩
    show Som (Fn.f96.l2T k E (Fn.f96.l2 k E m) _) Q
    unfold Fn.f96.l2T
    dsimp only
    refine Som.cf (decide_eq_false (by omega)) (hE b o hI (fun h => ⟨(hb1 h).1, fun x hx => ?_⟩) hb2)
    obtain ⟨j, hj⟩ := List.mem_iff_getElem?.1 hx
    have := (List.getElem?_eq_some_iff.1 hj).1
    exact (hb1 h).2 j x (by omega) hj
  | succ d ih =>
    intro n i b o hd h0 h1 hn hI hb1 hb2 hE
    obtain ⟨m, rfl⟩ : ∃ q, n = q + 1 := ⟨n - 1, by omega⟩
    have hlt : i < (p.length : Int) := by omega
    have hln : i.toNat < p.length := by omega
    have hget : p[i.toNat]? = some p[i.toNat] := List.getElem?_eq_getElem hln
    have hmem : p[i.toNat] ∈ p := List.getElem_mem hln
    generalize hxe : p[i.toNat] = x at hget hmem
    have hxo := hp.ok x hmem
    have hxg := hp.good x hmem
    have hl16 := hp.len
    show Som (Fn.f96.l2T k E (Fn.f96.l2 k E m) _) Q
    unfold Fn.f96.l2T Fn.f96.l100015
    dsimp only
    refine Som.ct (decide_eq_true hlt) (Som.pos h0 (Som.pos hlt ?_))
    rw [hget, Option.bind_some, wr (x := i + 1) (by omega) (by omega)]
    have go : ∀ (c : Bool) (o' : WM), Inv p tgt o' → (c = false → o' = o0 ∧ ∀ (j : Nat) x, (j : Int) < i + 1 → p[j]? = some x → fixx o' x) → (c = true → mu o' < mu o0) → Som (Fn.f96.l2 k E m (p, c, p, (p.length : Int), i + 1, o')) Q :=
      fun c o' q1 q2 q3 => ih m (i + 1) c o' (by omega) (by omega) (by omega) (by omega) q1 q2 q3 hE
    have keep : fixx o x → Som (Fn.f96.l2 k E m (p, b, p, (p.length : Int), i + 1, o)) Q := fun hf => go b o hI (fun h => ⟨(hb1 h).1, fun j z hj hz => by
      by_cases hji : (j : Int) = i
      · have : j = i.toNat := by omega
        subst this
        rw [hget] at hz
        cases hz
        exact hf
      · exact (hb1 h).2 j z (by omega) hz⟩) hb2
    have turn : has o x.f1 = true → (has o x.f0 = false ∨ lt (by' (val o x.f1) x) (val o x.f0)) → Som (Fn.f96.l2 k E m (p, true, p, (p.length : Int), i + 1, mput o (.string x.f0) (by' (val o x.f1) x))) Q := fun q1 q2 => by
      obtain ⟨k1, k2⟩ := inv_put hI hmem hxo hxg q1 q2
      refine go true _ k1 (fun h => by cases h) (fun _ => ?_)
      cases hbb : b with
      | true => have := hb2 hbb; omega
      | false => rw [(hb1 hbb).1] at k2 ⊢; exact k2
    refine Som.cond (fun h => ?_) (fun h => ?_)
    · refine keep (fun hh => ?_)
      rw [show mhas o (.string x.f1) = true from hh] at h
      cases h
    · have h1' : has o x.f1 = true := by simpa using h
      obtain ⟨d1, d2, d3, d4, d5⟩ := hI.dom x.f1 h1'
      obtain ⟨g1, g2, g3, g4, g5⟩ := hxg
      have hcl := card_le o
      have e1 : Go.IntKind.wrap Go.IntKind.i64 ((val o x.f1).f0 + x.f2) = (val o x.f1).f0 + x.f2 := wr (by omega) (by omega)
      have e2 : Go.IntKind.wrap Go.IntKind.i64 ((val o x.f1).f1 + 1) = (val o x.f1).f1 + 1 := wr (by omega) (by omega)
      have e1' : Go.IntKind.wrap Go.IntKind.i64 (T.E144.f0 (mgetD o (.string x.f1) ⟨0, 0⟩) + x.f2) = (by' (val o x.f1) x).f0 := e1
      have e2' : Go.IntKind.wrap Go.IntKind.i64 (T.E144.f1 (mgetD o (.string x.f1) ⟨0, 0⟩) + 1) = (by' (val o x.f1) x).f1 := e2
      rw [e1', e2', less_eq]
      refine Som.cond (fun h2 => ?_) (fun h2 => ?_)
      · exact Som.ct rfl (turn h1' (.inl (by simpa using h2)))
      · have h2' : has o x.f0 = true := by simpa using h2
        rw [Option.bind_some]
        refine Som.cond (fun h3 => ?_) (fun h3 => ?_)
        · exact turn h1' (.inr (of_decide_eq_true h3))
        · exact keep (fun _ => ⟨h2', of_decide_eq_false h3⟩)
theorem ways_out (k : Nat) (hk : 100 ≤ k) (p : List LG) (hp : RightL k p) (tgt : ByteArray) (Q : WM → Prop) (E : WM → Option WM) (hE : ∀ o, Inv p tgt o → (∀ x ∈ p, fixx o x) → Som (E o) Q) :
    ∀ (m n : Nat) (b : Bool) (o : WM), mu o ≤ m → m + 2 ≤ n → Inv p tgt o → (b = false → ∀ x ∈ p, fixx o x) → Som (Fn.f96.l0 k E n (p, b, o)) Q := by
  intro m
  induction m with
  | zero =>
    intro n b o hm hn hI hb
    obtain ⟨n, rfl⟩ : ∃ q, n = q + 2 := ⟨n - 2, by omega⟩
    show Som (Fn.f96.l0T k E (Fn.f96.l0 k E (n + 1)) _) Q
    unfold Fn.f96.l0T
    dsimp only
    refine Som.cond (fun h => ?_) (fun h => hE o hI (hb h))
    have hl16 := hp.len
    refine ways_in k p hp tgt o _ Q _ k 0 false o rfl (by omega) (by omega) (by omega) hI (fun _ => ⟨rfl, fun j x hj => by omega⟩) (fun h => by cases h) (fun b' o' q1 q2 q3 => ?_)
    dsimp only
    cases b' with
    | true => have := q3 rfl; omega
    | false =>
      show Som (Fn.f96.l0T k E (Fn.f96.l0 k E n) _) Q
      unfold Fn.f96.l0T
      dsimp only
      exact hE o' q1 (q2 rfl).2
  | succ m ih =>
    intro n b o hm hn hI hb
    obtain ⟨n, rfl⟩ : ∃ q, n = q + 1 := ⟨n - 1, by omega⟩
    show Som (Fn.f96.l0T k E (Fn.f96.l0 k E n) _) Q
    unfold Fn.f96.l0T
    dsimp only
    refine Som.cond (fun h => ?_) (fun h => hE o hI (hb h))
    have hl16 := hp.len
    refine ways_in k p hp tgt o _ Q _ k 0 false o rfl (by omega) (by omega) (by omega) hI (fun _ => ⟨rfl, fun j x hj => by omega⟩) (fun h => by cases h) (fun b' o' q1 q2 q3 => ?_)
    dsimp only
    have hmu : mu o' ≤ m ∨ b' = false := by
      cases b' with
      | true => have := q3 rfl; exact .inl (by omega)
      | false => exact .inr rfl
    rcases hmu with h | h
    · exact ih n b' o' h (by omega) q1 (fun hb' => (q2 hb').2)
    · subst h
      obtain ⟨n, rfl⟩ : ∃ q, n = q + 1 := ⟨n - 1, by omega⟩
      show Som (Fn.f96.l0T k E (Fn.f96.l0 k E n) _) Q
      unfold Fn.f96.l0T
      dsimp only
      exact hE o' q1 (q2 rfl).2
theorem idx_to (k : Nat) (p : List LG) (tgt : ByteArray) (E0 : Int × ByteArray → Option (Int × ByteArray)) (E1 : ByteArray → Option (Int × ByteArray)) (Q : Int × ByteArray → Prop) (h0 : ∀ t, Som (E0 (t, tgt)) Q) (h1 : Som (E1 tgt) Q) (hp : p.length ≤ 1000) :
    ∀ (dd n : Nat) (i : Int), dd = ((p.length : Int) - i).toNat → 0 ≤ i → i ≤ (p.length : Int) → dd < n → Som (Fn.f34_145.l0 k E0 E1 n (p, (p.length : Int), i, tgt)) Q := by
  intro dd
  induction dd with
  | zero =>
    intro n i hd hi0 hi1 hn
    obtain ⟨m, rfl⟩ : ∃ q, n = q + 1 := ⟨n - 1, by omega⟩
    show Som (Fn.f34_145.l0T k E0 E1 (Fn.f34_145.l0 k E0 E1 m) _) Q
    unfold Fn.f34_145.l0T
    dsimp only
    exact Som.cf (decide_eq_false (by omega)) h1
  | succ dd ih =>
    intro n i hd hi0 hi1 hn
    obtain ⟨m, rfl⟩ : ∃ q, n = q + 1 := ⟨n - 1, by omega⟩
    show Som (Fn.f34_145.l0T k E0 E1 (Fn.f34_145.l0 k E0 E1 m) _) Q
    unfold Fn.f34_145.l0T
    dsimp only
    refine Som.ct (decide_eq_true (by omega)) (Som.pos hi0 (Som.pos (by omega) (Som.bind (rd_som p i hi0 (by omega)) (fun y _ => ?_))))
    have hc : Som (Fn.f145.F k (y.f0, y.f1, y.f2, tgt)) (fun r => r.2 = tgt) := by
      unfold Fn.f145.F
      dsimp only
      exact Som.cond (fun _ => Som.one rfl) (fun _ => Som.one rfl)
    refine Som.bind hc (fun r hr => ?_)
    rw [hr, wr (x := i + 1) (by omega) (by omega)]
    exact Som.cond (fun _ => h0 i) (fun _ => ih m (i + 1) (by omega) (by omega) (by omega) (by omega))
theorem ways_som (k : Nat) (hk : 9223372036854775808 = k) (p : List LG) (hp : RightL k p) (tgt : ByteArray) (ht : tgt ∈ nmL) : Som (Fn.f96.F k (p, tgt)) (fun o => o = [] ∨ (Inv p tgt o ∧ ∀ x ∈ p, fixx o x)) := by
  have hl := hp.len
  have h : Som (Fn.f144_145.F k (p, tgt)) (fun r => r.2 = tgt) := by
    unfold Fn.f144_145.F Fn.f34_145.F
    dsimp only
    exact Som.bind (idx_to k p tgt _ _ (fun r => r.2 = tgt) (fun t => ⟨_, rfl, rfl⟩) ⟨_, rfl, rfl⟩ (by omega) _ k 0 rfl (by omega) (by omega) (by omega)) (fun r hr => Som.one hr)
  unfold Fn.f96.F
  dsimp only
  refine Som.bind h (fun r hr => Som.cond (fun _ => Som.one (.inl rfl)) (fun _ => ?_))
  rw [hr]
  have hh : ∀ q, has (mput [] (.string tgt) ⟨0, 0⟩) q = decide (q = tgt) := fun q => by rw [has_put]; show (_ || false) = _; rw [Bool.or_false]
  have hw : ∀ q, val (mput [] (.string tgt) ⟨0, 0⟩) q = ⟨0, 0⟩ := fun q => by
    rw [val_put]
    split
    · rfl
    · rfl
  have hI : Inv p tgt (mput [] (.string tgt) ⟨0, 0⟩) := ⟨by rw [hh]; exact decide_eq_true rfl, hw tgt, fun q hq => by
    rw [hh] at hq
    have hq := of_decide_eq_true hq
    rw [hw]
    exact ⟨by rw [hq]; exact ht, Int.le_refl _, Int.le_refl _, by show (0 : Int) ≤ _; omega, fun h => absurd hq h⟩, fun q hq hqt => by
    rw [hh] at hq
    exact absurd (of_decide_eq_true hq) hqt⟩
  exact ways_out k (by omega) p hp tgt _ _ (fun o q1 q2 => Som.one (.inr ⟨q1, q2⟩)) (mu (mput [] (.string tgt) ⟨0, 0⟩)) k true _ (Nat.le_refl _) (by have := mu_le p tgt _ hI; omega) hI (fun h => by cases h)

theorem lt_tri {a b : WY} (h1 : ¬ lt a b) (h2 : ¬ lt b a) : a = b := by
  unfold lt at h1 h2
  cases a; cases b
  simp only at h1 h2
  congr 1 <;> omega
theorem eqleg {p : List LG} {tgt : ByteArray} {o : WM} (hI : Inv p tgt o) (hf : ∀ x ∈ p, fixx o x) {q : ByteArray} (hq : has o q = true) (hne : q ≠ tgt) : ∃ x ∈ p, x.f0 = q ∧ has o x.f1 = true ∧ by' (val o x.f1) x = val o q := by
  obtain ⟨x, x1, x2, x3, x4⟩ := hI.just q hq hne
  have := (hf x x1 x3).2
  rw [x2] at this
  exact ⟨x, x1, x2, x3, lt_tri this x4⟩
theorem legs_few {p : List LG} {tgt : ByteArray} {o : WM} (hI : Inv p tgt o) (hf : ∀ x ∈ p, fixx o x) : ∀ (n : Nat) (q : ByteArray), has o q = true → (val o q).f1 = (n : Int) → n + 1 ≤ (nmL.filter (fun q => has o q && decide ((val o q).f1 ≤ (n : Int)))).length := by
  intro n
  induction n with
  | zero =>
    intro q hq hv
    have hm : q ∈ nmL.filter (fun q => has o q && decide ((val o q).f1 ≤ ((0 : Nat) : Int))) := List.mem_filter.2 ⟨(hI.dom q hq).1, by rw [hq, decide_eq_true (by omega)]; rfl⟩
    have := List.length_pos_of_mem hm
    omega
  | succ n ih =>
    intro q hq hv
    have hne : q ≠ tgt := fun e => by
      rw [e, hI.to2] at hv
      have hv : (0 : Int) = ((n + 1 : Nat) : Int) := hv
      omega
    obtain ⟨x, x1, x2, x3, x4⟩ := eqleg hI hf hq hne
    have hv2 : (val o x.f1).f1 = (n : Int) := by
      have : (by' (val o x.f1) x).f1 = (val o q).f1 := by rw [x4]
      have h3 : (by' (val o x.f1) x).f1 = (val o x.f1).f1 + 1 := rfl
      omega
    have h1 := ih x.f1 x3 hv2
    have h2 := (filter_le (fun q => has o q && decide ((val o q).f1 ≤ (n : Int))) (fun q => has o q && decide ((val o q).f1 ≤ ((n + 1 : Nat) : Int))) (fun r hr => by
      obtain ⟨r1, r2⟩ := Bool.and_eq_true_iff.1 hr
      have r2 := of_decide_eq_true r2
      show (_ && _) = true
      rw [r1, decide_eq_true (by omega)]
      rfl) nmL).2 ⟨q, (hI.dom q hq).1, by show (_ && _) = true; rw [hq, decide_eq_true (by omega)]; rfl, by show (_ && _) = false; rw [decide_eq_false (by omega), Bool.and_false]⟩
    omega
theorem legs_four {p : List LG} {tgt : ByteArray} {o : WM} (hI : Inv p tgt o) (hf : ∀ x ∈ p, fixx o x) (q : ByteArray) (hq : has o q = true) : (val o q).f1 ≤ 4 := by
  obtain ⟨_, h0, _, _, _⟩ := hI.dom q hq
  have h1 := legs_few hI hf (val o q).f1.toNat q hq (by omega)
  have h2 : (nmL.filter (fun r => has o r && decide ((val o r).f1 ≤ (((val o q).f1.toNat : Nat) : Int)))).length ≤ 5 := Nat.le_trans (List.length_filter_le _ _) (by decide)
  omega
def mt (p : List LG) (a b : ByteArray) : Int := match p.find? (fun x => decide (x.f0 = a ∧ x.f1 = b)) with | some x => x.f2 | none => 0
def tot (p : List LG) : List ByteArray → Int
  | a :: b :: r => mt p a b + tot p (b :: r)
  | _ => 0
theorem tot_snoc (p : List LG) (b : ByteArray) : ∀ (w : List ByteArray) (a : ByteArray), w[w.length - 1]? = some a → tot p (w ++ [b]) = tot p w + mt p a b
  | [], a, h => by simp at h
  | [c], a, h => by
    simp at h
    subst h
    show mt p c b + 0 = 0 + mt p c b
    omega
  | c :: d :: r, a, h => by
    have ih := tot_snoc p b (d :: r) a (by simpa using h)
    show mt p c d + tot p ((d :: r) ++ [b]) = mt p c d + tot p (d :: r) + mt p a b
    rw [ih]
    omega
theorem leg_one {k : Nat} {p : List LG} (hp : RightL k p) {x y : LG} (hx : x ∈ p) (hy : y ∈ p) (h0 : x.f0 = y.f0) (h1 : x.f1 = y.f1) : x = y := by
  obtain ⟨i, hi⟩ := List.mem_iff_getElem?.1 hx
  obtain ⟨j, hj⟩ := List.mem_iff_getElem?.1 hy
  have hc : cd x = cd y := by unfold cd; rw [h0, h1]
  rcases Nat.lt_trichotomy i j with h | h | h
  · have := hp.asc i j x y h hi hj
    omega
  · subst h
    rw [hi] at hj
    exact Option.some.inj hj
  · have := hp.asc j i y x h hj hi
    omega
theorem mt_leg {k : Nat} {p : List LG} (hp : RightL k p) {x : LG} (hx : x ∈ p) : mt p x.f0 x.f1 = x.f2 := by
  unfold mt
  cases h : p.find? (fun y => decide (y.f0 = x.f0 ∧ y.f1 = x.f1)) with
  | some y =>
    have h1' := List.find?_some (p := fun y : LG => decide (y.f0 = x.f0 ∧ y.f1 = x.f1)) h
    have h1 : y.f0 = x.f0 ∧ y.f1 = x.f1 := of_decide_eq_true h1'
    have h2 := List.mem_of_find?_eq_some h
    have := leg_one hp h2 hx h1.1 h1.2
    subst this
    rfl
  | none =>
    have := List.find?_eq_none.1 h x hx
    simp at this
def chain (p : List LG) (w : List ByteArray) : Prop := ∀ (i : Nat) a b, w[i]? = some a → w[i + 1]? = some b → ∃ x ∈ p, x.f0 = a ∧ x.f1 = b
instance : DecidableEq WY := fun a b => if h : a.f0 = b.f0 ∧ a.f1 = b.f1 then isTrue (by cases a; cases b; simp_all) else isFalse (fun e => h (by rw [e]; exact ⟨rfl, rfl⟩))
theorem f97_eq (k : Nat) {p : List LG} {tgt : ByteArray} {o : WM} (hI : Inv p tgt o) (x : LG) (hx : okL x) (hg : goodL x) (u v : Int) (out : List ByteArray) (cur : ByteArray) (hl : out.length ≤ 1000) (hl0 : 0 < out.length) (hc : out[out.length - 1]? = some cur) (hcn : cur ∈ nmL) :
    Fn.f97.F k (x.f0, x.f1, x.f2, u, v, o, out) = some (decide (x.f0 = cur ∧ has o x.f1 = true ∧ by' (val o x.f1) x = ⟨u, v⟩), u, v, o, out) := by
  unfold Fn.f97.F
  dsimp only
  rw [wr (x := (out.length : Int) - 1) (by omega) (by omega), if_pos (show 0 ≤ (out.length : Int) - 1 by omega), if_pos (show (out.length : Int) - 1 < (out.length : Int) by omega)]
  have e : ((out.length : Int) - 1).toNat = out.length - 1 := by omega
  rw [e, hc, Option.bind_some, eq_nm x.f0 cur hx.1 hcn]
  by_cases h1 : x.f0 = cur
  · rw [decide_eq_true h1]
    simp only [cond_true]
    cases h2 : has o x.f1 with
    | false =>
      rw [show mhas o (.string x.f1) = false from h2]
      simp [h1]
    | true =>
      rw [show mhas o (.string x.f1) = true from h2]
      simp only [cond_true]
      obtain ⟨_, d2, d3, d4, _⟩ := hI.dom x.f1 h2
      have hcl := card_le o
      obtain ⟨_, _, _, g4, g5⟩ := hg
      have e1 : Go.IntKind.wrap Go.IntKind.i64 (T.E144.f0 (mgetD o (.string x.f1) ⟨0, 0⟩) + x.f2) = (by' (val o x.f1) x).f0 := wr (x := (val o x.f1).f0 + x.f2) (by omega) (by omega)
      have e2 : Go.IntKind.wrap Go.IntKind.i64 (T.E144.f1 (mgetD o (.string x.f1) ⟨0, 0⟩) + 1) = (by' (val o x.f1) x).f1 := wr (x := (val o x.f1).f1 + 1) (by omega) (by omega)
      rw [e1, e2]
      generalize by' (val o x.f1) x = z
      cases z with
      | mk z0 z1 =>
        by_cases h3 : z0 = u <;> by_cases h4 : z1 = v <;> simp [h1, h3, h4]
  · rw [decide_eq_false h1]
    simp [h1]
theorem idx_leg (k : Nat) {p : List LG} (hp : RightL k p) {tgt : ByteArray} {o : WM} (hI : Inv p tgt o) (u v : Int) (out : List ByteArray) (cur : ByteArray) (hl : out.length ≤ 1000) (hl0 : 0 < out.length) (hc : out[out.length - 1]? = some cur) (hcn : cur ∈ nmL) :
    ∀ (dd n : Nat) (i : Int), dd = ((p.length : Int) - i).toNat → 0 ≤ i → i ≤ (p.length : Int) → dd < n → (∃ (j : Nat) (x : LG), i ≤ (j : Int) ∧ p[j]? = some x ∧ x.f0 = cur ∧ has o x.f1 = true ∧ by' (val o x.f1) x = ⟨u, v⟩) →
      Som (Fn.f34_97.l0 k (fun (t4, b2_0, b2_1, o3, o4) => some (t4, b2_0, b2_1, o3, o4)) (fun (b2_0, b2_1, o3, o4) => some ((-1), b2_0, b2_1, o3, o4)) n (p, (p.length : Int), i, u, v, o, out)) (fun r => r.2 = (u, v, o, out) ∧ 0 ≤ r.1 ∧ r.1 < (p.length : Int) ∧ ∃ x, p[r.1.toNat]? = some x ∧ x.f0 = cur ∧ has o x.f1 = true ∧ by' (val o x.f1) x = ⟨u, v⟩) := by
  intro dd
  induction dd with
  | zero =>
    intro n i hd hi0 hi1 hn ⟨j, x, h1, h2, _⟩
    have := (List.getElem?_eq_some_iff.1 h2).1
    omega
  | succ dd ih =>
    intro n i hd hi0 hi1 hn hex
    obtain ⟨m, rfl⟩ : ∃ q, n = q + 1 := ⟨n - 1, by omega⟩
    have hlt : i < (p.length : Int) := by omega
    have hln : i.toNat < p.length := by omega
    have hget : p[i.toNat]? = some p[i.toNat] := List.getElem?_eq_getElem hln
    have hmem : p[i.toNat] ∈ p := List.getElem_mem hln
    generalize hxe : p[i.toNat] = x at hget hmem
    have hl16 := hp.len
    show Som (Fn.f34_97.l0T k _ _ (Fn.f34_97.l0 k _ _ m) _) _
    unfold Fn.f34_97.l0T
    dsimp only
    refine Som.ct (decide_eq_true hlt) (Som.pos hi0 (Som.pos hlt ?_))
    rw [hget, Option.bind_some, f97_eq k hI x (hp.ok x hmem) (hp.good x hmem) u v out cur hl hl0 hc hcn, Option.bind_some]
    refine Som.cond (fun h => ?_) (fun h => ?_)
    · have h := of_decide_eq_true h
      exact Som.one ⟨rfl, hi0, hlt, x, hget, h⟩
    · have h := of_decide_eq_false h
      dsimp only
      rw [wr (x := i + 1) (by omega) (by omega)]
      refine ih m (i + 1) (by omega) (by omega) (by omega) (by omega) ?_
      obtain ⟨j, y, h1, h2, h3⟩ := hex
      refine ⟨j, y, ?_, h2, h3⟩
      by_cases hji : (j : Int) = i
      · exfalso
        have : j = i.toNat := by omega
        subst this
        rw [hget] at h2
        cases h2
        exact h h3
      · omega
theorem short_loop (k : Nat) (hk : 100 ≤ k) {p : List LG} (hp : RightL k p) {tgt : ByteArray} {o : WM} (hI : Inv p tgt o) (hf : ∀ x ∈ p, fixx o x) (a0 a1 : Int) (E : Int × Int × List ByteArray → Option (Int × List ByteArray × Bool × Int)) (Q : Int × List ByteArray × Bool × Int → Prop) (fr : ByteArray) (total : Int) :
    ∀ (L n : Nat) (cur : ByteArray) (out : List ByteArray), has o cur = true → (val o cur).f1 = (L : Int) → L < n → 0 < out.length → out.length + L ≤ 20 → out[out.length - 1]? = some cur → out[0]? = some fr → chain p out → tot p out + (val o cur).f0 = total →
      (∀ out', 0 < out'.length → out'.length = out.length + L → out'[out'.length - 1]? = some tgt → out'[0]? = some fr → chain p out' → tot p out' = total → Som (E (a0, a1, out')) Q) →
      Som (Fn.f33.l0 k E n (p, a0, a1, (val o cur).f0, (val o cur).f1, o, out)) Q := by
  intro L
  induction L with
  | zero =>
    intro n cur out hc hL hn hl0 hl hlast hfirst hch htot hE
    obtain ⟨m, rfl⟩ : ∃ q, n = q + 1 := ⟨n - 1, by omega⟩
    show Som (Fn.f33.l0T k E (Fn.f33.l0 k E m) _) Q
    unfold Fn.f33.l0T
    dsimp only
    have hcur : cur = tgt := by
      by_cases h : cur = tgt
      · exact h
      · have := (hI.dom cur hc).2.2.2.2 h
        omega
    subst hcur
    have h0 : (val o cur).f0 = 0 := by rw [hI.to2]
    exact Som.cf (decide_eq_false (by omega)) (hE out hl0 (by omega) hlast hfirst hch (by omega))
  | succ L ih =>
    intro n cur out hc hL hn hl0 hl hlast hfirst hch htot hE
    obtain ⟨m, rfl⟩ : ∃ q, n = q + 1 := ⟨n - 1, by omega⟩
    have hne : cur ≠ tgt := fun e => by
      rw [e, hI.to2] at hL
      have hL : (0 : Int) = ((L + 1 : Nat) : Int) := hL
      omega
    have hl16 := hp.len
    obtain ⟨x, x1, x2, x3, x4⟩ := eqleg hI hf hc hne
    obtain ⟨j, hj⟩ := List.mem_iff_getElem?.1 x1
    show Som (Fn.f33.l0T k E (Fn.f33.l0 k E m) _) Q
    unfold Fn.f33.l0T Fn.f34_97.F
    dsimp only
    refine Som.ct (decide_eq_true (by omega)) ?_
    refine Som.bind (idx_leg k hp hI (val o cur).f0 (val o cur).f1 out cur (by omega) hl0 hlast (hI.dom cur hc).1 _ k 0 rfl (by omega) (by omega) (by omega) ⟨j, x, by omega, hj, x2, x3, by rw [x4]⟩) (fun r hr => ?_)
    obtain ⟨r1, r2, r3, y, y1, y2, y3, y4⟩ := hr
    have hym : y ∈ p := List.mem_of_getElem? y1
    refine Som.pos r2 (Som.pos r3 ?_)
    rw [y1, Option.bind_some, r1]
    refine Som.pos (by simp only [List.length_cons, List.length_nil]; omega) (Som.pos r2 (Som.pos r3 ?_))
    rw [Option.bind_some]
    have hv1 : (val o y.f1).f1 + 1 = (val o cur).f1 := by
      have : (by' (val o y.f1) y).f1 = (val o cur).f1 := by rw [y4]
      exact this
    have hv0 : (val o y.f1).f0 + y.f2 = (val o cur).f0 := by
      have : (by' (val o y.f1) y).f0 = (val o cur).f0 := by rw [y4]
      exact this
    have hts := tot_snoc p y.f1 out cur hlast
    have hmt : mt p cur y.f1 = y.f2 := by rw [← y2]; exact mt_leg hp hym
    refine ih m y.f1 (out ++ [y.f1]) y3 (by omega) (by omega) (by simp) (by simp; omega) (by simp) (by rw [List.getElem?_append_left hl0]; exact hfirst) ?_ (by rw [hts, hmt]; omega) (fun out' q1 q2 => hE out' q1 (by simp at q2; omega))
    intro i a b ha hb
    by_cases hi : i + 1 < out.length
    · rw [List.getElem?_append_left (by omega)] at ha
      rw [List.getElem?_append_left hi] at hb
      exact hch i a b ha hb
    · have hb2 := (List.getElem?_eq_some_iff.1 hb).1
      simp at hb2
      have hi2 : i = out.length - 1 := by omega
      subst hi2
      rw [List.getElem?_append_left (by omega), hlast] at ha
      cases ha
      have e : out.length - 1 + 1 = out.length := by omega
      rw [e, List.getElem?_append_right (Nat.le_refl _), Nat.sub_self] at hb
      simp at hb
      exact ⟨y, hym, y2, hb⟩
theorem key_ok (k : Nat) (hk : 9223372036854775808 = k) (s : ByteArray) (hs : s ∈ nmL) (hne : s ≠ emp) : Fn.f95.F k s = some true := by
  rw [(key_nm k hk s hs).2, decide_eq_true hne]
structure Went (p : List LG) (fr tgt : ByteArray) (o : WM) (r : Int × List ByteArray × Bool × Int) : Prop where
  ok : r.2.2.2 = 0
  is : r.2.2.1 = has o fr
  n : has o fr = true → r.1 = (val o fr).f0 ∧ 0 < r.2.1.length ∧ r.2.1.length ≤ 5 ∧ r.2.1[0]? = some fr ∧ r.2.1[r.2.1.length - 1]? = some tgt ∧ chain p r.2.1 ∧ tot p r.2.1 = r.1
theorem short_som (k : Nat) (hk : 9223372036854775808 = k) (p : List LG) (hp : RightL k p) (fr tgt : ByteArray) (hfr : fr ∈ nmL) (hfe : fr ≠ emp) (ht : tgt ∈ nmL) (hte : tgt ≠ emp) (o : WM) (ho : Fn.f96.F k (p, tgt) = some o) (hoi : o = [] ∨ (Inv p tgt o ∧ ∀ x ∈ p, fixx o x)) :
    Som (Fn.f33.F k (p, fr, tgt)) (fun r => Went p fr tgt o r) := by
  unfold Fn.f33.F Fn.f33.l100005 Fn.f33.l100006
  dsimp only
  rw [hp.chk, Option.bind_some, key_ok k hk fr hfr hfe, Option.bind_some, key_ok k hk tgt ht hte, Option.bind_some, ho, Option.bind_some]
  have f0 : ((0 : Int) != 0) = false := rfl
  rw [f0]
  simp only [cond_false, Bool.not_true]
  refine Som.cond (fun h => ?_) (fun h => ?_)
  · have h : has o fr = false := by simpa using h
    exact Som.one ⟨rfl, h.symm, fun h' => by rw [h] at h'; cases h'⟩
  · have h : has o fr = true := by simpa using h
    rcases hoi with rfl | ⟨hI, hf⟩
    · cases h
    · have h4 := legs_four hI hf fr h
      obtain ⟨_, d2, _, _, _⟩ := hI.dom fr h
      refine short_loop k (by omega) hp hI hf _ _ _ _ fr (val o fr).f0 (val o fr).f1.toNat k fr [fr] h (by omega) (by omega) (by simp) (by simp; omega) rfl rfl (fun i a b ha hb => ?_) (by show 0 + _ = _; omega) (fun out' q1 q2 q3 q4 q5 q6 => Som.one ⟨rfl, h.symm, fun _ => ⟨rfl, q1, by show out'.length ≤ 5; simp at q2; omega, q4, q3, q5, q6⟩⟩)
      simp at hb
theorem tri {p : List LG} {by_ tgt : ByteArray} {o o2 : WM} (hI : Inv p tgt o) (hf : ∀ x ∈ p, fixx o x) (hI2 : Inv p by_ o2) (hf2 : ∀ x ∈ p, fixx o2 x) (hb : has o by_ = true) : ∀ (L : Nat) (q : ByteArray), has o2 q = true → (val o2 q).f1 = (L : Int) → has o q = true ∧ (val o q).f0 ≤ (val o2 q).f0 + (val o by_).f0 := by
  intro L
  induction L with
  | zero =>
    intro q hq hL
    have hqb : q = by_ := by
      by_cases h : q = by_
      · exact h
      · have := (hI2.dom q hq).2.2.2.2 h
        omega
    subst hqb
    refine ⟨hb, ?_⟩
    rw [hI2.to2]
    show (val o q).f0 ≤ 0 + (val o q).f0
    omega
  | succ L ih =>
    intro q hq hL
    have hne : q ≠ by_ := fun e => by
      rw [e, hI2.to2] at hL
      have hL : (0 : Int) = ((L + 1 : Nat) : Int) := hL
      omega
    obtain ⟨x, x1, x2, x3, x4⟩ := eqleg hI2 hf2 hq hne
    have hv1 : (val o2 x.f1).f1 + 1 = (val o2 q).f1 := by
      have : (by' (val o2 x.f1) x).f1 = (val o2 q).f1 := by rw [x4]
      exact this
    have hv0 : (val o2 x.f1).f0 + x.f2 = (val o2 q).f0 := by
      have : (by' (val o2 x.f1) x).f0 = (val o2 q).f0 := by rw [x4]
      exact this
    obtain ⟨h1, h2⟩ := ih x.f1 x3 (by omega)
    obtain ⟨h3, h4⟩ := hf x x1 h1
    rw [x2] at h3 h4
    refine ⟨h3, ?_⟩
    unfold lt by' at h4
    dsimp only at h4
    omega

theorem f35_eq (k : Nat) (x : LG) (hx : okL x) (w : List ByteArray) (i : Int) (a b : ByteArray) (h1 : 1 ≤ i) (h2 : i < (w.length : Int)) (hl : w.length ≤ 1000) (ha : w[i.toNat - 1]? = some a) (hb : w[i.toNat]? = some b) (han : a ∈ nmL) (hbn : b ∈ nmL) :
    Fn.f35.F k (x.f0, x.f1, x.f2, w, i) = some (decide (x.f0 = a ∧ x.f1 = b), w, i) := by
  unfold Fn.f35.F
  dsimp only
  have e : (i - 1).toNat = i.toNat - 1 := by omega
  rw [wr (x := i - 1) (by omega) (by omega), if_pos (show 0 ≤ i - 1 by omega), if_pos (show i - 1 < (w.length : Int) by omega), e, ha, Option.bind_some, eq_nm x.f0 a hx.1 han]
  by_cases h3 : x.f0 = a
  · rw [decide_eq_true h3]
    simp only [cond_true]
    rw [if_pos (show 0 ≤ i by omega), if_pos h2, hb, Option.bind_some, eq_nm x.f1 b hx.2.1 hbn]
    simp [h3]
  · rw [decide_eq_false h3]
    simp [h3]
theorem idx_pair (k : Nat) {p : List LG} (hp : RightL k p) (w : List ByteArray) (i0 : Int) (a b : ByteArray) (h1 : 1 ≤ i0) (h2 : i0 < (w.length : Int)) (hl : w.length ≤ 1000) (ha : w[i0.toNat - 1]? = some a) (hb : w[i0.toNat]? = some b) (han : a ∈ nmL) (hbn : b ∈ nmL) :
    ∀ (dd n : Nat) (i : Int), dd = ((p.length : Int) - i).toNat → 0 ≤ i → i ≤ (p.length : Int) → dd < n → (∃ (j : Nat) (x : LG), i ≤ (j : Int) ∧ p[j]? = some x ∧ x.f0 = a ∧ x.f1 = b) →
      Som (Fn.f34_35.l0 k (fun (t4, b0_0, b1_0) => some (t4, b0_0, b1_0)) (fun (b0_0, b1_0) => some ((-1), b0_0, b1_0)) n (p, (p.length : Int), i, w, i0)) (fun r => r.2 = (w, i0) ∧ 0 ≤ r.1 ∧ r.1 < (p.length : Int) ∧ ∃ x, p[r.1.toNat]? = some x ∧ x.f0 = a ∧ x.f1 = b) := by
  intro dd
  induction dd with
  | zero =>
    intro n i hd hi0 hi1 hn ⟨j, x, q1, q2, _⟩
    have := (List.getElem?_eq_some_iff.1 q2).1
    omega
  | succ dd ih =>
    intro n i hd hi0 hi1 hn hex
    obtain ⟨m, rfl⟩ : ∃ q, n = q + 1 := ⟨n - 1, by omega⟩
    have hlt : i < (p.length : Int) := by omega
    have hln : i.toNat < p.length := by omega
    have hget : p[i.toNat]? = some p[i.toNat] := List.getElem?_eq_getElem hln
    have hmem : p[i.toNat] ∈ p := List.getElem_mem hln
    generalize hxe : p[i.toNat] = x at hget hmem
    have hl16 := hp.len
    show Som (Fn.f34_35.l0T k _ _ (Fn.f34_35.l0 k _ _ m) _) _
    unfold Fn.f34_35.l0T
    dsimp only
    refine Som.ct (decide_eq_true hlt) (Som.pos hi0 (Som.pos hlt ?_))
    rw [hget, Option.bind_some, f35_eq k x (hp.ok x hmem) w i0 a b h1 h2 hl ha hb han hbn, Option.bind_some]
    refine Som.cond (fun h => ?_) (fun h => ?_)
    · have h := of_decide_eq_true h
      exact Som.one ⟨rfl, hi0, hlt, x, hget, h⟩
    · have h := of_decide_eq_false h
      dsimp only
      rw [wr (x := i + 1) (by omega) (by omega)]
      refine ih m (i + 1) (by omega) (by omega) (by omega) (by omega) ?_
      obtain ⟨j, y, q1, q2, q3⟩ := hex
      refine ⟨j, y, ?_, q2, q3⟩
      by_cases hji : (j : Int) = i
      · exfalso
        have : j = i.toNat := by omega
        subst this
        rw [hget] at q2
        cases q2
        exact h q3
      · omega
theorem sum_loop (k : Nat) (hk : 100 ≤ k) {p : List LG} (hp : RightL k p) (w : List ByteArray) (hw : w.length ≤ 5) (hch : chain p w) (fr tgt : ByteArray) (nn : Int) (E0 : Bool → Option Bool) (E1 : ByteArray × ByteArray × Int × Int × List ByteArray → Option Bool) (Q : Bool → Prop) (hE : Som (E1 (fr, tgt, nn, tot p w, w)) Q) :
    ∀ (d n : Nat) (i s : Int), d = ((w.length : Int) - i).toNat → 1 ≤ i → i ≤ (w.length : Int) → d < n → s = tot p (w.take i.toNat) → 0 ≤ s → s ≤ 100000000 * i → Som (Fn.f4.l0 k E0 E1 n (p, fr, tgt, nn, s, w, i)) Q := by
  intro d
  induction d with
  | zero =>
    intro n i s hd h0 h1 hn hs hs0 hs1
    obtain ⟨m, rfl⟩ : ∃ q, n = q + 1 := ⟨n - 1, by omega⟩
    show Som (Fn.f4.l0T k E0 E1 (Fn.f4.l0 k E0 E1 m) _) Q
    unfold Fn.f4.l0T
    dsimp only
    have e : i.toNat = w.length := by omega
    rw [e, List.take_length] at hs
    rw [hs]
    exact Som.cf (decide_eq_false (by omega)) hE
  | succ d ih =>
    intro n i s hd h0 h1 hn hs hs0 hs1
    obtain ⟨m, rfl⟩ : ∃ q, n = q + 1 := ⟨n - 1, by omega⟩
    have hlt : i < (w.length : Int) := by omega
    have hin : i.toNat < w.length := by omega
    have hin1 : i.toNat - 1 < w.length := by omega
    have hb : w[i.toNat]? = some w[i.toNat] := List.getElem?_eq_getElem hin
    have ha : w[i.toNat - 1]? = some w[i.toNat - 1] := List.getElem?_eq_getElem hin1
    generalize hbe : w[i.toNat] = b at hb
    generalize hae : w[i.toNat - 1] = a at ha
    obtain ⟨x, x1, x2, x3⟩ := hch (i.toNat - 1) a b ha (by rw [show i.toNat - 1 + 1 = i.toNat by omega]; exact hb)
    have hxo := hp.ok x x1
    obtain ⟨j, hj⟩ := List.mem_iff_getElem?.1 x1
    have hl16 := hp.len
    show Som (Fn.f4.l0T k E0 E1 (Fn.f4.l0 k E0 E1 m) _) Q
    unfold Fn.f4.l0T Fn.f34_35.F
    dsimp only
    refine Som.ct (decide_eq_true hlt) ?_
    refine Som.bind (idx_pair k hp w i a b h0 hlt (by omega) ha hb (by rw [← x2]; exact hxo.1) (by rw [← x3]; exact hxo.2.1) _ k 0 rfl (by omega) (by omega) (by omega) ⟨j, x, by omega, hj, x2, x3⟩) (fun r hr => ?_)
    obtain ⟨r1, r2, r3, y, y1, y2, y3⟩ := hr
    have hym : y ∈ p := List.mem_of_getElem? y1
    refine Som.cf (decide_eq_false (by omega)) (Som.pos r2 (Som.pos r3 ?_))
    rw [y1, Option.bind_some, r1]
    obtain ⟨_, _, _, g4, g5⟩ := hp.good y hym
    have hmt : mt p a b = y.f2 := by rw [← y2, ← y3]; exact mt_leg hp hym
    have htk : w.take (i + 1).toNat = w.take i.toNat ++ [b] := by
      have e : (i + 1).toNat = i.toNat + 1 := by omega
      rw [e, List.take_add_one, hb]
      rfl
    have hla : (w.take i.toNat)[(w.take i.toNat).length - 1]? = some a := by
      have e : (w.take i.toNat).length = i.toNat := by rw [List.length_take]; omega
      rw [e, List.getElem?_take, if_pos (by omega)]
      exact ha
    have hts : tot p (w.take (i + 1).toNat) = s + y.f2 := by rw [htk, tot_snoc p b _ a hla, hmt, hs]
    dsimp only
    rw [wr (x := s + y.f2) (by omega) (by omega), wr (x := i + 1) (by omega) (by omega)]
    exact ih m (i + 1) (s + y.f2) (by omega) (by omega) (by omega) (by omega) hts.symm (by omega) (by omega)
theorem nm_of (s : ByteArray) (h : s ∈ [bonn, jena, kiel, ulm]) : s ∈ nmL ∧ s ≠ emp := by
  simp only [List.mem_cons, List.not_mem_nil, or_false] at h
  rcases h with rfl | rfl | rfl | rfl <;> exact ⟨by simp [nmL], by decide⟩
theorem law_k (k : Nat) (hk : 9223372036854775808 = k) (l : List Int) (hl : l.length ≤ 1125899906842624) : Som (Fn.f4.F k l) (fun r => r = true) := by
  unfold Fn.f4.F
  dsimp only
  refine Som.bind (legs_som k (by omega) l 0 hl (by omega) (by omega)) (fun p hp => ?_)
  obtain ⟨p1, p2, p3, p4, p5⟩ := hp
  rw [p1]
  refine Som.bind (some_som k l _ _ hl (by omega) (by omega) (by simp) (by simp)) (fun fr hfr => ?_)
  rw [hfr.1]
  refine Som.bind (some_som k l _ _ hl (by omega) (by omega) (by simp) (by simp)) (fun tgt htg => ?_)
  rw [htg.1]
  refine Som.bind (some_som k l _ _ hl (by omega) (by omega) (by simp) (by simp)) (fun by_ hby => ?_)
  obtain ⟨v, v1, v2⟩ := legs_right k hk p.1 p4 p5
  rw [v1, Option.bind_some]
  refine Som.cond (fun _ => Som.one rfl) (fun hv => ?_)
  have hv : v = 0 := by simpa using hv
  have hR := v2 hv
  have hf1 : fr.1 ∈ nmL ∧ fr.1 ≠ emp := by
    have := hfr.2.2
    simp only [List.mem_cons, List.not_mem_nil, or_false] at this
    rcases this with h | h <;> rw [h] <;> exact nm_of _ (by simp [bonn, jena, kiel, ulm])
  have ht1 : tgt.1 ∈ nmL ∧ tgt.1 ≠ emp := by
    have := htg.2.2
    simp only [List.mem_cons, List.not_mem_nil, or_false] at this
    rcases this with h | h <;> rw [h] <;> exact nm_of _ (by simp [bonn, jena, kiel, ulm])
  have hb1 : by_.1 ∈ nmL ∧ by_.1 ≠ emp := by
    have := hby.2.2
    simp only [List.mem_cons, List.not_mem_nil, or_false] at this
    rcases this with h | h | h | h <;> rw [h] <;> exact nm_of _ (by simp [bonn, jena, kiel, ulm])
  have hft : fr.1 ≠ tgt.1 := by
    have h1 := hfr.2.2
    have h2 := htg.2.2
    simp only [List.mem_cons, List.not_mem_nil, or_false] at h1 h2
    rcases h1 with h | h <;> rcases h2 with h' | h' <;> rw [h, h'] <;> decide
  obtain ⟨o, ho, hoi⟩ := ways_som k hk p.1 hR tgt.1 ht1.1
  obtain ⟨o2, ho2, hoi2⟩ := ways_som k hk p.1 hR by_.1 hb1.1
  obtain ⟨a, ha, hA⟩ := short_som k hk p.1 hR fr.1 tgt.1 hf1.1 hf1.2 ht1.1 ht1.2 o ho hoi
  obtain ⟨b, hb, hB⟩ := short_som k hk p.1 hR fr.1 by_.1 hf1.1 hf1.2 hb1.1 hb1.2 o2 ho2 hoi2
  obtain ⟨c, hc, hC⟩ := short_som k hk p.1 hR by_.1 tgt.1 hb1.1 hb1.2 ht1.1 ht1.2 o ho hoi
  rw [ha, Option.bind_some, hb, Option.bind_some, hc, Option.bind_some, hA.ok, hB.ok, hC.ok]
  have f0 : ((0 : Int) != 0) = false := rfl
  rw [f0]
  simp only [cond_false]
  have fin : Som (Fn.f4.l100009 k (fun t2 => some t2) (fun (t4, t5, t6, t8, t10, b0_0) => Fn.f4.l100010 k (fun t2 => some t2) (t4, t5, t6, t8, t10, b0_0)) (p.1, fr.1, tgt.1, a.1, a.2.2.1, Bool.false, a.2.1)) (fun r => r = true) := by
    unfold Fn.f4.l100009 Fn.f4.l100010
    dsimp only
    simp only [cond_false]
    refine Som.cond (fun _ => Som.one rfl) (fun h => ?_)
    have h : has o fr.1 = true := by rw [← hA.is]; simpa using h
    obtain ⟨n1, n2, n3, n4, n5, n6, n7⟩ := hA.n h
    have hlen : 1 < a.2.1.length := by
      rcases Nat.lt_or_ge 1 a.2.1.length with h | h
      · exact h
      · exfalso
        have e : a.2.1.length - 1 = 0 := by omega
        rw [e, n4] at n5
        exact hft (Option.some.inj n5)
    have ht0 : tot p.1 (a.2.1.take 1) = 0 := by
      match a.2.1, n2 with
      | x :: r, _ => rfl
    refine sum_loop k (by omega) hR a.2.1 n3 n6 fr.1 tgt.1 a.1 _ _ _ ?_ _ k 1 0 rfl (by omega) (by omega) (by omega) ht0.symm (by omega) (by omega)
    dsimp only
    rw [n7]
    refine Som.ct (by simp) (Som.ct (decide_eq_true (by omega)) (Som.pos (by omega) ?_))
    have e0 : (0 : Int).toNat = 0 := rfl
    rw [e0, n4, Option.bind_some, eq_nm fr.1 fr.1 hf1.1 hf1.1]
    refine Som.ct (decide_eq_true rfl) ?_
    rw [wr (x := (a.2.1.length : Int) - 1) (by omega) (by omega)]
    refine Som.pos (by omega) (Som.pos (by omega) ?_)
    have e1 : ((a.2.1.length : Int) - 1).toNat = a.2.1.length - 1 := by omega
    rw [e1, n5, Option.bind_some, eq_nm tgt.1 tgt.1 ht1.1 ht1.1]
    exact Som.ct (decide_eq_true rfl) (Som.one rfl)
  refine Som.cond (fun h1 => Som.cond (fun h2 => ?_) (fun _ => fin)) (fun _ => fin)
  have h1 : has o2 fr.1 = true := by rw [← hB.is]; exact h1
  have h2 : has o by_.1 = true := by rw [← hC.is]; exact h2
  rcases hoi with rfl | ⟨hI, hf⟩
  · cases h2
  rcases hoi2 with rfl | ⟨hI2, hf2⟩
  · cases h1
  obtain ⟨_, d2, d3, d4, _⟩ := hI2.dom fr.1 h1
  obtain ⟨_, e2, e3, e4, _⟩ := hI.dom by_.1 h2
  have c1 := card_le o
  have c2 := card_le o2
  obtain ⟨t1, t2⟩ := tri hI hf hI2 hf2 h2 (val o2 fr.1).f1.toNat fr.1 h1 (by omega)
  have hA1 := (hA.n t1).1
  have hB1 := (hB.n h1).1
  have hC1 := (hC.n h2).1
  rw [hA.is, t1]
  simp only [Bool.not_true, cond_false]
  rw [hA1, hB1, hC1, wr (x := (val o2 fr.1).f0 + (val o by_.1).f0) (by omega) (by omega), decide_eq_false (by omega)]
  rw [hA.is, t1, hA1] at fin
  exact fin
theorem law_pure (l : List Int) (hl : l.length ≤ 1125899906842624) : ∃ k, Fn.f4.F k l = some true := by
  obtain ⟨r, h, rfl⟩ := law_k 9223372036854775808 rfl l hl
  exact ⟨9223372036854775808, h⟩

end Pure
