/-
  The plain law: what the function computes is true. No program in sight. Condition: the row is no longer than memory.
-/
import Derived.Test.YtdagocpgefjmdaaGreatDoorInF40
import Derived.KernelRfl
set_option linter.unusedVariables false
set_option linter.unusedSectionVars false
set_option linter.unusedSimpArgs false
open Go Go.M Go.Proofs T
set_option linter.unusedVariables false
set_option maxRecDepth 100000
namespace Pure
def Som {α : Type} (o : Option α) (P : α → Prop) : Prop := ∃ r, o = some r ∧ P r
def Tot {α : Type} (g : Nat → Option α) (P : α → Prop) : Prop := ∃ r, P r ∧ ∃ K, ∀ k, K ≤ k → g k = some r
theorem Som.tot {α : Type} {o : Option α} {P : α → Prop} (h : Som o P) : Tot (fun _ => o) P := by
  obtain ⟨r, h, hp⟩ := h
  exact ⟨r, hp, 0, fun _ _ => h⟩
theorem Som.mono {α : Type} {o : Option α} {P Q : α → Prop} (h : Som o P) (i : ∀ r, P r → Q r) : Som o Q := by
  obtain ⟨r, h, hp⟩ := h
  exact ⟨r, h, i r hp⟩
theorem Tot.mono {α : Type} {g : Nat → Option α} {P Q : α → Prop} (h : Tot g P) (i : ∀ r, P r → Q r) : Tot g Q := by
  obtain ⟨r, hp, h⟩ := h
  exact ⟨r, i r hp, h⟩
theorem Som.one {α : Type} {r : α} {P : α → Prop} (h : P r) : Som (some r) P := ⟨r, rfl, h⟩
theorem Tot.one {α : Type} {r : α} {P : α → Prop} (h : P r) : Tot (fun _ => some r) P := ⟨r, h, 0, fun _ _ => rfl⟩
theorem Som.bind {α β : Type} {o : Option α} {f : α → Option β} {P : α → Prop} {Q : β → Prop} (h : Som o P) (i : ∀ a, P a → Som (f a) Q) : Som (o.bind f) Q := by
  obtain ⟨r, rfl, hp⟩ := h
  exact i r hp
theorem Tot.bind {α β : Type} {g : Nat → Option α} {f : Nat → α → Option β} {P : α → Prop} {Q : β → Prop} (h : Tot g P) (i : ∀ a, P a → Tot (fun k => f k a) Q) : Tot (fun k => (g k).bind (f k)) Q := by
  obtain ⟨r, hp, K, hK⟩ := h
  obtain ⟨s, hq, L, hL⟩ := i r hp
  refine ⟨s, hq, max K L, fun k hk => ?_⟩
  show (g k).bind (f k) = some s
  rw [hK k (by omega)]
  exact hL k (by omega)
theorem Tot.bind0 {α β : Type} {o : Option α} {f : Nat → α → Option β} {P : α → Prop} {Q : β → Prop} (h : Som o P) (i : ∀ a, P a → Tot (fun k => f k a) Q) : Tot (fun k => o.bind (f k)) Q := Tot.bind h.tot i
theorem Tot.succ {α : Type} {g : Nat → Option α} {P : α → Prop} (h : Tot (fun k => g (k + 1)) P) : Tot g P := by
  obtain ⟨r, hp, K, hK⟩ := h
  refine ⟨r, hp, K + 1, fun k hk => ?_⟩
  obtain ⟨m, rfl⟩ : ∃ m, k = m + 1 := ⟨k - 1, by omega⟩
  exact hK m (by omega)
theorem Tot.pos {α : Type} {c : Prop} [Decidable c] {g f : Nat → Option α} {P : α → Prop} (hc : c) (h : Tot g P) : Tot (fun k => if c then g k else f k) P := by simpa only [if_pos hc] using h
theorem Tot.neg {α : Type} {c : Prop} [Decidable c] {g f : Nat → Option α} {P : α → Prop} (hc : ¬ c) (h : Tot f P) : Tot (fun k => if c then g k else f k) P := by simpa only [if_neg hc] using h
theorem Tot.ite {α : Type} {c : Prop} [Decidable c] {g f : Nat → Option α} {P : α → Prop} (h : c → Tot g P) (i : ¬ c → Tot f P) : Tot (fun k => if c then g k else f k) P := by
  by_cases hc : c
  · exact Tot.pos hc (h hc)
  · exact Tot.neg hc (i hc)
theorem Som.pos {α : Type} {c : Prop} [Decidable c] {o p : Option α} {P : α → Prop} (hc : c) (h : Som o P) : Som (if c then o else p) P := by rwa [if_pos hc]
theorem Som.neg {α : Type} {c : Prop} [Decidable c] {o p : Option α} {P : α → Prop} (hc : ¬ c) (h : Som p P) : Som (if c then o else p) P := by rwa [if_neg hc]
theorem Som.ite {α : Type} {c : Prop} [Decidable c] {o p : Option α} {P : α → Prop} (h : c → Som o P) (i : ¬ c → Som p P) : Som (if c then o else p) P := by
  by_cases hc : c
  · exact Som.pos hc (h hc)
  · exact Som.neg hc (i hc)
theorem Tot.ex {g : Nat → Option Bool} (h : Tot g (fun r => r = true)) : ∃ k, g k = some true := by
  obtain ⟨r, rfl, K, hK⟩ := h
  exact ⟨K, hK K (Nat.le_refl _)⟩
theorem Som.cond {α : Type} {c : Bool} {o p : Option α} {P : α → Prop} (h : c = true → Som o P) (i : c = false → Som p P) : Som (_root_.cond c o p) P := by
  cases c
  · exact i rfl
  · exact h rfl
theorem Tot.cond {α : Type} {c : Bool} {g f : Nat → Option α} {P : α → Prop} (h : c = true → Tot g P) (i : c = false → Tot f P) : Tot (fun k => _root_.cond c (g k) (f k)) P := by
  cases c
  · exact i rfl
  · exact h rfl
theorem wr {x : Int} (h0 : -9223372036854775808 ≤ x) (h1 : x ≤ 9223372036854775807) : IntKind.wrap .i64 x = x := by
  have e : IntKind.wrap .i64 x = if x % 18446744073709551616 ≥ 9223372036854775808 then x % 18446744073709551616 - 18446744073709551616 else x % 18446744073709551616 := by
    simp [IntKind.wrap, IntKind.bits, IntKind.signed]
  rw [e]
  split <;> omega
theorem wrn {m : Nat} (h : m ≤ 9223372036854775807) : IntKind.wrap .i64 (m : Int) = (m : Int) := wr (by omega) (by omega)
theorem ctrue {c : Bool} {α : Type} {a b : α} (h : c = true) : _root_.cond c a b = a := by rw [h]; rfl
theorem cfalse {c : Bool} {α : Type} {a b : α} (h : c = false) : _root_.cond c a b = b := by rw [h]; rfl
theorem Som.ct {α : Type} {c : Bool} {o p : Option α} {P : α → Prop} (hc : c = true) (h : Som o P) : Som (_root_.cond c o p) P := by rw [hc]; exact h
theorem Som.cf {α : Type} {c : Bool} {o p : Option α} {P : α → Prop} (hc : c = false) (h : Som p P) : Som (_root_.cond c o p) P := by rw [hc]; exact h

theorem below_som (k : Nat) (x n : Int) (hn : n ≤ 4611686018427387904) : Som (Fn.f91.F k (x, n)) (fun r => (n < 1 → r = 0) ∧ (1 ≤ n → 0 ≤ r ∧ r < n)) := by
  unfold Fn.f91.F
  dsimp only
  refine Som.cond (fun h => ?_) (fun h => ?_)
  · have h := of_decide_eq_true h
    exact Som.one ⟨fun _ => rfl, fun h' => by omega⟩
  · have h := of_decide_eq_false h
    have h1 := Int.tmod_lt_of_pos x (show 0 < n by omega)
    have h2 := Int.lt_tmod_of_pos x (show 0 < n by omega)
    refine Som.neg (by omega) (Som.cond (fun h3 => ?_) (fun h3 => ?_))
    · have h3 := of_decide_eq_true h3
      rw [wr (by omega) (by omega)]
      exact Som.one ⟨fun h' => by omega, fun _ => by omega⟩
    · have h3 := of_decide_eq_false h3
      exact Som.one ⟨fun h' => by omega, fun _ => by omega⟩
theorem next_som (k : Nat) (l : List Int) (at_ n : Int) (hl : l.length ≤ 1125899906842624) (h0 : 0 ≤ at_) (h1 : at_ ≤ 1000000) (hn : n ≤ 4611686018427387904) :
    Som (Fn.f41.F k (l, at_, n)) (fun r => r.2.1 = l ∧ r.2.2 = at_ + 1 ∧ (n < 1 → r.1 = 0) ∧ (1 ≤ n → 0 ≤ r.1 ∧ r.1 < n)) := by
  unfold Fn.f41.F
  dsimp only
  rw [wr (x := at_ + 1) (by omega) (by omega)]
  have e : IntKind.wrap .i64 (at_ + 1 - 1) = at_ := by rw [wr] <;> omega
  rw [e]
  refine Som.cond (fun h => ?_) (fun h => ?_)
  · exact Som.bind (below_som k _ n hn) (fun a ha => Som.one ⟨rfl, rfl, ha.1, ha.2⟩)
  · have h : ¬ (l.length : Int) = 0 := by simpa using h
    have h2 := Int.tmod_lt_of_pos at_ (show 0 < (l.length : Int) by omega)
    have h3 := Int.tmod_nonneg (l.length : Int) h0
    refine Som.neg h (Som.neg h (Som.pos h3 (Som.pos h2 ?_)))
    have hlt : (Int.tmod at_ (l.length : Int)).toNat < l.length := by omega
    refine Som.bind (P := fun _ => True) ⟨l[(Int.tmod at_ (l.length : Int)).toNat], List.getElem?_eq_getElem hlt, trivial⟩ (fun y _ => ?_)
    refine Som.bind (below_som k _ _ (by omega)) (fun a _ => Som.bind (below_som k _ n hn) (fun b hb => Som.one ⟨rfl, rfl, hb.1, hb.2⟩))
theorem range_som (k : Nat) (l : List Int) (at_ lo hi : Int) (hl : l.length ≤ 1125899906842624) (h0 : 0 ≤ at_) (h1 : at_ ≤ 1000000) (b0 : -2199023255552 ≤ lo) (b1 : lo ≤ 2199023255552) (b2 : -2199023255552 ≤ hi) (b3 : hi ≤ 2199023255552) :
    Som (Fn.f29.F k (l, at_, lo, hi)) (fun r => r.2.1 = l ∧ at_ ≤ r.2.2 ∧ r.2.2 ≤ at_ + 1 ∧ lo ≤ r.1 ∧ (r.1 ≤ hi ∨ hi < lo ∧ r.1 = lo)) := by
  unfold Fn.f29.F
  dsimp only
  refine Som.cond (fun h => ?_) (fun h => ?_)
  · have h := of_decide_eq_true h
    exact Som.one ⟨rfl, by simp, by simp; omega, by simp, .inr ⟨h, rfl⟩⟩
  · have h := of_decide_eq_false h
    rw [wr (x := hi - lo) (by omega) (by omega), wr (x := hi - lo + 1) (by omega) (by omega)]
    refine Som.bind (next_som k l at_ _ hl h0 h1 (by omega)) (fun a ha => ?_)
    have h2 := ha.2.2.2 (by omega)
    rw [wr (by omega) (by omega)]
    exact Som.one ⟨ha.1, by have := ha.2.1; simp; omega, by have := ha.2.1; simp; omega, by simp; omega, .inl (by simp; omega)⟩
theorem flip_som (k : Nat) (l : List Int) (at_ n : Int) (hl : l.length ≤ 1125899906842624) (h0 : 0 ≤ at_) (h1 : at_ ≤ 1000000) (hn : n ≤ 4611686018427387904) :
    Som (Fn.f40.F k (l, at_, n)) (fun r => r.2.1 = l ∧ r.2.2 = at_ + 1) := by
  unfold Fn.f40.F
  dsimp only
  exact Som.bind (next_som k l at_ n hl h0 h1 hn) (fun a ha => Som.one ⟨ha.1, ha.2.1⟩)
theorem rd_som {α : Type} (xs : List α) (i : Int) (h0 : 0 ≤ i) (h1 : i < (xs.length : Int)) : Som (xs[i.toNat]?) (fun y => y ∈ xs) := by
  have : i.toNat < xs.length := by omega
  exact ⟨xs[i.toNat], List.getElem?_eq_getElem this, List.getElem_mem _⟩
theorem pick_som (k : Nat) (l : List Int) (at_ : Int) (xs : List Int) (hl : l.length ≤ 1125899906842624) (h0 : 0 ≤ at_) (h1 : at_ ≤ 1000000) (hx : 0 < xs.length) (hx2 : xs.length ≤ 1000000) :
    Som (Fn.f39.F k (l, at_, xs)) (fun r => r.2.1 = l ∧ r.2.2 = at_ + 1 ∧ r.1 ∈ xs) := by
  unfold Fn.f39.F
  dsimp only
  refine Som.bind (next_som k l at_ _ hl h0 h1 (by omega)) (fun a ha => ?_)
  have h2 := ha.2.2.2 (by omega)
  exact Som.pos h2.1 (Som.pos h2.2 (Som.bind (rd_som xs a.1 h2.1 h2.2) (fun y hy => Som.one ⟨ha.1, ha.2.1, hy⟩)))
theorem odd_som (k : Nat) (l : List Int) (at_ lo hi : Int) (hl : l.length ≤ 1125899906842624) (h0 : 0 ≤ at_) (h1 : at_ ≤ 900000) (b0 : -1099511627776 ≤ lo) (b1 : lo ≤ 1099511627776) (b2 : -1099511627776 ≤ hi) (b3 : hi ≤ 1099511627776) :
    Som (Fn.f73.F k (l, at_, lo, hi)) (fun r => r.2.1 = l ∧ at_ ≤ r.2.2 ∧ r.2.2 ≤ at_ + 2 ∧ (r.1 ∈ [lo - 1, hi + 1, lo, hi, -1099511627776, 1099511627776] ∨ lo ≤ r.1 ∧ (r.1 ≤ hi ∨ hi < lo ∧ r.1 = lo))) := by
  unfold Fn.f73.F
  dsimp only
  refine Som.bind (flip_som k l at_ 12 hl h0 (by omega) (by omega)) (fun a ha => Som.cond (fun _ => ?_) (fun _ => ?_))
  · rw [wr (x := lo - 1) (by omega) (by omega), wr (x := hi + 1) (by omega) (by omega), ha.1]
    refine Som.bind (pick_som k l _ _ hl (by omega) (by omega) (by simp) (by simp)) (fun b hb => Som.one ⟨hb.1, by have := hb.2.1; simp; omega, by have := hb.2.1; simp; omega, .inl hb.2.2⟩)
  · rw [ha.1]
    refine Som.bind (range_som k l _ lo hi hl (by omega) (by omega) (by omega) (by omega) (by omega) (by omega)) (fun b hb => Som.one ⟨hb.1, by have := hb.2; simp; omega, by have := hb.2; simp; omega, .inr hb.2.2.2⟩)

def okI (a b c d : Int) : Prop := (-24 ≤ a ∧ a ≤ 24) ∧ (-10 ≤ b ∧ b ≤ 10) ∧ (-5 ≤ c ∧ c ≤ 5) ∧ (-3 ≤ d ∧ d ≤ 3)
instance (a b c d : Int) : Decidable (okI a b c d) := by unfold okI; infer_instance
theorem outside_in (k : Nat) {x lo hi : Int} (h1 : lo ≤ x ∧ x ≤ hi) : Fn.f85.F k (x, lo, hi) = some false := by
  unfold Fn.f85.F
  dsimp only
  rw [decide_eq_false (by omega), decide_eq_false (by omega)]
  rfl
theorem outside_out (k : Nat) {x lo hi : Int} (h1 : ¬ (lo ≤ x ∧ x ≤ hi)) : Fn.f85.F k (x, lo, hi) = some true := by
  unfold Fn.f85.F
  dsimp only
  by_cases h : x < lo
  · rw [decide_eq_true h]
    rfl
  · rw [decide_eq_false h, decide_eq_true (show x > hi by omega)]
    rfl
theorem check_eq (k : Nat) (a b c d : Int) : Fn.f79.F k (a, b, c, d) = some (if okI a b c d then 0 else 1) := by
  unfold Fn.f79.F
  dsimp only
  by_cases ha : -24 ≤ a ∧ a ≤ 24
  · by_cases hb : -10 ≤ b ∧ b ≤ 10
    · by_cases hc : -5 ≤ c ∧ c ≤ 5
      · by_cases hd : -3 ≤ d ∧ d ≤ 3
        · rw [outside_in k ha, outside_in k hb, outside_in k hc, outside_in k hd, if_pos ⟨ha, hb, hc, hd⟩]
          rfl
        · rw [outside_in k ha, outside_in k hb, outside_in k hc, outside_out k hd, if_neg (fun h => hd h.2.2.2)]
          rfl
      · rw [outside_in k ha, outside_in k hb, outside_out k hc, if_neg (fun h => hc h.2.2.1)]
        rfl
    · rw [outside_in k ha, outside_out k hb, if_neg (fun h => hb h.2.1)]
      rfl
  · rw [outside_out k ha, if_neg (fun h => ha h.1)]
    rfl
theorem span_eq (k : Nat) (x lo hi : Int) : Fn.f60.F k (x, lo, hi) = some (if lo ≤ x ∧ x ≤ hi then 0 else 1) := by
  unfold Fn.f60.F Fn.f51.F
  dsimp only
  by_cases h1 : lo ≤ x
  · by_cases h2 : x ≤ hi
    · rw [decide_eq_true h1, decide_eq_true h2, if_pos ⟨h1, h2⟩]
      rfl
    · rw [decide_eq_true h1, decide_eq_false h2, if_neg (fun h => h2 h.2)]
      rfl
  · rw [decide_eq_false h1, if_neg (fun h => h1 h.1)]
    rfl
theorem or4 (y0 y1 y2 y3 : Int) : Fn.f9.F 9223372036854775808 [y0, y1, y2, y3] = cond (y0 != 0) (some y0) (cond (y1 != 0) (some y1) (cond (y2 != 0) (some y2) (cond (y3 != 0) (some y3) (some 0)))) := by
  kernel_rfl
theorem or4_if (P Q R S : Prop) [Decidable P] [Decidable Q] [Decidable R] [Decidable S] : cond ((if P then (0 : Int) else 1) != 0) (some (if P then (0 : Int) else 1)) (cond ((if Q then (0 : Int) else 1) != 0) (some (if Q then (0 : Int) else 1)) (cond ((if R then (0 : Int) else 1) != 0) (some (if R then (0 : Int) else 1)) (cond ((if S then (0 : Int) else 1) != 0) (some (if S then (0 : Int) else 1)) (some 0)))) = some (if P ∧ Q ∧ R ∧ S then 0 else 1) := by
  by_cases hp : P <;> by_cases hq : Q <;> by_cases hr : R <;> by_cases hs : S <;> simp [hp, hq, hr, hs]
theorem fault_eq (a b c d : Int) : Fn.f30.F 9223372036854775808 (a, b, c, d) = some (if okI a b c d then 0 else 1) := by
  unfold Fn.f30.F
  dsimp only
  rw [span_eq, span_eq, span_eq, span_eq]
  simp only [Option.bind_some]
  rw [or4, or4_if]
  simp only [Option.bind_some]
  unfold okI
  congr 1
theorem all2 (x y : T.E64) : Fn.f75.F 9223372036854775808 [x, y] = Option.bind (Fn.f79.F 9223372036854775808 (x.f0, x.f1, x.f2, x.f3)) fun e => cond (e != 0) (some e) (Option.bind (Fn.f79.F 9223372036854775808 (y.f0, y.f1, y.f2, y.f3)) fun e => cond (e != 0) (some e) (some 0)) := by
  kernel_rfl
theorem all2_ok {a b c d e f g h : Int} (h1 : okI a b c d) (h2 : okI e f g h) : Fn.f75.F 9223372036854775808 [T.E64.mk a b c d, T.E64.mk e f g h] = some 0 := by
  rw [all2, check_eq, check_eq, if_pos h1, if_pos h2]
  rfl
theorem checked_eq (a b c d : Int) : Fn.f76.F 9223372036854775808 (a, b, c, d) = some (if okI a b c d then (a, b, c, d, 0) else (0, 0, 0, 0, 1)) := by
  unfold Fn.f76.F
  dsimp only
  rw [check_eq]
  by_cases h : okI a b c d
  · rw [if_pos h, if_pos h]
    rfl
  · rw [if_neg h, if_neg h]
    rfl
theorem sum_eq {a b c d e f g h : Int} (h1 : okI a b c d) (h2 : okI e f g h) : Fn.f35.F 9223372036854775808 (a, b, c, d, e, f, g, h) = some (if okI (a + e) (b + f) (c + g) (d + h) then (a + e, b + f, c + g, d + h, 0) else (0, 0, 0, 0, 1)) := by
  unfold Fn.f35.F
  dsimp only
  rw [all2_ok h1 h2]
  obtain ⟨a1, b1, c1, d1⟩ := h1
  obtain ⟨a2, b2, c2, d2⟩ := h2
  rw [wr (x := a + e) (by omega) (by omega), wr (x := b + f) (by omega) (by omega), wr (x := c + g) (by omega) (by omega), wr (x := d + h) (by omega) (by omega), checked_eq]
  by_cases k : okI (a + e) (b + f) (c + g) (d + h)
  · rw [if_pos k]
    rfl
  · rw [if_neg k]
    rfl
theorem diff_eq {a b c d e f g h : Int} (h1 : okI a b c d) (h2 : okI e f g h) : Fn.f32.F 9223372036854775808 (a, b, c, d, e, f, g, h) = some (if okI (a + (0 - e)) (b + (0 - f)) (c + (0 - g)) (d + (0 - h)) then (a + (0 - e), b + (0 - f), c + (0 - g), d + (0 - h), 0) else (0, 0, 0, 0, 1)) := by
  unfold Fn.f32.F
  dsimp only
  rw [all2_ok h1 h2]
  obtain ⟨a1, b1, c1, d1⟩ := h1
  obtain ⟨a2, b2, c2, d2⟩ := h2
  rw [wr (x := 0 - e) (by omega) (by omega), wr (x := 0 - f) (by omega) (by omega), wr (x := 0 - g) (by omega) (by omega), wr (x := 0 - h) (by omega) (by omega)]
  rw [wr (x := a + (0 - e)) (by omega) (by omega), wr (x := b + (0 - f)) (by omega) (by omega), wr (x := c + (0 - g)) (by omega) (by omega), wr (x := d + (0 - h)) (by omega) (by omega), checked_eq]
  by_cases k : okI (a + (0 - e)) (b + (0 - f)) (c + (0 - g)) (d + (0 - h))
  · rw [if_pos k]
    rfl
  · rw [if_neg k]
    rfl
def qn (a b c d : Int) : Nat := 2 ^ a.toNat * 3 ^ b.toNat * 5 ^ c.toNat * 7 ^ d.toNat
theorem pow_le {p m n : Nat} (hp : 0 < p) (h : m ≤ n) : p ^ m ≤ p ^ n := Nat.pow_le_pow_right hp h
theorem mul4_le {a b c d a' b' c' d' : Nat} (h1 : a ≤ a') (h2 : b ≤ b') (h3 : c ≤ c') (h4 : d ≤ d') : a * b * c * d ≤ a' * b' * c' * d' :=
  Nat.mul_le_mul (Nat.mul_le_mul (Nat.mul_le_mul h1 h2) h3) h4
theorem qn_le (a b c d : Int) (ha : a ≤ 24) (hb : b ≤ 10) (hc : c ≤ 5) (hd : d ≤ 3) : qn a b c d ≤ 1061880396247200000 + 2000000000000000000 :=
  Nat.le_trans (mul4_le (pow_le (by decide) (show a.toNat ≤ 24 by omega)) (pow_le (by decide) (show b.toNat ≤ 10 by omega)) (pow_le (by decide) (show c.toNat ≤ 5 by omega)) (pow_le (by decide) (show d.toNat ≤ 3 by omega))) (by decide)
theorem qn_pos (a b c d : Int) : 1 ≤ qn a b c d :=
  Nat.mul_pos (Nat.mul_pos (Nat.mul_pos (Nat.pow_pos (by decide)) (Nat.pow_pos (by decide))) (Nat.pow_pos (by decide))) (Nat.pow_pos (by decide))
theorem step_le {D p d M : Nat} (hp : 1 ≤ p) (h : D * p ^ (d + 1) ≤ M) : D * p * p ^ d ≤ M ∧ D * p ≤ M := by
  have e : D * p ^ (d + 1) = D * p * p ^ d := by rw [Nat.pow_succ, Nat.mul_comm (p ^ d) p, Nat.mul_assoc]
  rw [e] at h
  exact ⟨h, Nat.le_trans (Nat.le_mul_of_pos_right _ (Nat.pow_pos hp)) h⟩
theorem step_eq (D p d : Nat) : D * p * p ^ d = D * p ^ (d + 1) := by rw [Nat.pow_succ, Nat.mul_comm (p ^ d) p, Nat.mul_assoc]
abbrev M62 : Nat := 4611686018427387904

theorem q_l2 (E : Int × Int × Int × Int × Int × Int × Int × Int × Int × Int × Int → Option (Int × Int)) (i u s n : Int) (p : Nat) (hi0 : 0 ≤ i) (hi4 : i < 4) (hp : List.getD ([2, 3, 5, 7] : List Int) i.toNat 0 = (p : Int)) (hp1 : 1 ≤ p) (x y z t b0 b1 : Int) (D : Nat) {Q : Int × Int → Prop} (hn : n ≤ 100) :
    ∀ (d m : Nat) (N : Nat) (j : Int), d = (n - j).toNat → 0 ≤ j → d < m → N * p ^ d ≤ M62 → Som (E (i, u, x, y, z, t, s, b0, b1, ((N * p ^ d : Nat) : Int), (D : Int))) Q → Som (Fn.f80.l2 9223372036854775808 E m (i, u, x, y, z, t, s, n, j, b0, b1, (N : Int), (D : Int))) Q := by
  intro d
  induction d with
  | zero =>
    intro m N j h1 h2 h3 h4 h
    obtain ⟨m, rfl⟩ : ∃ q, m = q + 1 := ⟨m - 1, by omega⟩
    show Som (Fn.f80.l2T 9223372036854775808 E (Fn.f80.l2 9223372036854775808 E m) _) Q
    unfold Fn.f80.l2T
    dsimp only
    refine Som.cf (decide_eq_false (by omega)) ?_
    simpa using h
  | succ d ih =>
    intro m N j h1 h2 h3 h4 h
    obtain ⟨m, rfl⟩ : ∃ q, m = q + 1 := ⟨m - 1, by omega⟩
    have h5 := step_le hp1 h4
    show Som (Fn.f80.l2T 9223372036854775808 E (Fn.f80.l2 9223372036854775808 E m) _) Q
    unfold Fn.f80.l2T
    dsimp only
    refine Som.ct (decide_eq_true (by omega)) (Som.pos hi0 (Som.pos hi4 ?_))
    rw [hp, wr (x := j + 1) (by omega) (by omega)]
    have e : IntKind.wrap .i64 ((N : Int) * (p : Int)) = ((N * p : Nat) : Int) := by
      rw [← Int.natCast_mul]
      exact wr (by omega) (by have := h5.2; unfold M62 at this; omega)
    rw [e]
    exact ih m (N * p) (j + 1) (by omega) (by omega) (by omega) h5.1 (by rw [step_eq]; exact h)
theorem q_l4 (E : Int × Int × Int × Int × Int × Int × Int × Int × Int → Option (Int × Int)) (i s n : Int) (p : Nat) (hi0 : 0 ≤ i) (hi4 : i < 4) (hp : List.getD ([2, 3, 5, 7] : List Int) i.toNat 0 = (p : Int)) (hp1 : 1 ≤ p) (x y z t b0 b1 : Int) (N : Nat) {Q : Int × Int → Prop} (hn : n ≤ 100) :
    ∀ (d m : Nat) (D : Nat) (j : Int), d = (n - j).toNat → 0 ≤ j → d < m → D * p ^ d ≤ M62 → Som (E (x, y, z, t, s, b0, b1, (N : Int), ((D * p ^ d : Nat) : Int))) Q → Som (Fn.f80.l4 9223372036854775808 E m (i, x, y, z, t, s, n, j, b0, b1, (N : Int), (D : Int))) Q := by
  intro d
  induction d with
  | zero =>
    intro m D j h1 h2 h3 h4 h
    obtain ⟨m, rfl⟩ : ∃ q, m = q + 1 := ⟨m - 1, by omega⟩
    show Som (Fn.f80.l4T 9223372036854775808 E (Fn.f80.l4 9223372036854775808 E m) _) Q
    unfold Fn.f80.l4T
    dsimp only
    refine Som.cf (decide_eq_false (by omega)) ?_
    simpa using h
  | succ d ih =>
    intro m D j h1 h2 h3 h4 h
    obtain ⟨m, rfl⟩ : ∃ q, m = q + 1 := ⟨m - 1, by omega⟩
    have h5 := step_le hp1 h4
    show Som (Fn.f80.l4T 9223372036854775808 E (Fn.f80.l4 9223372036854775808 E m) _) Q
    unfold Fn.f80.l4T
    dsimp only
    refine Som.ct (decide_eq_true (by omega)) (Som.pos hi0 (Som.pos hi4 ?_))
    rw [hp, wr (x := j + 1) (by omega) (by omega)]
    have e : IntKind.wrap .i64 ((D : Int) * (p : Int)) = ((D * p : Nat) : Int) := by
      rw [← Int.natCast_mul]
      exact wr (by omega) (by have := h5.2; unfold M62 at this; omega)
    rw [e]
    exact ih m (D * p) (j + 1) (by omega) (by omega) (by omega) h5.1 (by rw [step_eq]; exact h)
theorem q_step (E : Int × Int × Int × Int → Option (Int × Int)) (i n : Int) (p m : Nat) (hi0 : 0 ≤ i) (hi4 : i < 4) (hp : List.getD ([2, 3, 5, 7] : List Int) i.toNat 0 = (p : Int)) (hp1 : 1 ≤ p) (x y z t b0 b1 : Int) (N D : Nat) {Q : Int × Int → Prop} (hn : n ≤ 100) (hn2 : -100 ≤ n)
    (hr : List.getD ([x, y, z, t] : List Int) i.toNat 0 = n) (hN : N * p ^ n.toNat ≤ M62) (hD : D * p ^ (-n).toNat ≤ M62) (h : Som (Fn.f80.l0 9223372036854775808 E m (x, y, z, t, i + 1, b0, b1, ((N * p ^ n.toNat : Nat) : Int), ((D * p ^ (-n).toNat : Nat) : Int))) Q) :
    Som (Fn.f80.l0 9223372036854775808 E (m + 1) (x, y, z, t, i, b0, b1, (N : Int), (D : Int))) Q := by
  show Som (Fn.f80.l0T 9223372036854775808 E (Fn.f80.l0 9223372036854775808 E m) _) Q
  unfold Fn.f80.l0T
  dsimp only
  refine Som.ct (decide_eq_true hi4) (Som.pos hi0 (Som.pos hi4 ?_))
  rw [hr]
  refine q_l2 _ i n i n p hi0 hi4 hp hp1 x y z t b0 b1 D hn n.toNat 9223372036854775808 N 0 (by omega) (by omega) (by omega) hN ?_
  dsimp only
  have e1 : IntKind.wrap .i64 (0 - n) = -n := by rw [wr] <;> omega
  rw [e1]
  refine q_l4 _ i i (-n) p hi0 hi4 hp hp1 x y z t b0 b1 _ (by omega) (-n).toNat 9223372036854775808 D 0 (by omega) (by omega) (by omega) hD ?_
  dsimp only
  rw [wr (x := i + 1) (by omega) (by omega)]
  exact h
theorem quotient_som {a b c d : Int} (h : okI a b c d) : Som (Fn.f80.F 9223372036854775808 (a, b, c, d)) (fun r => r = (((qn a b c d : Nat) : Int), ((qn (-a) (-b) (-c) (-d) : Nat) : Int))) := by
  obtain ⟨ha, hb, hc, hd⟩ := h
  have H1 := qn_le a b c d ha.2 hb.2 hc.2 hd.2
  have H2 := qn_le (-a) (-b) (-c) (-d) (by omega) (by omega) (by omega) (by omega)
  have m1 : ∀ x y : Nat, x * y ≤ M62 → 1 ≤ y → x ≤ M62 := fun x y h hy => Nat.le_trans (Nat.le_mul_of_pos_right _ hy) h
  have p3 : ∀ n : Nat, 1 ≤ 3 ^ n := fun n => Nat.pow_pos (by decide)
  have p5 : ∀ n : Nat, 1 ≤ 5 ^ n := fun n => Nat.pow_pos (by decide)
  have p7 : ∀ n : Nat, 1 ≤ 7 ^ n := fun n => Nat.pow_pos (by decide)
  have H3 : qn a b c d ≤ M62 := Nat.le_trans H1 (by decide)
  have H4 : qn (-a) (-b) (-c) (-d) ≤ M62 := Nat.le_trans H2 (by decide)
  unfold qn at H3 H4
  have a1 := m1 _ _ H3 (p7 _)
  have a2 := m1 _ _ a1 (p5 _)
  have a3 := m1 _ _ a2 (p3 _)
  have b1 := m1 _ _ H4 (p7 _)
  have b2 := m1 _ _ b1 (p5 _)
  have b3 := m1 _ _ b2 (p3 _)
  unfold Fn.f80.F
  dsimp only
  have s0 := q_step (fun (b0_0, b0_1, b1_0, b1_1) => some (b1_0, b1_1)) (Q := fun r => r = (((qn a b c d : Nat) : Int), ((qn (-a) (-b) (-c) (-d) : Nat) : Int))) 0 a 2 9223372036854775807 (by omega) (by omega) rfl (by omega) a b c d 0 0 1 1 (by omega) (by omega) rfl (by rwa [Nat.one_mul]) (by rwa [Nat.one_mul])
  refine s0 ?_
  rw [Nat.one_mul, Nat.one_mul]
  refine q_step _ 1 b 3 9223372036854775806 (by omega) (by omega) rfl (by omega) a b c d 0 0 _ _ (by omega) (by omega) rfl a2 b2 ?_
  refine q_step _ 2 c 5 9223372036854775805 (by omega) (by omega) rfl (by omega) a b c d 0 0 _ _ (by omega) (by omega) rfl a1 b1 ?_
  refine q_step _ 3 d 7 9223372036854775804 (by omega) (by omega) rfl (by omega) a b c d 0 0 _ _ (by omega) (by omega) rfl H3 H4 ?_
  exact ⟨_, by kernel_rfl, rfl⟩
theorem quot_eq {a b c d : Int} (h : okI a b c d) : Fn.f80.F 9223372036854775808 (a, b, c, d) = some (((qn a b c d : Nat) : Int), ((qn (-a) (-b) (-c) (-d) : Nat) : Int)) := by
  obtain ⟨r, h1, rfl⟩ := quotient_som h
  exact h1
theorem Quot_eq {a b c d : Int} (h : okI a b c d) : Fn.f33.F 9223372036854775808 (a, b, c, d) = some (((qn a b c d : Nat) : Int), ((qn (-a) (-b) (-c) (-d) : Nat) : Int), 0) := by
  unfold Fn.f33.F
  dsimp only
  rw [check_eq, if_pos h, quot_eq h]
  rfl
theorem pow_strip (p : Nat) (hp : 1 < p) : ∀ (a e m n : Nat), Nat.gcd p m = 1 → Nat.gcd p n = 1 → p ^ a * m = p ^ e * n → a = e ∧ m = n := by
  intro a
  induction a with
  | zero =>
    intro e m n hm hn h
    cases e with
    | zero => exact ⟨rfl, by simpa using h⟩
    | succ e =>
      exfalso
      have hd : p ∣ m := ⟨p ^ e * n, by rw [Nat.pow_zero, Nat.one_mul] at h; rw [h, Nat.pow_succ, Nat.mul_comm (p ^ e) p, Nat.mul_assoc]⟩
      have : Nat.gcd p m = p := Nat.gcd_eq_left hd
      omega
  | succ a ih =>
    intro e m n hm hn h
    cases e with
    | zero =>
      exfalso
      have hd : p ∣ n := ⟨p ^ a * m, by rw [Nat.pow_zero, Nat.one_mul] at h; rw [← h, Nat.pow_succ, Nat.mul_comm (p ^ a) p, Nat.mul_assoc]⟩
      have : Nat.gcd p n = p := Nat.gcd_eq_left hd
      omega
    | succ e =>
      have h2 : p ^ a * m = p ^ e * n := by
        rw [Nat.pow_succ, Nat.pow_succ, Nat.mul_comm (p ^ a) p, Nat.mul_comm (p ^ e) p, Nat.mul_assoc, Nat.mul_assoc] at h
        exact Nat.eq_of_mul_eq_mul_left (by omega) h
      obtain ⟨h3, h4⟩ := ih e m n hm hn h2
      exact ⟨by omega, h4⟩
theorem cop (p q k : Nat) (h : Nat.gcd p q = 1) : Nat.gcd p (q ^ k) = 1 := Nat.Coprime.pow_right k h
theorem cop2 (x y z : Nat) : Nat.gcd 2 (3 ^ x * (5 ^ y * 7 ^ z)) = 1 := Nat.Coprime.mul_right (cop 2 3 x (by decide)) (Nat.Coprime.mul_right (cop 2 5 y (by decide)) (cop 2 7 z (by decide)))
theorem cop3 (y z : Nat) : Nat.gcd 3 (5 ^ y * 7 ^ z) = 1 := Nat.Coprime.mul_right (cop 3 5 y (by decide)) (cop 3 7 z (by decide))
theorem cop5 (z : Nat) : Nat.gcd 5 (7 ^ z) = 1 := cop 5 7 z (by decide)
theorem uniq4 (a b c d e f g h : Nat) (H : 2 ^ a * 3 ^ b * 5 ^ c * 7 ^ d = 2 ^ e * 3 ^ f * 5 ^ g * 7 ^ h) : a = e ∧ b = f ∧ c = g ∧ d = h := by
  have h1 : 2 ^ a * (3 ^ b * (5 ^ c * 7 ^ d)) = 2 ^ e * (3 ^ f * (5 ^ g * 7 ^ h)) := by simpa only [Nat.mul_assoc] using H
  obtain ⟨r1, h2⟩ := pow_strip 2 (by decide) _ _ _ _ (cop2 b c d) (cop2 f g h) h1
  obtain ⟨r2, h3⟩ := pow_strip 3 (by decide) _ _ _ _ (cop3 c d) (cop3 g h) h2
  obtain ⟨r3, h4⟩ := pow_strip 5 (by decide) _ _ _ _ (cop5 d) (cop5 h) h3
  have h5 : 7 ^ d * 1 = 7 ^ h * 1 := by rw [h4]
  obtain ⟨r4, _⟩ := pow_strip 7 (by decide) _ _ _ _ (by decide) (by decide) h5
  exact ⟨r1, r2, r3, r4⟩
theorem qn_cross (a b c d e f g h : Int) (H : qn a b c d * qn (-e) (-f) (-g) (-h) = qn e f g h * qn (-a) (-b) (-c) (-d)) : a = e ∧ b = f ∧ c = g ∧ d = h := by
  unfold qn at H
  have K : ∀ x y z t x' y' z' t' : Nat, (2 ^ x * 3 ^ y * 5 ^ z * 7 ^ t) * (2 ^ x' * 3 ^ y' * 5 ^ z' * 7 ^ t') = 2 ^ (x + x') * 3 ^ (y + y') * 5 ^ (z + z') * 7 ^ (t + t') := by
    intro x y z t x' y' z' t'
    simp only [Nat.pow_add]
    ac_rfl
  rw [K, K] at H
  obtain ⟨r1, r2, r3, r4⟩ := uniq4 _ _ _ _ _ _ _ _ H
  exact ⟨by omega, by omega, by omega, by omega⟩
theorem mod_ne (p m : Nat) (hp : 1 < p) (h : Nat.gcd p m = 1) : ¬ m % p = 0 := by
  intro h2
  have : Nat.gcd p m = p := Nat.gcd_eq_left (Nat.dvd_of_mod_eq_zero h2)
  omega
theorem gcd_sides (p : Nat) (a : Int) : Nat.gcd (p ^ a.toNat) (p ^ (-a).toNat) = 1 := by
  rcases Int.le_total 0 a with h | h
  · have : (-a).toNat = 0 := by omega
    rw [this, Nat.pow_zero, Nat.gcd_one_right]
  · have : a.toNat = 0 := by omega
    rw [this, Nat.pow_zero, Nat.gcd_one_left]
theorem cops (p q x y : Nat) (h : Nat.gcd p q = 1) : Nat.gcd (p ^ x) (q ^ y) = 1 := Nat.Coprime.pow x y h
theorem qn_gcd (a b c d : Int) : Nat.gcd (qn a b c d) (qn (-a) (-b) (-c) (-d)) = 1 := by
  unfold qn
  refine Nat.Coprime.mul_left (Nat.Coprime.mul_left (Nat.Coprime.mul_left ?_ ?_) ?_) ?_
  · exact Nat.Coprime.mul_right (Nat.Coprime.mul_right (Nat.Coprime.mul_right (gcd_sides 2 a) (cops 2 3 _ _ (by decide))) (cops 2 5 _ _ (by decide))) (cops 2 7 _ _ (by decide))
  · exact Nat.Coprime.mul_right (Nat.Coprime.mul_right (Nat.Coprime.mul_right (cops 3 2 _ _ (by decide)) (gcd_sides 3 b)) (cops 3 5 _ _ (by decide))) (cops 3 7 _ _ (by decide))
  · exact Nat.Coprime.mul_right (Nat.Coprime.mul_right (Nat.Coprime.mul_right (cops 5 2 _ _ (by decide)) (cops 5 3 _ _ (by decide))) (gcd_sides 5 c)) (cops 5 7 _ _ (by decide))
  · exact Nat.Coprime.mul_right (Nat.Coprime.mul_right (Nat.Coprime.mul_right (cops 7 2 _ _ (by decide)) (cops 7 3 _ _ (by decide))) (cops 7 5 _ _ (by decide))) (gcd_sides 7 d)

theorem gcd_step (m n : Nat) (h : 0 < n) : Nat.gcd m n = Nat.gcd n (m % n) := by rw [Nat.gcd_comm m n, Nat.gcd_rec, Nat.gcd_comm]
theorem tmod_nat (m n : Nat) : Int.tmod (m : Int) (n : Int) = ((m % n : Nat) : Int) := rfl
theorem tdiv_nat (m n : Nat) : Int.tdiv (m : Int) (n : Int) = ((m / n : Nat) : Int) := rfl
theorem lowest_som (E : Int × Int × Int × Int × Int → Option (Int × Int)) (x y : Int) {Q : Int × Int → Prop} : ∀ (f m n : Nat), n < f → Som (E (x, y, ((Nat.gcd m n : Nat) : Int), 0, 0)) Q → Som (Fn.f81.l0 9223372036854775808 E f (x, y, (m : Int), (n : Int), 0, 0)) Q := by
  intro f
  induction f with
  | zero => intro m n h; omega
  | succ f ih =>
    intro m n h hq
    show Som (Fn.f81.l0T 9223372036854775808 E (Fn.f81.l0 9223372036854775808 E f) _) Q
    unfold Fn.f81.l0T
    dsimp only
    by_cases h0 : n = 0
    · subst h0
      rw [Nat.gcd_zero_right] at hq
      exact Som.cf rfl hq
    · refine Som.ct (by simp; omega) (Som.neg (by omega) ?_)
      rw [tmod_nat]
      refine ih n (m % n) (Nat.lt_of_lt_of_le (Nat.mod_lt _ (by omega)) (by omega)) ?_
      rw [← gcd_step m n (by omega)]
      exact hq
theorem lowest_eq (x y : Nat) (hx : x ≤ 9223372036854775807) (hy : y ≤ 9223372036854775807) (hg : Nat.gcd x y = 1) : Fn.f81.F 9223372036854775808 ((x : Int), (y : Int)) = some ((x : Int), (y : Int)) := by
  have key : Som (Fn.f81.F 9223372036854775808 ((x : Int), (y : Int))) (fun r => r = ((x : Int), (y : Int))) := by
    unfold Fn.f81.F
    dsimp only
    refine lowest_som _ _ _ 9223372036854775808 x y (by omega) ?_
    rw [hg]
    dsimp only
    refine Som.neg (by decide) (Som.neg (by decide) (Som.one ?_))
    rw [tdiv_nat, tdiv_nat, Nat.div_one, Nat.div_one, wrn hx, wrn hy]
  obtain ⟨r, h1, rfl⟩ := key
  exact h1
theorem times_som (E : Int × Int → Option (Int × Int)) (p m : Nat) (hp : 1 < p) (hg : Nat.gcd p m = 1) {Q : Int × Int → Prop} : ∀ (x f : Nat) (c : Int), x < f → p ^ x * m ≤ 9223372036854775807 → 0 ≤ c → c + x ≤ 1000 → Som (E ((m : Int), c + x)) Q →
    Som (Fn.f83.l0 9223372036854775808 E f (((p ^ x * m : Nat) : Int), (p : Int), c)) Q := by
  intro x
  induction x with
  | zero =>
    intro f c h1 h2 h3 h4 h
    obtain ⟨f, rfl⟩ : ∃ q, f = q + 1 := ⟨f - 1, by omega⟩
    show Som (Fn.f83.l0T 9223372036854775808 E (Fn.f83.l0 9223372036854775808 E f) _) Q
    unfold Fn.f83.l0T
    dsimp only
    rw [Nat.pow_zero, Nat.one_mul, tmod_nat]
    have := mod_ne p m hp hg
    refine Som.neg (by omega) (Som.cf (by simp; omega) ?_)
    simpa using h
  | succ x ih =>
    intro f c h1 h2 h3 h4 h
    obtain ⟨f, rfl⟩ : ∃ q, f = q + 1 := ⟨f - 1, by omega⟩
    have e : p ^ (x + 1) * m = p * (p ^ x * m) := by rw [Nat.pow_succ, Nat.mul_comm (p ^ x) p, Nat.mul_assoc]
    have hle : p ^ x * m ≤ p * (p ^ x * m) := Nat.le_mul_of_pos_left _ (by omega)
    show Som (Fn.f83.l0T 9223372036854775808 E (Fn.f83.l0 9223372036854775808 E f) _) Q
    unfold Fn.f83.l0T
    dsimp only
    rw [e, tmod_nat, tdiv_nat, Nat.mul_mod_right, Nat.mul_div_cancel_left _ (by omega), wrn (by omega), wr (x := c + 1) (by omega) (by omega)]
    refine Som.neg (by omega) (Som.ct (by simp) (Som.neg (by omega) ?_))
    refine ih f (c + 1) (by omega) (by omega) (by omega) (by omega) ?_
    have e2 : c + 1 + (x : Int) = c + ((x + 1 : Nat) : Int) := by omega
    rw [e2]
    exact h
theorem times_eq (p m x : Nat) (hp : 1 < p) (hg : Nat.gcd p m = 1) (hx : x ≤ 900) (hb : p ^ x * m ≤ 9223372036854775807) : Fn.f83.F 9223372036854775808 (((p ^ x * m : Nat) : Int), (p : Int)) = some ((x : Int), (m : Int)) := by
  have key : Som (Fn.f83.F 9223372036854775808 (((p ^ x * m : Nat) : Int), (p : Int))) (fun r => r = ((x : Int), (m : Int))) := by
    unfold Fn.f83.F
    dsimp only
    refine times_som _ p m hp hg x 9223372036854775808 0 (by omega) hb (by omega) (by omega) (Som.one ?_)
    rw [Int.zero_add]
  obtain ⟨r, h1, rfl⟩ := key
  exact h1
theorem of_l0 {E m p} {Q : Int × Int × Int × Int × Int → Prop} (h : Som (Fn.f34.l0T 9223372036854775808 E (Fn.f34.l0 9223372036854775808 E m) p) Q) : Som (Fn.f34.l0 9223372036854775808 E (m + 1) p) Q := h
theorem qn_nest (a b c d : Int) : qn a b c d = 2 ^ a.toNat * (3 ^ b.toNat * (5 ^ c.toNat * (7 ^ d.toNat * 1))) := by
  unfold qn
  simp only [Nat.mul_assoc, Nat.mul_one]
theorem mul_le' {x y M : Nat} (h : x * y ≤ M) (hx : 1 ≤ x) : y ≤ M := Nat.le_trans (Nat.le_mul_of_pos_left _ hx) h
theorem Of_eq {a b c d : Int} (h : okI a b c d) : Fn.f34.F 9223372036854775808 (((qn a b c d : Nat) : Int), ((qn (-a) (-b) (-c) (-d) : Nat) : Int)) = some (a, b, c, d, 0) := by
  have hh := h
  obtain ⟨ha, hb, hc, hd⟩ := h
  have H1 : qn a b c d ≤ 9223372036854775807 := Nat.le_trans (qn_le a b c d ha.2 hb.2 hc.2 hd.2) (by decide)
  have H2 : qn (-a) (-b) (-c) (-d) ≤ 9223372036854775807 := Nat.le_trans (qn_le (-a) (-b) (-c) (-d) (by omega) (by omega) (by omega) (by omega)) (by decide)
  have g1 : decide (((qn a b c d : Nat) : Int) < 1) = false := decide_eq_false (by have := qn_pos a b c d; omega)
  have g2 : decide (((qn (-a) (-b) (-c) (-d) : Nat) : Int) < 1) = false := decide_eq_false (by have := qn_pos (-a) (-b) (-c) (-d); omega)
  have hlow := lowest_eq _ _ H1 H2 (qn_gcd a b c d)
  have pw : ∀ p n : Nat, 1 < p → 1 ≤ p ^ n := fun p n hp => Nat.pow_pos (by omega)
  have n0 := qn_nest a b c d
  have m0 := qn_nest (-a) (-b) (-c) (-d)
  have B0 := H1
  have C0 := H2
  rw [n0] at B0
  rw [m0] at C0
  have B1 := mul_le' B0 (pw 2 _ (by decide))
  have B2 := mul_le' B1 (pw 3 _ (by decide))
  have B3 := mul_le' B2 (pw 5 _ (by decide))
  have C1 := mul_le' C0 (pw 2 _ (by decide))
  have C2 := mul_le' C1 (pw 3 _ (by decide))
  have C3 := mul_le' C2 (pw 5 _ (by decide))
  have c2 : ∀ x y z : Nat, Nat.gcd 2 (3 ^ x * (5 ^ y * (7 ^ z * 1))) = 1 := fun x y z => by rw [Nat.mul_one]; exact cop2 x y z
  have c3 : ∀ y z : Nat, Nat.gcd 3 (5 ^ y * (7 ^ z * 1)) = 1 := fun y z => by rw [Nat.mul_one]; exact cop3 y z
  have c5 : ∀ z : Nat, Nat.gcd 5 (7 ^ z * 1) = 1 := fun z => by rw [Nat.mul_one]; exact cop5 z
  have t1 := times_eq 2 _ a.toNat (by decide) (c2 b.toNat c.toNat d.toNat) (by omega) B0
  have t2 := times_eq 3 _ b.toNat (by decide) (c3 c.toNat d.toNat) (by omega) B1
  have t3 := times_eq 5 _ c.toNat (by decide) (c5 d.toNat) (by omega) B2
  have t4 := times_eq 7 1 d.toNat (by decide) (by decide) (by omega) B3
  have s1 := times_eq 2 _ (-a).toNat (by decide) (c2 (-b).toNat (-c).toNat (-d).toNat) (by omega) C0
  have s2 := times_eq 3 _ (-b).toNat (by decide) (c3 (-c).toNat (-d).toNat) (by omega) C1
  have s3 := times_eq 5 _ (-c).toNat (by decide) (c5 (-d).toNat) (by omega) C2
  have s4 := times_eq 7 1 (-d).toNat (by decide) (by decide) (by omega) C3
  have w1 : IntKind.wrap .i64 ((0 : Int) + 1) = 1 := wr (by decide) (by decide)
  have w2 : IntKind.wrap .i64 ((1 : Int) + 1) = 2 := wr (by decide) (by decide)
  have w3 : IntKind.wrap .i64 ((2 : Int) + 1) = 3 := wr (by decide) (by decide)
  have w4 : IntKind.wrap .i64 ((3 : Int) + 1) = 4 := wr (by decide) (by decide)
  have d1 : IntKind.wrap .i64 (((a.toNat : Nat) : Int) - (((-a).toNat : Nat) : Int)) = a := by rw [wr] <;> omega
  have d2 : IntKind.wrap .i64 (((b.toNat : Nat) : Int) - (((-b).toNat : Nat) : Int)) = b := by rw [wr] <;> omega
  have d3 : IntKind.wrap .i64 (((c.toNat : Nat) : Int) - (((-c).toNat : Nat) : Int)) = c := by rw [wr] <;> omega
  have d4 : IntKind.wrap .i64 (((d.toNat : Nat) : Int) - (((-d).toNat : Nat) : Int)) = d := by rw [wr] <;> omega
  have key : Som (Fn.f34.F 9223372036854775808 (((qn a b c d : Nat) : Int), ((qn (-a) (-b) (-c) (-d) : Nat) : Int))) (fun r => r = (a, b, c, d, 0)) := by
    unfold Fn.f34.F
    dsimp only
    refine Som.cf g1 ?_
    unfold Fn.f34.l100002
    dsimp only
    refine Som.cf g2 ?_
    unfold Fn.f34.l100003
    dsimp only
    rw [hlow]
    simp only [Option.bind_some]
    refine Som.cf (by simp) ?_
    rw [n0, m0]
    refine of_l0 (m := 9223372036854775807) ?_
    unfold Fn.f34.l0T
    dsimp only
    refine Som.ct (by decide) (Som.pos (by decide) (Som.pos (by decide) ?_))
    rw [show List.getD ([2, 3, 5, 7] : List Int) (Int.toNat 0) 0 = ((2 : Nat) : Int) from rfl, t1, s1]
    simp only [Option.bind_some]
    refine Som.pos (by decide) ?_
    rw [w1, d1]
    refine of_l0 (m := 9223372036854775806) ?_
    unfold Fn.f34.l0T
    dsimp only
    refine Som.ct (by decide) (Som.pos (by decide) (Som.pos (by decide) ?_))
    rw [show List.getD ([2, 3, 5, 7] : List Int) (Int.toNat 1) 0 = ((3 : Nat) : Int) from rfl, t2, s2]
    simp only [Option.bind_some]
    refine Som.neg (by decide) (Som.pos (by decide) ?_)
    rw [w2, d2]
    refine of_l0 (m := 9223372036854775805) ?_
    unfold Fn.f34.l0T
    dsimp only
    refine Som.ct (by decide) (Som.pos (by decide) (Som.pos (by decide) ?_))
    rw [show List.getD ([2, 3, 5, 7] : List Int) (Int.toNat 2) 0 = ((5 : Nat) : Int) from rfl, t3, s3]
    simp only [Option.bind_some]
    refine Som.neg (by decide) (Som.neg (by decide) (Som.pos (by decide) ?_))
    rw [w3, d3]
    refine of_l0 (m := 9223372036854775804) ?_
    unfold Fn.f34.l0T
    dsimp only
    refine Som.ct (by decide) (Som.pos (by decide) (Som.pos (by decide) ?_))
    rw [show List.getD ([2, 3, 5, 7] : List Int) (Int.toNat 3) 0 = ((7 : Nat) : Int) from rfl, t4, s4]
    simp only [Option.bind_some]
    refine Som.neg (by decide) (Som.neg (by decide) (Som.neg (by decide) (Som.pos (by decide) ?_)))
    rw [w4, d4]
    refine of_l0 (m := 9223372036854775803) ?_
    unfold Fn.f34.l0T
    dsimp only
    refine Som.cf (by decide) ?_
    refine Som.cf (c := (((1 : Nat) : Int) != 1)) (by decide) ?_
    unfold Fn.f34.l100016
    dsimp only
    refine Som.cf (by decide) ?_
    unfold Fn.f34.l100017
    dsimp only
    rw [check_eq, if_pos hh]
    simp only [Option.bind_some]
    exact Som.cf (by decide) (Som.one rfl)
  obtain ⟨r, h1, rfl⟩ := key
  exact h1
def cmpI (P R : Int) : Int := if P < R then -1 else if P = R then 0 else 1
theorem wru {x : Int} (h0 : 0 ≤ x) (h1 : x < 18446744073709551616) : IntKind.wrap .u64 x = x := by
  have e : IntKind.wrap .u64 x = x % 18446744073709551616 := by simp [IntKind.wrap, IntKind.bits, IntKind.signed]
  rw [e]
  omega
theorem mul64_eq (k : Nat) (x y : Int) (h0 : 0 ≤ x) (h1 : x < 18446744073709551616) (h2 : 0 ≤ y) (h3 : y < 18446744073709551616) : Fn.f124.F k (x, y) = some (x * y / 18446744073709551616, x * y % 18446744073709551616) := by
  unfold Fn.f124.F
  dsimp only
  rw [if_pos h0, if_pos h2, if_pos h1, if_pos h3]
def cmpHL (p1 p0 r1 r0 : Int) : Int := if p1 < r1 then -1 else if p1 = r1 then (if p0 < r0 then -1 else if p0 = r0 then 0 else 1) else 1
theorem cmp_hl (P R : Int) : cmpHL (P / 18446744073709551616) (P % 18446744073709551616) (R / 18446744073709551616) (R % 18446744073709551616) = cmpI P R := by
  unfold cmpHL cmpI
  by_cases x1 : P / 18446744073709551616 < R / 18446744073709551616
  · rw [if_pos x1, if_pos (by omega)]
  · rw [if_neg x1]
    by_cases x2 : P / 18446744073709551616 = R / 18446744073709551616
    · rw [if_pos x2]
      by_cases x3 : P % 18446744073709551616 < R % 18446744073709551616
      · rw [if_pos x3, if_pos (by omega)]
      · rw [if_neg x3]
        by_cases x4 : P % 18446744073709551616 = R % 18446744073709551616
        · rw [if_pos x4, if_neg (by omega), if_pos (by omega)]
        · rw [if_neg x4, if_neg (by omega), if_neg (by omega)]
    · rw [if_neg x2, if_neg (by omega), if_neg (by omega)]
theorem cmp_core (k : Nat) (p1 p0 r1 r0 : Int) : cond (decide (Prod.fst (p1, p0) < Prod.fst (r1, r0))) (Fn.f84.l100005 k (fun t4 => some t4) (fun () => some 1) ((Prod.fst (p1, p0)), (Prod.snd (p1, p0)), (Prod.fst (r1, r0)), (Prod.snd (r1, r0)), Bool.true)) (cond (Prod.fst (p1, p0) == Prod.fst (r1, r0)) (Fn.f84.l100005 k (fun t4 => some t4) (fun () => some 1) ((Prod.fst (p1, p0)), (Prod.snd (p1, p0)), (Prod.fst (r1, r0)), (Prod.snd (r1, r0)), (decide (Prod.snd (p1, p0) < Prod.snd (r1, r0))))) (Fn.f84.l100005 k (fun t4 => some t4) (fun () => some 1) ((Prod.fst (p1, p0)), (Prod.snd (p1, p0)), (Prod.fst (r1, r0)), (Prod.snd (r1, r0)), Bool.false))) = some (cmpHL p1 p0 r1 r0) := by
  unfold Fn.f84.l100005 Fn.f84.l100007 cmpHL
  dsimp only
  by_cases x1 : p1 < r1
  · rw [decide_eq_true x1, if_pos x1]
    rfl
  · rw [decide_eq_false x1, if_neg x1]
    by_cases x2 : p1 = r1
    · rw [show (p1 == r1) = true from by simpa using x2, if_pos x2]
      by_cases x3 : p0 < r0
      · rw [decide_eq_true x3, if_pos x3]
        rfl
      · rw [decide_eq_false x3, if_neg x3]
        by_cases x4 : p0 = r0
        · rw [show (p0 == r0) = true from by simpa using x4, if_pos x4]
          rfl
        · rw [show (p0 == r0) = false from by simpa using x4, if_neg x4]
          rfl
    · rw [show (p1 == r1) = false from by simpa using x2, if_neg x2]
      rfl
theorem compare_of (k : Nat) {a b c d e f g h p q r s : Int} (h1 : Fn.f80.F k (a, b, c, d) = some (p, q)) (h2 : Fn.f80.F k (e, f, g, h) = some (r, s))
    (p0 : 0 ≤ p ∧ p ≤ 9223372036854775807) (q0 : 0 ≤ q ∧ q ≤ 9223372036854775807) (r0 : 0 ≤ r ∧ r ≤ 9223372036854775807) (s0 : 0 ≤ s ∧ s ≤ 9223372036854775807) : Fn.f84.F k (a, b, c, d, e, f, g, h) = some (cmpI (p * s) (r * q)) := by
  unfold Fn.f84.F
  dsimp only
  rw [h1, h2]
  simp only [Option.bind_some]
  rw [wru (x := p) (by omega) (by omega), wru (x := q) (by omega) (by omega), wru (x := r) (by omega) (by omega), wru (x := s) (by omega) (by omega)]
  rw [mul64_eq _ _ _ (by omega) (by omega) (by omega) (by omega), mul64_eq _ _ _ (by omega) (by omega) (by omega) (by omega)]
  simp only [Option.bind_some]
  generalize p * s = P
  generalize r * q = R
  rw [← cmp_hl]
  exact cmp_core _ _ _ _ _
theorem compare_eq {a b c d e f g h : Int} (h1 : okI a b c d) (h2 : okI e f g h) : Fn.f84.F 9223372036854775808 (a, b, c, d, e, f, g, h) = some (cmpI ((qn a b c d : Int) * (qn (-e) (-f) (-g) (-h) : Int)) ((qn e f g h : Int) * (qn (-a) (-b) (-c) (-d) : Int))) := by
  have k1 := quot_eq h1
  have k2 := quot_eq h2
  obtain ⟨ha, hb, hc, hd⟩ := h1
  obtain ⟨he, hf, hg, hh⟩ := h2
  have q1 : qn a b c d ≤ 9223372036854775807 := Nat.le_trans (qn_le a b c d ha.2 hb.2 hc.2 hd.2) (by decide)
  have q2 : qn (-a) (-b) (-c) (-d) ≤ 9223372036854775807 := Nat.le_trans (qn_le (-a) (-b) (-c) (-d) (by omega) (by omega) (by omega) (by omega)) (by decide)
  have q3 : qn e f g h ≤ 9223372036854775807 := Nat.le_trans (qn_le e f g h he.2 hf.2 hg.2 hh.2) (by decide)
  have q4 : qn (-e) (-f) (-g) (-h) ≤ 9223372036854775807 := Nat.le_trans (qn_le (-e) (-f) (-g) (-h) (by omega) (by omega) (by omega) (by omega)) (by decide)
  exact compare_of _ k1 k2 (by omega) (by omega) (by omega) (by omega)
theorem Compare_of (k : Nat) {a b c d e f g h x : Int} (h0 : Fn.f75.F k [T.E64.mk a b c d, T.E64.mk e f g h] = some 0) (h1 : Fn.f84.F k (a, b, c, d, e, f, g, h) = some x) : Fn.f36.F k (a, b, c, d, e, f, g, h) = some (x, 0) := by
  unfold Fn.f36.F
  dsimp only
  rw [h0, h1]
  rfl
theorem Compare_eq {a b c d e f g h : Int} (h1 : okI a b c d) (h2 : okI e f g h) : Fn.f36.F 9223372036854775808 (a, b, c, d, e, f, g, h) = some (cmpI ((qn a b c d : Int) * (qn (-e) (-f) (-g) (-h) : Int)) ((qn e f g h : Int) * (qn (-a) (-b) (-c) (-d) : Int)), 0) :=
  Compare_of _ (all2_ok h1 h2) (compare_eq h1 h2)
theorem cmpI_neg (P R : Int) : cmpI P R = -cmpI R P := by
  unfold cmpI
  by_cases h1 : P < R
  · rw [if_pos h1, if_neg (by omega), if_neg (by omega)]
  · by_cases h2 : P = R
    · rw [if_neg h1, if_pos h2, if_neg (by omega), if_pos (by omega)]; rfl
    · rw [if_neg h1, if_neg h2, if_pos (by omega)]; rfl
theorem cmpI_zero (P R : Int) : cmpI P R = 0 ↔ P = R := by
  unfold cmpI
  by_cases h1 : P < R
  · rw [if_pos h1]; omega
  · by_cases h2 : P = R
    · rw [if_neg h1, if_pos h2]; simp [h2]
    · rw [if_neg h1, if_neg h2]; simp [h2]
theorem cmpI_le (P R : Int) : -1 ≤ cmpI P R ∧ cmpI P R ≤ 1 := by
  unfold cmpI
  split
  · omega
  · split <;> omega

theorem interval_som (l : List Int) (at_ : Int) (hl : l.length ≤ 1125899906842624) (h0 : 0 ≤ at_) (h1 : at_ ≤ 800000) :
    Som (Fn.f28.F 9223372036854775808 (l, at_)) (fun r => r.2.2.2.2.1 = l ∧ at_ ≤ r.2.2.2.2.2 ∧ r.2.2.2.2.2 ≤ at_ + 20) := by
  have tail : ∀ (p : Int) (x0 x1 x2 x3 : Int), at_ ≤ p → p ≤ at_ + 6 → Som (Fn.f28.l100004 9223372036854775808 (fun (b0_0, b0_1, b1_0, b1_1, b1_2, b1_3) => some (b1_0, b1_1, b1_2, b1_3, b0_0, b0_1)) (l, p, 0, 0, 0, 0, x0, x1, x2, x3)) (fun r => r.2.2.2.2.1 = l ∧ at_ ≤ r.2.2.2.2.2 ∧ r.2.2.2.2.2 ≤ at_ + 20) := by
    intro p x0 x1 x2 x3 hp0 hp1
    unfold Fn.f28.l100004
    dsimp only
    refine Som.bind (flip_som 9223372036854775808 l p 15 hl (by omega) (by omega) (by omega)) (fun a ha => Som.cond (fun _ => ?_) (fun _ => ?_))
    · rw [ha.1]
      refine Som.bind (odd_som 9223372036854775808 l _ (-24) 24 hl (by omega) (by omega) (by omega) (by omega) (by omega) (by omega)) (fun b hb => ?_)
      rw [hb.1]
      refine Som.bind (odd_som 9223372036854775808 l _ (-10) 10 hl (by omega) (by omega) (by omega) (by omega) (by omega) (by omega)) (fun c hc => ?_)
      rw [hc.1]
      refine Som.bind (odd_som 9223372036854775808 l _ (-5) 5 hl (by omega) (by omega) (by omega) (by omega) (by omega) (by omega)) (fun d hd => ?_)
      rw [hd.1]
      refine Som.bind (odd_som 9223372036854775808 l _ (-3) 3 hl (by omega) (by omega) (by omega) (by omega) (by omega) (by omega)) (fun e he => Som.one ?_)
      exact ⟨he.1, by show at_ ≤ e.2.2; omega, by show e.2.2 ≤ at_ + 20; omega⟩
    · exact Som.one ⟨ha.1, by show at_ ≤ a.2.2; omega, by show a.2.2 ≤ at_ + 20; omega⟩
  unfold Fn.f28.F
  dsimp only
  refine Som.bind (next_som 9223372036854775808 l at_ 9 hl h0 (by omega) (by omega)) (fun a ha => ?_)
  have h2 := ha.2.2.2 (by omega)
  refine Som.pos h2.1 (Som.pos (by simp; omega) (Som.bind (rd_som _ a.1 h2.1 (by simp; omega)) (fun y _ => ?_)))
  rw [ha.1]
  refine Som.bind (flip_som 9223372036854775808 l _ 4 hl (by omega) (by omega) (by omega)) (fun b hb => Som.cond (fun _ => ?_) (fun _ => ?_))
  · rw [hb.1]
    refine Som.bind (range_som 9223372036854775808 l _ (-24) 24 hl (by omega) (by omega) (by omega) (by omega) (by omega) (by omega)) (fun c hc => ?_)
    rw [hc.1]
    refine Som.bind (range_som 9223372036854775808 l _ (-10) 10 hl (by omega) (by omega) (by omega) (by omega) (by omega) (by omega)) (fun d hd => ?_)
    rw [hd.1]
    refine Som.bind (range_som 9223372036854775808 l _ (-5) 5 hl (by omega) (by omega) (by omega) (by omega) (by omega) (by omega)) (fun e he => ?_)
    rw [he.1]
    refine Som.bind (range_som 9223372036854775808 l _ (-3) 3 hl (by omega) (by omega) (by omega) (by omega) (by omega) (by omega)) (fun f hf => ?_)
    rw [hf.1]
    exact tail _ _ _ _ _ (by omega) (by omega)
  · rw [hb.1]
    exact tail _ _ _ _ _ (by omega) (by omega)
noncomputable def chkN (n : Nat) : Bool := match Fn.f37.F 9223372036854775808 (n : Int) with
  | some y => match Fn.f38.F 9223372036854775808 y.1 with
    | some z => y.2 == 0 && (z.2 == 0 && z.1 == (n : Int))
    | none => false
  | none => false
def allN (p : Nat → Bool) : Nat → Bool
  | 0 => true
  | n + 1 => cond (p n) (allN p n) false
theorem allN_spec {p : Nat → Bool} : ∀ {n : Nat}, allN p n = true → ∀ i, i < n → p i = true
  | 0, _, i, h => by omega
  | n + 1, h, i, hi => by
    unfold allN at h
    cases hp : p n with
    | false => rw [hp] at h; cases h
    | true =>
      rw [hp] at h
      by_cases he : i = n
      · subst he; exact hp
      · exact allN_spec h i (by omega)
theorem names_ok : allN chkN 128 = true := by kernel_rfl
theorem name_back (n : Int) (h0 : 0 ≤ n) (h1 : n ≤ 127) : ∃ y z, Fn.f37.F 9223372036854775808 n = some y ∧ Fn.f38.F 9223372036854775808 y.1 = some z ∧ (y.2 == 0) = true ∧ (z.2 == 0) = true ∧ (z.1 == n) = true := by
  have h := allN_spec names_ok n.toNat (by omega)
  unfold chkN at h
  have e : ((n.toNat : Nat) : Int) = n := by omega
  rw [e] at h
  split at h
  · rename_i y hy
    split at h
    · rename_i z hz
      obtain ⟨k1, k2⟩ := Bool.and_eq_true_iff.1 h
      obtain ⟨k2, k3⟩ := Bool.and_eq_true_iff.1 k2
      exact ⟨y, z, hy, hz, k1, k2, k3⟩
    · cases h
  · cases h
theorem eq4 {a b c d : Int} : (a == a && (b == b && (c == c && (d == d && true)))) = true := by simp
theorem cmp_facts {a b c d e f g h : Int} : ∃ C C' : Int, cmpI ((qn a b c d : Int) * (qn (-e) (-f) (-g) (-h) : Int)) ((qn e f g h : Int) * (qn (-a) (-b) (-c) (-d) : Int)) = C ∧
    cmpI ((qn e f g h : Int) * (qn (-a) (-b) (-c) (-d) : Int)) ((qn a b c d : Int) * (qn (-e) (-f) (-g) (-h) : Int)) = C' ∧ C = -C' ∧ (-1 ≤ C' ∧ C' ≤ 1) ∧ (C = 0 ↔ (a = e ∧ b = f ∧ c = g ∧ d = h)) := by
  refine ⟨_, _, rfl, rfl, cmpI_neg _ _, cmpI_le _ _, ?_⟩
  rw [cmpI_zero]
  constructor
  · intro hq
    refine qn_cross a b c d e f g h ?_
    rw [← Int.natCast_mul, ← Int.natCast_mul] at hq
    exact Int.ofNat.inj hq
  · rintro ⟨rfl, rfl, rfl, rfl⟩
    rfl
theorem fin_eq (k : Nat) {n a b c d e f g h C C' : Int} {y : ByteArray × Int} {z : Int × Int} (hc1 : Fn.f36.F k (a, b, c, d, e, f, g, h) = some (C, 0)) (hc2 : Fn.f36.F k (e, f, g, h, a, b, c, d) = some (C', 0))
    (hy : Fn.f37.F k n = some y) (hz : Fn.f38.F k y.1 = some z) (k1 : (y.2 == 0) = true) (k2 : (z.2 == 0) = true) (k3 : (z.1 == n) = true) (hneg : C = -C') (hle : -1 ≤ C' ∧ C' ≤ 1) (hx : C = 0 ↔ (a = e ∧ b = f ∧ c = g ∧ d = h)) :
    Fn.f5.l100015 k (fun t2 => some t2) (n, a, b, c, d, e, f, g, h) = some true := by
  unfold Fn.f5.l100015
  dsimp only
  rw [hc1, hc2, hy]
  simp only [Option.bind_some]
  rw [hz]
  simp only [Option.bind_some]
  have hs : IntKind.wrap .i64 (0 - C') = C := by rw [wr] <;> omega
  rw [hs]
  have b1 : (C == C) = true := by simp
  have b2 : ((C == 0) == (a == e && (b == f && (c == g && (d == h && true))))) = true := by
    by_cases hC : C = 0
    · obtain ⟨r1, r2, r3, r4⟩ := hx.1 hC
      subst r1 r2 r3 r4
      simp [hC]
    · have hno : ¬ (a = e ∧ b = f ∧ c = g ∧ d = h) := fun hq => hC (hx.2 hq)
      have e1 : (C == 0) = false := by simpa using hC
      have e2 : (a == e && (b == f && (c == g && (d == h && true)))) = false := by
        simp
        intro r1 r2 r3 r4
        exact hno ⟨r1, r2, r3, r4⟩
      rw [e1, e2]
      rfl
  rw [b1, b2, k1, k2, k3]
  rfl
theorem mid_of (k : Nat) {n a b c d e f g h : Int} (hs : Fn.f5.l100015 k (fun t2 => some t2) (n, a, b, c, d, e, f, g, h) = some true)
    (h1 : (∃ p q r s, Fn.f35.F k (a, b, c, d, e, f, g, h) = some (p, q, r, s, 0) ∧ Fn.f32.F k (p, q, r, s, e, f, g, h) = some (a, b, c, d, 0)) ∨ Fn.f35.F k (a, b, c, d, e, f, g, h) = some (0, 0, 0, 0, 1)) :
    Fn.f5.l100010 k (fun t2 => some t2) (n, a, b, c, d, e, f, g, h) = some true := by
  unfold Fn.f5.l100010
  dsimp only
  rcases h1 with ⟨p, q, r, s, h1, h2⟩ | h1
  · rw [h1]
    simp only [Option.bind_some]
    rw [h2]
    simp only [Option.bind_some]
    rw [eq4]
    exact hs
  · rw [h1]
    simp only [Option.bind_some]
    exact hs
theorem both_of (k : Nat) {n a b c d e f g h p q : Int} (hs : Fn.f5.l100010 k (fun t2 => some t2) (n, a, b, c, d, e, f, g, h) = some true)
    (h1 : Fn.f32.F k (a, b, c, d, a, b, c, d) = some (0, 0, 0, 0, 0)) (h2 : Fn.f33.F k (a, b, c, d) = some (p, q, 0)) (h3 : Fn.f34.F k (p, q) = some (a, b, c, d, 0)) :
    Fn.f5.l100005 k (fun t2 => some t2) (n, a, b, c, d, e, f, g, h) = some true := by
  unfold Fn.f5.l100005
  dsimp only
  rw [h1, h2]
  simp only [Option.bind_some]
  rw [h3]
  simp only [Option.bind_some]
  rw [eq4, eq4]
  exact hs
theorem both_eq (n : Int) (h0 : 0 ≤ n) (h1 : n ≤ 127) {a b c d e f g h : Int} (o1 : okI a b c d) (o2 : okI e f g h) : Fn.f5.l100005 9223372036854775808 (fun t2 => some t2) (n, a, b, c, d, e, f, g, h) = some true := by
  obtain ⟨y, z, hy, hz, k1, k2, k3⟩ := name_back n h0 h1
  obtain ⟨C, C', c1, c2, c3, c4, c5⟩ := @cmp_facts a b c d e f g h
  have q1 := Compare_eq o1 o2
  have q2 := Compare_eq o2 o1
  rw [c1] at q1
  rw [c2] at q2
  have hd : Fn.f32.F 9223372036854775808 (a, b, c, d, a, b, c, d) = some (0, 0, 0, 0, 0) := by
    rw [diff_eq o1 o1]
    have e1 : a + (0 - a) = 0 := by omega
    have e2 : b + (0 - b) = 0 := by omega
    have e3 : c + (0 - c) = 0 := by omega
    have e4 : d + (0 - d) = 0 := by omega
    rw [e1, e2, e3, e4, if_pos (by decide)]
  refine both_of _ (mid_of _ (fin_eq _ q1 q2 hy hz k1 k2 k3 c3 c4 c5) ?_) hd (Quot_eq o1) (Of_eq o1)
  by_cases k : okI (a + e) (b + f) (c + g) (d + h)
  · refine .inl ⟨a + e, b + f, c + g, d + h, ?_, ?_⟩
    · rw [sum_eq o1 o2, if_pos k]
    · rw [diff_eq k o2]
      have e1 : a + e + (0 - e) = a := by omega
      have e2 : b + f + (0 - f) = b := by omega
      have e3 : c + g + (0 - g) = c := by omega
      have e4 : d + h + (0 - h) = d := by omega
      rw [e1, e2, e3, e4, if_pos o1]
  · exact .inr (by rw [sum_eq o1 o2, if_neg k])
theorem law_of (k : Nat) (l : List Int) (hl : l.length ≤ 1125899906842624)
    (hi : ∀ (at_ : Int), 0 ≤ at_ → at_ ≤ 800000 → Som (Fn.f28.F k (l, at_)) (fun r => r.2.2.2.2.1 = l ∧ at_ ≤ r.2.2.2.2.2 ∧ r.2.2.2.2.2 ≤ at_ + 20))
    (hf : ∀ a b c d, Fn.f30.F k (a, b, c, d) = some (if okI a b c d then 0 else 1))
    (hb : ∀ (n : Int), 0 ≤ n → n ≤ 127 → ∀ {a b c d e f g h : Int}, okI a b c d → okI e f g h → Fn.f5.l100005 k (fun t2 => some t2) (n, a, b, c, d, e, f, g, h) = some true) : Som (Fn.f5.F k l) (fun r => r = true) := by
  unfold Fn.f5.F
  refine Som.bind (hi 0 (by omega) (by omega)) (fun a ha => ?_)
  rw [ha.1]
  refine Som.bind (hi _ (by omega) (by omega)) (fun b hb2 => ?_)
  rw [hb2.1]
  refine Som.bind (range_som k l _ 0 127 hl (by omega) (by omega) (by omega) (by omega) (by omega) (by omega)) (fun c hc => ?_)
  rw [hf, hf]
  simp only [Option.bind_some]
  by_cases o1 : okI a.1 a.2.1 a.2.2.1 a.2.2.2.1
  · rw [if_pos o1]
    by_cases o2 : okI b.1 b.2.1 b.2.2.1 b.2.2.2.1
    · rw [if_pos o2]
      exact ⟨true, hb c.1 hc.2.2.2.1 (by rcases hc.2.2.2.2 with h | h <;> omega) o1 o2, rfl⟩
    · rw [if_neg o2]
      exact ⟨true, rfl, rfl⟩
  · rw [if_neg o1]
    exact ⟨true, rfl, rfl⟩
theorem law_pure (l : List Int) (hl : l.length ≤ 1125899906842624) : ∃ k, Fn.f5.F k l = some true := by
  obtain ⟨r, h, rfl⟩ := law_of 9223372036854775808 l hl (fun at_ h0 h1 => interval_som l at_ hl h0 h1) fault_eq (fun n h0 h1 => both_eq n h0 h1)
  exact ⟨_, h⟩

end Pure
