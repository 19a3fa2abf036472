/- The pure statement of the law WithinIsWithin: whatever the stream, the law comes to true. -/
import Derived.Test.YtdagocpgefjmdaaDoorPWithinIsWithinx6
import Derived.Shelf.Bits.Mul64
set_option linter.unusedVariables false
namespace Go.Proofs.YtdagocpgefjmdaaDoor.Pure
open Go.RowKit Go.Proofs.YtdagocpgefjmdaaDoor.PWithinIsWithin Go.Proofs.YtdagocpgefjmdaaDoorW.PrintWords Go.Proofs.YtdagocpgefjmdaaDoorW.PrintLast
/-! ## What comes to an answer -/
def Som {α : Type} (o : Option α) (P : α → Prop) : Prop := ∃ r, o = some r ∧ P r
def Tot {α : Type} (g : Nat → Option α) (P : α → Prop) : Prop := ∃ r, P r ∧ ∃ K, ∀ k, K ≤ k → g k = some r
theorem Som.tot {α : Type} {o : Option α} {P : α → Prop} (h : Som o P) : Tot (fun _ => o) P := by
  obtain ⟨r, h, hp⟩ := h
  exact ⟨r, hp, 0, fun _ _ => h⟩
theorem Som.mono {α : Type} {o : Option α} {P Q : α → Prop} (h : Som o P) (i : ∀ r, P r → Q r) : Som o Q := by
  obtain ⟨r, h, hp⟩ := h
  exact ⟨r, h, i r hp⟩
theorem Tot.mono {α : Type} {g : Nat → Option α} {P Q : α → Prop} (h : Tot g P) (i : ∀ r, P r → Q r) : Tot g Q := by
  obtain ⟨r, hp, h⟩ := h
  exact ⟨r, i r hp, h⟩
theorem Som.one {α : Type} {r : α} {P : α → Prop} (h : P r) : Som (some r) P := ⟨r, rfl, h⟩
theorem Tot.one {α : Type} {r : α} {P : α → Prop} (h : P r) : Tot (fun _ => some r) P := ⟨r, h, 0, fun _ _ => rfl⟩
theorem Som.bind {α β : Type} {o : Option α} {f : α → Option β} {P : α → Prop} {Q : β → Prop} (h : Som o P) (i : ∀ a, P a → Som (f a) Q) : Som (o.bind f) Q := by
  obtain ⟨r, rfl, hp⟩ := h
  exact i r hp
theorem Tot.bind {α β : Type} {g : Nat → Option α} {f : Nat → α → Option β} {P : α → Prop} {Q : β → Prop} (h : Tot g P) (i : ∀ a, P a → Tot (fun k => f k a) Q) : Tot (fun k => (g k).bind (f k)) Q := by
  obtain ⟨r, hp, K, hK⟩ := h
  obtain ⟨s, hq, L, hL⟩ := i r hp
  refine ⟨s, hq, max K L, fun k hk => ?_⟩
  show (g k).bind (f k) = some s
  rw [hK k (by omega)]
  exact hL k (by omega)
theorem Tot.bind0 {α β : Type} {o : Option α} {f : Nat → α → Option β} {P : α → Prop} {Q : β → Prop} (h : Som o P) (i : ∀ a, P a → Tot (fun k => f k a) Q) : Tot (fun k => o.bind (f k)) Q := Tot.bind h.tot i
theorem Tot.succ {α : Type} {g : Nat → Option α} {P : α → Prop} (h : Tot (fun k => g (k + 1)) P) : Tot g P := by
  obtain ⟨r, hp, K, hK⟩ := h
  refine ⟨r, hp, K + 1, fun k hk => ?_⟩
  obtain ⟨m, rfl⟩ : ∃ m, k = m + 1 := ⟨k - 1, by omega⟩
  exact hK m (by omega)
theorem Tot.pos {α : Type} {c : Prop} [Decidable c] {g f : Nat → Option α} {P : α → Prop} (hc : c) (h : Tot g P) : Tot (fun k => if c then g k else f k) P := by simpa only [if_pos hc] using h
theorem Tot.neg {α : Type} {c : Prop} [Decidable c] {g f : Nat → Option α} {P : α → Prop} (hc : ¬ c) (h : Tot f P) : Tot (fun k => if c then g k else f k) P := by simpa only [if_neg hc] using h
theorem Tot.ite {α : Type} {c : Prop} [Decidable c] {g f : Nat → Option α} {P : α → Prop} (h : c → Tot g P) (i : ¬ c → Tot f P) : Tot (fun k => if c then g k else f k) P := by
  by_cases hc : c
  · exact Tot.pos hc (h hc)
  · exact Tot.neg hc (i hc)
theorem Som.pos {α : Type} {c : Prop} [Decidable c] {o p : Option α} {P : α → Prop} (hc : c) (h : Som o P) : Som (if c then o else p) P := by rwa [if_pos hc]
theorem Som.neg {α : Type} {c : Prop} [Decidable c] {o p : Option α} {P : α → Prop} (hc : ¬ c) (h : Som p P) : Som (if c then o else p) P := by rwa [if_neg hc]
theorem Som.ite {α : Type} {c : Prop} [Decidable c] {o p : Option α} {P : α → Prop} (h : c → Som o P) (i : ¬ c → Som p P) : Som (if c then o else p) P := by
  by_cases hc : c
  · exact Som.pos hc (h hc)
  · exact Som.neg hc (i hc)
theorem Tot.ex {g : Nat → Option Bool} (h : Tot g (fun r => r = true)) : ∃ k, g k = some true := by
  obtain ⟨r, rfl, K, hK⟩ := h
  exact ⟨K, hK K (Nat.le_refl _)⟩
theorem wr {x : Int} (h0 : -9223372036854775808 ≤ x) (h1 : x ≤ 9223372036854775807) : wrap64 x = x := by unfold wrap64; omega
theorem wrn {m : Nat} (h : m ≤ 9223372036854775807) : wrap64 (m : Int) = (m : Int) := wr (by omega) (by omega)

/-! ## The stream -/
theorem below_som (x n : Int) (hn : n ≤ 4611686018427387904) : Som (gleemake_Below.f x n) (fun r => (n < 1 → r = 0) ∧ (1 ≤ n → 0 ≤ r ∧ r < n)) := by
  unfold gleemake_Below.f
  refine Som.ite (fun h => Som.one ⟨fun _ => rfl, fun h' => by omega⟩) (fun h => ?_)
  have h1 := Int.tmod_lt_of_pos x (show 0 < n by omega)
  have h2 := Int.lt_tmod_of_pos x (show 0 < n by omega)
  refine Som.neg (by omega) (Som.ite (fun h3 => ?_) (fun h3 => Som.one ⟨fun h' => by omega, fun _ => by omega⟩))
  rw [wr (by omega) (by omega)]
  exact Som.one ⟨fun h' => by omega, fun _ => by omega⟩
theorem next_som (l : List Int) (at_ n : Int) (hl : l.length ≤ 1125899906842624) (h0 : 0 ≤ at_) (h1 : at_ ≤ 1000000) (hn : n ≤ 4611686018427387904) :
    Som (gleemake_Stream_Next.f l at_ n) (fun r => r.2 = at_ + 1 ∧ (n < 1 → r.1 = 0) ∧ (1 ≤ n → 0 ≤ r.1 ∧ r.1 < n)) := by
  unfold gleemake_Stream_Next.f
  rw [wr (x := at_ + 1) (by omega) (by omega)]
  refine Som.ite (fun h => ?_) (fun h => ?_)
  · exact Som.bind (below_som _ n hn) (fun a ha => Som.one ⟨rfl, ha.1, ha.2⟩)
  · have e : wrap64 (at_ + 1 - 1) = at_ := by rw [wr] <;> omega
    rw [e]
    have h2 := Int.tmod_lt_of_pos at_ (show 0 < (l.length : Int) by omega)
    have h3 := Int.tmod_nonneg (l.length : Int) h0
    refine Som.pos h3 (Som.pos h2 ?_)
    refine Som.bind (below_som _ _ (by omega)) (fun a _ => Som.bind (below_som _ n hn) (fun b hb => Som.one ⟨rfl, hb.1, hb.2⟩))
theorem range_som (l : List Int) (at_ lo hi : Int) (hl : l.length ≤ 1125899906842624) (h0 : 0 ≤ at_) (h1 : at_ ≤ 1000000) (b0 : -2199023255552 ≤ lo) (b1 : lo ≤ 2199023255552) (b2 : -2199023255552 ≤ hi) (b3 : hi ≤ 2199023255552) :
    Som (gleemake_Stream_Range.f l at_ lo hi) (fun r => at_ ≤ r.2 ∧ r.2 ≤ at_ + 1 ∧ lo ≤ r.1 ∧ (r.1 ≤ hi ∨ hi < lo ∧ r.1 = lo)) := by
  unfold gleemake_Stream_Range.f
  refine Som.ite (fun h => Som.one ⟨by simp, by simp; omega, by simp, .inr ⟨h, rfl⟩⟩) (fun h => ?_)
  rw [wr (x := hi - lo) (by omega) (by omega), wr (x := hi - lo + 1) (by omega) (by omega)]
  refine Som.bind (next_som l at_ _ hl h0 h1 (by omega)) (fun a ha => ?_)
  have h2 := ha.2.2 (by omega)
  rw [wr (by omega) (by omega)]
  exact Som.one ⟨by simp; omega, by simp; omega, by simp; omega, .inl (by simp; omega)⟩
theorem flip_som (l : List Int) (at_ n : Int) (hl : l.length ≤ 1125899906842624) (h0 : 0 ≤ at_) (h1 : at_ ≤ 1000000) (hn : n ≤ 4611686018427387904) :
    Som (gleemake_Stream_Flip.f l at_ n) (fun r => r.2 = at_ + 1) := by
  unfold gleemake_Stream_Flip.f
  exact Som.bind (next_som l at_ n hl h0 h1 hn) (fun a ha => Som.one ha.1)
theorem pick_som (l : List Int) (at_ : Int) (xs : List Int) (hl : l.length ≤ 1125899906842624) (h0 : 0 ≤ at_) (h1 : at_ ≤ 1000000) (hx : 0 < xs.length) (hx2 : xs.length ≤ 1000000) :
    Som (gleemake_Stream_Pick.f l at_ xs) (fun r => r.2 = at_ + 1 ∧ r.1 ∈ xs) := by
  unfold gleemake_Stream_Pick.f
  refine Som.bind (next_som l at_ _ hl h0 h1 (by omega)) (fun a ha => ?_)
  have h2 := ha.2.2 (by omega)
  refine Som.pos h2.1 (Som.pos h2.2 (Som.one ⟨ha.1, ?_⟩))
  show rd xs a.1 ∈ xs
  unfold rd
  rw [List.getD_eq_getElem?_getD, List.getElem?_eq_getElem (by omega)]
  exact List.getElem_mem _
theorem odd_som (l : List Int) (at_ lo hi : Int) (hl : l.length ≤ 1125899906842624) (h0 : 0 ≤ at_) (h1 : at_ ≤ 900000) (b0 : -1099511627776 ≤ lo) (b1 : lo ≤ 1099511627776) (b2 : -1099511627776 ≤ hi) (b3 : hi ≤ 1099511627776) :
    Som (gleemake_Stream_Odd.f l at_ lo hi) (fun r => at_ ≤ r.2 ∧ r.2 ≤ at_ + 2 ∧ -1099511627777 ≤ r.1 ∧ r.1 ≤ 1099511627777) := by
  unfold gleemake_Stream_Odd.f
  refine Som.bind (flip_som l at_ 12 hl h0 (by omega) (by omega)) (fun a ha => Som.ite (fun _ => ?_) (fun _ => ?_))
  · rw [wr (x := lo - 1) (by omega) (by omega), wr (x := hi + 1) (by omega) (by omega)]
    refine Som.bind (pick_som l _ _ hl (by omega) (by omega) (by simp) (by simp)) (fun b hb => Som.one ⟨by simp; omega, by simp; omega, ?_⟩)
    have := hb.2
    simp only [List.mem_cons, List.not_mem_nil, or_false] at this
    show -1099511627777 ≤ b.1 ∧ b.1 ≤ 1099511627777
    omega
  · refine Som.bind (range_som l _ lo hi hl (by omega) (by omega) (by omega) (by omega) (by omega) (by omega)) (fun b hb => Som.one ⟨by simp; omega, by simp; omega, ?_⟩)
    show -1099511627777 ≤ b.1 ∧ b.1 ≤ 1099511627777
    omega

/-! ## Quotients -/
def qn (a b c d : Int) : Nat := 2 ^ a.toNat * 3 ^ b.toNat * 5 ^ c.toNat * 7 ^ d.toNat
theorem pow_le {p m n : Nat} (hp : 0 < p) (h : m ≤ n) : p ^ m ≤ p ^ n := Nat.pow_le_pow_right hp h
theorem mul4_le {a b c d a' b' c' d' : Nat} (h1 : a ≤ a') (h2 : b ≤ b') (h3 : c ≤ c') (h4 : d ≤ d') : a * b * c * d ≤ a' * b' * c' * d' :=
  Nat.mul_le_mul (Nat.mul_le_mul (Nat.mul_le_mul h1 h2) h3) h4
theorem qn_le (a b c d : Int) (ha : a ≤ 24) (hb : b ≤ 10) (hc : c ≤ 5) (hd : d ≤ 3) : qn a b c d ≤ 1061880396247200000 + 2000000000000000000 :=
  Nat.le_trans (mul4_le (pow_le (by decide) (show a.toNat ≤ 24 by omega)) (pow_le (by decide) (show b.toNat ≤ 10 by omega)) (pow_le (by decide) (show c.toNat ≤ 5 by omega)) (pow_le (by decide) (show d.toNat ≤ 3 by omega))) (by decide)
theorem qn_pos (a b c d : Int) : 1 ≤ qn a b c d :=
  Nat.mul_pos (Nat.mul_pos (Nat.mul_pos (Nat.pow_pos (by decide)) (Nat.pow_pos (by decide))) (Nat.pow_pos (by decide))) (Nat.pow_pos (by decide))
theorem step_le {D p d M : Nat} (hp : 1 ≤ p) (h : D * p ^ (d + 1) ≤ M) : D * p * p ^ d ≤ M ∧ D * p ≤ M := by
  have e : D * p ^ (d + 1) = D * p * p ^ d := by rw [Nat.pow_succ, Nat.mul_comm (p ^ d) p, Nat.mul_assoc]
  rw [e] at h
  exact ⟨h, Nat.le_trans (Nat.le_mul_of_pos_right _ (Nat.pow_pos hp)) h⟩
theorem step_eq (D p d : Nat) : D * p * p ^ d = D * p ^ (d + 1) := by rw [Nat.pow_succ, Nat.mul_comm (p ^ d) p, Nat.mul_assoc]
abbrev M62 : Nat := 4611686018427387904
theorem q_l2 (i s n : Int) (p : Nat) (hi0 : 0 ≤ i) (hi4 : i < 4) (hp : rd ([2, 3, 5, 7] : List Int) i = (p : Int)) (hp1 : 1 ≤ p) (x y z t : Int) (N : Nat) {Q : Int × Int → Prop} (hn : n ≤ 100) :
    ∀ (d : Nat) (D : Nat) (j : Int), j + d = n → 0 ≤ j → D * p ^ d ≤ M62 → Tot (fun k => tune_quotient.l0 k (wrap64 (s + 1)) x y z t N (D * p ^ d : Nat)) Q → Tot (fun k => tune_quotient.l2 k i s n j x y z t N D) Q := by
  intro d
  induction d with
  | zero =>
    intro D j h1 h2 h3 h
    refine Tot.succ ?_
    simp only [tune_quotient.l2]
    exact Tot.neg (by omega) (by simpa using h)
  | succ d ih =>
    intro D j h1 h2 h3 h
    have h4 := step_le hp1 h3
    refine Tot.succ ?_
    simp only [tune_quotient.l2, tune_primes.f, Option.bind_some]
    refine Tot.pos (by omega) (Tot.pos hi0 (Tot.pos hi4 ?_))
    rw [hp, wr (x := j + 1) (by omega) (by omega)]
    have e : wrap64 ((D : Int) * (p : Int)) = ((D * p : Nat) : Int) := by
      rw [← Int.natCast_mul]
      exact wr (by omega) (by have := h4.2; unfold M62 at this; omega)
    rw [e]
    exact ih (D * p) (j + 1) (by omega) (by omega) h4.1 (by rw [step_eq]; exact h)
theorem q_l1 (i s n : Int) (p : Nat) (hi0 : 0 ≤ i) (hi4 : i < 4) (hp : rd ([2, 3, 5, 7] : List Int) i = (p : Int)) (hp1 : 1 ≤ p) (x y z t : Int) (D : Nat) {Q : Int × Int → Prop} (hn : n ≤ 100) :
    ∀ (d : Nat) (N : Nat) (j : Int), j + d = n → 0 ≤ j → N * p ^ d ≤ M62 → Tot (fun k => tune_quotient.l2 k i s (wrap64 (-n)) 0 x y z t (N * p ^ d : Nat) D) Q → Tot (fun k => tune_quotient.l1 k i n s n j x y z t N D) Q := by
  intro d
  induction d with
  | zero =>
    intro N j h1 h2 h3 h
    refine Tot.succ ?_
    simp only [tune_quotient.l1]
    exact Tot.neg (by omega) (by simpa using h)
  | succ d ih =>
    intro N j h1 h2 h3 h
    have h4 := step_le hp1 h3
    refine Tot.succ ?_
    simp only [tune_quotient.l1, tune_primes.f, Option.bind_some]
    refine Tot.pos (by omega) (Tot.pos hi0 (Tot.pos hi4 ?_))
    rw [hp, wr (x := j + 1) (by omega) (by omega)]
    have e : wrap64 ((N : Int) * (p : Int)) = ((N * p : Nat) : Int) := by
      rw [← Int.natCast_mul]
      exact wr (by omega) (by have := h4.2; unfold M62 at this; omega)
    rw [e]
    exact ih (N * p) (j + 1) (by omega) (by omega) h4.1 (by rw [step_eq]; exact h)
theorem q_step (i n : Int) (p : Nat) (hi0 : 0 ≤ i) (hi4 : i < 4) (hp : rd ([2, 3, 5, 7] : List Int) i = (p : Int)) (hp1 : 1 ≤ p) (x y z t : Int) (N D : Nat) {Q : Int × Int → Prop} (hn : n ≤ 100) (hn2 : -100 ≤ n)
    (hr : rd ([t, z, y, x] : List Int) i = n) (hN : N * p ^ n.toNat ≤ M62) (hD : D * p ^ (-n).toNat ≤ M62) (h : Tot (fun k => tune_quotient.l0 k (i + 1) x y z t (N * p ^ n.toNat : Nat) (D * p ^ (-n).toNat : Nat)) Q) :
    Tot (fun k => tune_quotient.l0 k i x y z t N D) Q := by
  refine Tot.succ ?_
  simp only [tune_quotient.l0]
  refine Tot.pos hi4 (Tot.pos hi0 ?_)
  rw [hr]
  have e1 : wrap64 (-n) = -n := wr (by omega) (by omega)
  have e2 : wrap64 (i + 1) = i + 1 := wr (by omega) (by omega)
  have h2 : ∀ M : Nat, Tot (fun k => tune_quotient.l0 k (i + 1) x y z t M (D * p ^ (-n).toNat : Nat)) Q → Tot (fun k => tune_quotient.l2 k i i (-n) 0 x y z t M D) Q := by
    intro M hM
    by_cases hs : n ≤ 0
    · exact q_l2 i i (-n) p hi0 hi4 hp hp1 x y z t M (by omega) (-n).toNat D 0 (by omega) (by omega) hD (by rw [e2]; exact hM)
    · refine Tot.succ ?_
      simp only [tune_quotient.l2]
      refine Tot.neg (by omega) ?_
      rw [e2]
      have : (-n).toNat = 0 := by omega
      rw [this] at hM
      simpa using hM
  by_cases hs : 0 ≤ n
  · exact q_l1 i i n p hi0 hi4 hp hp1 x y z t D (by omega) n.toNat N 0 (by omega) (by omega) hN (by rw [e1]; exact h2 _ h)
  · refine Tot.succ ?_
    simp only [tune_quotient.l1]
    refine Tot.neg (by omega) ?_
    rw [e1]
    have : n.toNat = 0 := by omega
    rw [this] at h
    exact h2 N (by simpa using h)
theorem quotient_tot (a b c d : Int) (ha : -24 ≤ a ∧ a ≤ 24) (hb : -10 ≤ b ∧ b ≤ 10) (hc : -5 ≤ c ∧ c ≤ 5) (hd : -3 ≤ d ∧ d ≤ 3) :
    Tot (fun k => tune_quotient.f k a b c d) (fun r => r = (((qn a b c d : Nat) : Int), ((qn (-a) (-b) (-c) (-d) : Nat) : Int))) := by
  have H1 := qn_le a b c d ha.2 hb.2 hc.2 hd.2
  have H2 := qn_le (-a) (-b) (-c) (-d) (by omega) (by omega) (by omega) (by omega)
  have m1 : ∀ x y : Nat, x * y ≤ M62 → 1 ≤ y → x ≤ M62 := fun x y h hy => Nat.le_trans (Nat.le_mul_of_pos_right _ hy) h
  have p2 : ∀ n : Nat, 1 ≤ 2 ^ n := fun n => Nat.pow_pos (by decide)
  have p3 : ∀ n : Nat, 1 ≤ 3 ^ n := fun n => Nat.pow_pos (by decide)
  have p5 : ∀ n : Nat, 1 ≤ 5 ^ n := fun n => Nat.pow_pos (by decide)
  have p7 : ∀ n : Nat, 1 ≤ 7 ^ n := fun n => Nat.pow_pos (by decide)
  have H3 : qn a b c d ≤ M62 := Nat.le_trans H1 (by decide)
  have H4 : qn (-a) (-b) (-c) (-d) ≤ M62 := Nat.le_trans H2 (by decide)
  unfold qn at H3 H4
  have a1 := m1 _ _ H3 (p7 _)
  have a2 := m1 _ _ a1 (p5 _)
  have a3 := m1 _ _ a2 (p3 _)
  have b1 := m1 _ _ H4 (p7 _)
  have b2 := m1 _ _ b1 (p5 _)
  have b3 := m1 _ _ b2 (p3 _)
  unfold tune_quotient.f
  have s0 := q_step (Q := fun r => r = (((qn a b c d : Nat) : Int), ((qn (-a) (-b) (-c) (-d) : Nat) : Int))) 0 a 2 (by omega) (by omega) rfl (by omega) d c b a 1 1 (by omega) (by omega) rfl (by rwa [Nat.one_mul]) (by rwa [Nat.one_mul])
  refine s0 ?_
  rw [Nat.one_mul, Nat.one_mul]
  refine q_step 1 b 3 (by omega) (by omega) rfl (by omega) d c b a _ _ (by omega) (by omega) rfl a2 b2 ?_
  refine q_step 2 c 5 (by omega) (by omega) rfl (by omega) d c b a _ _ (by omega) (by omega) rfl a1 b1 ?_
  refine q_step 3 d 7 (by omega) (by omega) rfl (by omega) d c b a _ _ (by omega) (by omega) rfl H3 H4 ?_
  refine Tot.succ ?_
  simp only [tune_quotient.l0]
  exact Tot.neg (by omega) (Tot.one rfl)

/-! ## The faults of intervals -/
def okI (a b c d : Int) : Prop := (-24 ≤ a ∧ a ≤ 24) ∧ (-10 ≤ b ∧ b ≤ 10) ∧ (-5 ≤ c ∧ c ≤ 5) ∧ (-3 ≤ d ∧ d ≤ 3)
instance (a b c d : Int) : Decidable (okI a b c d) := by unfold okI; infer_instance
def ifault (a b c d : Int) : Int := if okI a b c d then 0 else 1
theorem outside_eq (x lo hi : Int) : kit_Outside.f x lo hi = some (decide (¬ (lo ≤ x ∧ x ≤ hi))) := by
  unfold kit_Outside.f
  by_cases h : x < lo <;> by_cases h2 : x > hi <;> simp [h, h2] <;> omega
theorem check_eq (a b c d : Int) : tune_CheckInterval.f a b c d = some (ifault a b c d) := by
  unfold tune_CheckInterval.f ifault okI
  simp only [outside_eq, Option.bind_some, decide_eq_true_eq]
  by_cases h1 : -24 ≤ a ∧ a ≤ 24
  · by_cases h2 : -10 ≤ b ∧ b ≤ 10
    · by_cases h3 : -5 ≤ c ∧ c ≤ 5
      · by_cases h4 : -3 ≤ d ∧ d ≤ 3 <;> simp [h1, h2, h3, h4]
      · simp [h1, h2, h3]
    · simp [h1, h2]
  · simp [h1]
/-- The first of some that is not 0. -/
def firstOf : List Int → Int
  | [] => 0
  | x :: r => if x = 0 then firstOf r else x
theorem drop_cons_rd (xs : List Int) (i : Nat) (h : i < xs.length) : xs.drop i = rd xs (i : Int) :: xs.drop (i + 1) := by
  rw [List.drop_eq_getElem_cons h]
  simp [rd, List.getElem?_eq_getElem h]
/-! ## Within an octave -/
def Lg (N D : Nat) (n : Int) : Prop := ∃ u v : Nat, n = (v : Int) - (u : Int) ∧ D * 2 ^ v ≤ N * 2 ^ u ∧ N * 2 ^ u < 2 * (D * 2 ^ v)
theorem two_mul_pow (x m : Nat) : 2 * (x * 2 ^ m) = x * 2 ^ (m + 1) := by rw [Nat.pow_succ, Nat.mul_comm 2, Nat.mul_assoc]
theorem Lg.le {N D : Nat} {n m : Int} (h : Lg N D n) (k : Lg N D m) : m ≤ n := by
  obtain ⟨u, v, rfl, _, h2⟩ := h
  obtain ⟨u', v', rfl, k1, _⟩ := k
  refine Int.not_lt.1 fun hlt => ?_
  have e1 : N * 2 ^ (u + u') < D * 2 ^ (v + 1 + u') := by
    rw [two_mul_pow] at h2
    have := Nat.mul_lt_mul_of_pos_right h2 (show 0 < 2 ^ u' from Nat.pow_pos (by decide))
    rwa [Nat.mul_assoc, ← Nat.pow_add, Nat.mul_assoc, ← Nat.pow_add] at this
  have e2 : D * 2 ^ (v + 1 + u') ≤ D * 2 ^ (v' + u) := Nat.mul_le_mul_left _ (Nat.pow_le_pow_right (by decide) (by omega))
  have e3 : D * 2 ^ (v' + u) ≤ N * 2 ^ (u' + u) := by
    have := Nat.mul_le_mul_right (2 ^ u) k1
    rwa [Nat.mul_assoc, ← Nat.pow_add, Nat.mul_assoc, ← Nat.pow_add] at this
  rw [Nat.add_comm u' u] at e3
  omega
theorem Lg.one {N D : Nat} {n m : Int} (h : Lg N D n) (k : Lg N D m) : n = m := Int.le_antisymm (k.le h) (h.le k)
theorem Lg.shift {N D p q : Nat} {n : Int} (h : Lg (N * 2 ^ p) (D * 2 ^ q) n) : Lg N D (n + q - p) := by
  obtain ⟨u, v, rfl, h1, h2⟩ := h
  refine ⟨p + u, q + v, by omega, ?_, ?_⟩
  · rw [Nat.pow_add, Nat.pow_add, ← Nat.mul_assoc, ← Nat.mul_assoc]; exact h1
  · rw [Nat.pow_add, Nat.pow_add, ← Nat.mul_assoc N, ← Nat.mul_assoc D]; exact h2
theorem qn_two (a b c d : Int) : qn a b c d = qn 0 b c d * 2 ^ a.toNat := by
  have e : qn 0 b c d = 3 ^ b.toNat * 5 ^ c.toNat * 7 ^ d.toNat := by unfold qn; simp
  rw [e]
  unfold qn
  rw [Nat.mul_comm _ (2 ^ a.toNat), ← Nat.mul_assoc, ← Nat.mul_assoc]
theorem tdiv2 (N : Nat) : Int.tdiv (N : Int) 2 = ((N / 2 : Nat) : Int) := by rw [Int.tdiv_eq_ediv_of_nonneg (by omega)]; rfl
def wfin (a b c d n : Int) : Int × Int × Int × Int × Int × Int := if okI (a - n) b c d then (a - n, b, c, d, n, 0) else (0, 0, 0, 0, 0, 1)
theorem wfin_eq (a b c d n : Int) : (if ifault (a - n) b c d = 0 then some (a - n, b, c, d, n, 0) else some (0, 0, 0, 0, 0, ifault (a - n) b c d)) = some (wfin a b c d n) := by
  unfold wfin ifault
  by_cases h : okI (a - n) b c d <;> simp [h]
theorem w_l1 (a b c d : Int) (ha : -24 ≤ a ∧ a ≤ 24) (D : Nat) (hD : D ≤ M62) : ∀ (f N : Nat) (n : Int), 1 ≤ N → N < 2 * D → D ≤ N * 2 ^ f → -1000 + f ≤ n → n ≤ 1000 →
    Tot (fun k => tune_Within.l1 k n a b c d N D) (fun r => ∃ u : Nat, D ≤ N * 2 ^ u ∧ N * 2 ^ u < 2 * D ∧ r = wfin a b c d (n - u)) := by
  intro f
  induction f with
  | zero =>
    intro N n h1 h2 h3 h4 h5
    refine Tot.succ ?_
    simp only [tune_Within.l1]
    refine Tot.neg (by simp at h3; omega) ?_
    rw [check_eq, wr (x := a - n) (by omega) (by omega)]
    refine (Som.tot ?_)
    rw [Option.bind_some, wfin_eq]
    exact ⟨_, rfl, 0, by simpa using h3, by simpa using h2, by simp⟩
  | succ f ih =>
    intro N n h1 h2 h3 h4 h5
    refine Tot.succ ?_
    simp only [tune_Within.l1]
    refine Tot.ite (fun hlt => ?_) (fun hge => ?_)
    · have e : wrap64 ((N : Int) * 2) = ((N * 2 : Nat) : Int) := by unfold M62 at hD; rw [wr] <;> omega
      rw [wr (x := n - 1) (by omega) (by omega), e]
      have h3' : D ≤ N * 2 * 2 ^ f := by rw [Nat.pow_succ, Nat.mul_comm (2 ^ f) 2, ← Nat.mul_assoc] at h3; exact h3
      refine (ih (N * 2) (n - 1) (by omega) (by omega) h3' (by omega) (by omega)).mono ?_
      rintro r ⟨u, g1, g2, rfl⟩
      have e3 : N * 2 * 2 ^ u = N * 2 ^ (u + 1) := by rw [Nat.pow_succ, Nat.mul_comm (2 ^ u) 2, ← Nat.mul_assoc]
      rw [e3] at g1 g2
      exact ⟨u + 1, g1, g2, by rw [show n - 1 - (u : Int) = n - ((u + 1 : Nat) : Int) by omega]⟩
    · rw [check_eq, wr (x := a - n) (by omega) (by omega)]
      refine (Som.tot ?_)
      rw [Option.bind_some, wfin_eq]
      exact ⟨_, rfl, 0, by simp; omega, by simpa using h2, by simp⟩
theorem w_l0 (a b c d : Int) (ha : -24 ≤ a ∧ a ≤ 24) (N : Nat) (hN : N ≤ M62) (hN1 : 1 ≤ N) : ∀ (f D : Nat) (n : Int), 1 ≤ D → D ≤ M62 → N < D * 2 ^ f → -900 ≤ n → n + f ≤ 900 →
    Tot (fun k => tune_Within.l0 k n a b c d N D) (fun r => ∃ u v : Nat, D * 2 ^ v ≤ N * 2 ^ u ∧ N * 2 ^ u < 2 * (D * 2 ^ v) ∧ r = wfin a b c d (n + v - u)) := by
  intro f
  induction f with
  | zero =>
    intro D n h1 h2 h3 h4 h5
    refine Tot.succ ?_
    simp only [tune_Within.l0]
    rw [tdiv2, wr (by omega) (by unfold M62 at hN; omega)]
    refine Tot.neg (by simp at h3; omega) ?_
    refine (w_l1 a b c d ha D h2 62 N n hN1 (by simp at h3; omega) (Nat.le_trans h2 (Nat.le_trans (by decide) (Nat.le_mul_of_pos_left _ hN1))) (by omega) (by omega)).mono ?_
    rintro r ⟨u, g1, g2, rfl⟩
    exact ⟨u, 0, by simpa using g1, by simpa using g2, by simp⟩
  | succ f ih =>
    intro D n h1 h2 h3 h4 h5
    refine Tot.succ ?_
    simp only [tune_Within.l0]
    rw [tdiv2, wr (by omega) (by unfold M62 at hN; omega)]
    refine Tot.ite (fun hge => ?_) (fun hlt => ?_)
    · have hle : D * 2 ≤ N := by omega
      have e : wrap64 ((D : Int) * 2) = ((D * 2 : Nat) : Int) := by unfold M62 at hN; rw [wr] <;> omega
      rw [wr (x := n + 1) (by omega) (by omega), e]
      have e3 : ∀ m : Nat, D * 2 * 2 ^ m = D * 2 ^ (m + 1) := fun m => by rw [Nat.pow_succ, Nat.mul_comm (2 ^ m) 2, ← Nat.mul_assoc]
      refine (ih (D * 2) (n + 1) (by omega) (by omega) (by rw [e3]; exact h3) (by omega) (by omega)).mono ?_
      rintro r ⟨u, v, g1, g2, rfl⟩
      rw [e3] at g1 g2
      exact ⟨u, v + 1, g1, g2, by rw [show n + 1 + (v : Int) - u = n + ((v + 1 : Nat) : Int) - u by omega]⟩
    · refine (w_l1 a b c d ha D h2 62 N n hN1 (by omega) (Nat.le_trans h2 (Nat.le_trans (by decide) (Nat.le_mul_of_pos_left _ hN1))) (by omega) (by omega)).mono ?_
      rintro r ⟨u, g1, g2, rfl⟩
      exact ⟨u, 0, by simpa using g1, by simpa using g2, by simp⟩
def vfin (a b c d n : Int) : Int × Int × Int × Int × Int × Int := if okI (-n) b c d then (-n, b, c, d, a + n, 0) else (0, 0, 0, 0, 0, 1)
/-- What both come to: the octaves, told by the quotient without its twos. -/
theorem within_same (a b c d n : Int) (ha : -24 ≤ a ∧ a ≤ 24) : wfin a b c d (a + n) = vfin a b c d n := by
  unfold wfin vfin
  rw [show a - (a + n) = -n by omega]

/-! ## Sums and orders -/
abbrev SI : Type := S27
def okS (s : SI) : Prop := okI s.f0 s.f1 s.f2 s.f3
instance (s : SI) : Decidable (okS s) := by unfold okS; infer_instance
def allFault : List SI → Int
  | [] => 0
  | x :: r => if okS x then allFault r else 1
theorem drop_cons_rdI (xs : List SI) (i : Nat) (h : i < xs.length) : xs.drop i = rd_T27 xs (i : Int) :: xs.drop (i + 1) := by
  rw [List.drop_eq_getElem_cons h]
  simp [rd_T27, List.getElem?_eq_getElem h]
theorem all_tot (xs : List SI) (hl : xs.length ≤ 1000000) : ∀ (d i : Nat), i + d = xs.length → Tot (fun k => tune_checkAll.l0 k xs (xs.length : Int) (i : Int)) (fun r => r = allFault (xs.drop i)) := by
  intro d
  induction d with
  | zero =>
    intro i h
    refine Tot.succ ?_
    simp only [tune_checkAll.l0]
    refine Tot.neg (by omega) (Tot.one ?_)
    rw [List.drop_of_length_le (by omega)]
    rfl
  | succ d ih =>
    intro i h
    refine Tot.succ ?_
    simp only [tune_checkAll.l0]
    refine Tot.pos (by omega) (Tot.pos (by omega) (Tot.pos (by omega) ?_))
    have e : wrap64 ((i : Int) + 1) = ((i + 1 : Nat) : Int) := by rw [wr] <;> omega
    rw [e, drop_cons_rdI xs i (by omega), check_eq]
    simp only [Option.bind_some]
    unfold ifault
    by_cases ho : okS (rd_T27 xs (i : Int))
    · rw [if_pos (show okI _ _ _ _ from ho), allFault, if_pos ho]
      exact Tot.pos rfl (ih (i + 1) (by omega))
    · rw [if_neg (show ¬ okI _ _ _ _ from ho), allFault, if_neg ho]
      exact Tot.neg (by decide) (Tot.one rfl)
theorem checkAll_tot (xs : List SI) (hl : xs.length ≤ 1000000) : Tot (fun k => tune_checkAll.f k xs) (fun r => r = allFault xs) := all_tot xs hl xs.length 0 (by omega)
def bothFault (a b c d e f g h : Int) : Int := if okI a b c d then (if okI e f g h then 0 else 1) else 1
theorem allFault_two (a b c d e f g h : Int) : allFault [(⟨a, b, c, d⟩ : SI), (⟨e, f, g, h⟩ : SI)] = bothFault a b c d e f g h := by
  unfold bothFault
  simp only [allFault]
  rfl
def chk (a b c d : Int) : Int × Int × Int × Int × Int := if okI a b c d then (a, b, c, d, 0) else (0, 0, 0, 0, 1)
def csign (h l i m : Int) : Int := if h < i then -1 else if h = i then (if l < m then -1 else if l = m then 0 else 1) else 1
theorem j0_tot (h l i m : Int) : Tot (fun k => tune_compare.j0 k h l i m) (fun r => r = csign h l i m) := by
  have B : ∀ t : Bool, Tot (fun k => tune_compare.j1 k h l i m t) (fun r => r = if t = true then -1 else if h = i then (if l = m then 0 else 1) else 1) := by
    intro t
    refine Tot.succ ?_
    simp only [tune_compare.j1]
    refine Tot.ite (fun c => Tot.one (by rw [if_pos c])) (fun c => ?_)
    rw [if_neg c]
    refine Tot.ite (fun c => ?_) (fun c => Tot.one (by rw [if_neg c]))
    rw [if_pos c]
    exact Tot.ite (fun c => Tot.one (by rw [if_pos c])) (fun c => Tot.one (by rw [if_neg c]))
  refine Tot.succ ?_
  simp only [tune_compare.j0]
  unfold csign
  refine Tot.ite (fun c => (B _).mono ?_) (fun c => ?_)
  · rintro r rfl
    rw [if_pos rfl, if_pos c]
  · rw [if_neg c]
    refine Tot.ite (fun c2 => (B _).mono ?_) (fun c2 => (B _).mono ?_)
    · rintro r rfl
      rw [if_pos c2, if_pos c2]
      by_cases c3 : l < m <;> simp [c3]
    · rintro r rfl
      simp [c2]
theorem mul64_some (x y : Int) : ∃ h l, bits_Mul64.f x y = some (h, l) := ⟨_, _, rfl⟩
/-! ## The stream's intervals and quotients -/
theorem rdI_bound (xs : List SI) (i : Int) (P : SI → Prop) (h : ∀ s ∈ xs, P s) (h0 : 0 ≤ i) (h1 : i < xs.length) : P (rd_T27 xs i) := by
  unfold rd_T27
  rw [List.getD_eq_getElem?_getD, List.getElem?_eq_getElem (by omega)]
  exact h _ (List.getElem_mem _)
def near (x : Int) : Prop := -1099511627777 ≤ x ∧ x ≤ 1099511627777
theorem interval_tot (l : List Int) (at_ : Int) (hl : l.length ≤ 1125899906842624) (h0 : 0 ≤ at_) (h1 : at_ ≤ 800000) :
    Tot (fun k => gleemake_Stream_Interval.f k l at_) (fun r => at_ ≤ r.2.2.2.2 ∧ r.2.2.2.2 ≤ at_ + 20 ∧ near r.1 ∧ near r.2.1 ∧ near r.2.2.1 ∧ near r.2.2.2.1) := by
  have J : ∀ (p a b c d : Int), at_ ≤ p → p ≤ at_ + 10 → near a → near b → near c → near d →
      Tot (fun k => gleemake_Stream_Interval.j0 k l p a b c d) (fun r => at_ ≤ r.2.2.2.2 ∧ r.2.2.2.2 ≤ at_ + 20 ∧ near r.1 ∧ near r.2.1 ∧ near r.2.2.1 ∧ near r.2.2.2.1) := by
    intro p a b c d hp hp2 ha hb hc hd
    refine Tot.succ ?_
    simp only [gleemake_Stream_Interval.j0]
    refine Tot.bind0 (flip_som l p 15 hl (by omega) (by omega) (by omega)) (fun x hx => Tot.ite (fun _ => ?_) (fun _ => ?_))
    · refine Tot.bind0 (odd_som l _ (-24) 24 hl (by omega) (by omega) (by omega) (by omega) (by omega) (by omega)) (fun r1 hr1 => ?_)
      refine Tot.bind0 (odd_som l _ (-10) 10 hl (by omega) (by omega) (by omega) (by omega) (by omega) (by omega)) (fun r2 hr2 => ?_)
      refine Tot.bind0 (odd_som l _ (-5) 5 hl (by omega) (by omega) (by omega) (by omega) (by omega) (by omega)) (fun r3 hr3 => ?_)
      refine Tot.bind0 (odd_som l _ (-3) 3 hl (by omega) (by omega) (by omega) (by omega) (by omega) (by omega)) (fun r4 hr4 => Tot.one ?_)
      exact ⟨by show at_ ≤ r4.2; omega, by show r4.2 ≤ at_ + 20; omega, hr1.2.2, hr2.2.2, hr3.2.2, hr4.2.2⟩
    · exact Tot.one ⟨by show at_ ≤ x.2; omega, by show x.2 ≤ at_ + 20; omega, ha, hb, hc, hd⟩
  unfold gleemake_Stream_Interval.f
  simp only [Option.bind_some]
  refine Tot.bind0 (next_som l at_ 9 hl h0 (by omega) (by omega)) (fun x hx => ?_)
  have hx2 := hx.2.2 (by omega)
  refine Tot.pos hx2.1 (Tot.pos (by simpa using hx2.2) ?_)
  refine Tot.bind0 (flip_som l _ 4 hl (by omega) (by omega) (by omega)) (fun y hy => Tot.ite (fun _ => ?_) (fun _ => ?_))
  · have nr : ∀ (r : Int × Int) (lo hi : Int), -100 ≤ lo → hi ≤ 100 → lo ≤ hi → lo ≤ r.1 → (r.1 ≤ hi ∨ hi < lo ∧ r.1 = lo) → near r.1 := fun r lo hi h1 h2 h3 h4 h5 => by unfold near; omega
    refine Tot.bind0 (range_som l _ (-24) 24 hl (by omega) (by omega) (by omega) (by omega) (by omega) (by omega)) (fun r1 hr1 => ?_)
    refine Tot.bind0 (range_som l _ (-10) 10 hl (by omega) (by omega) (by omega) (by omega) (by omega) (by omega)) (fun r2 hr2 => ?_)
    refine Tot.bind0 (range_som l _ (-5) 5 hl (by omega) (by omega) (by omega) (by omega) (by omega) (by omega)) (fun r3 hr3 => ?_)
    refine Tot.bind0 (range_som l _ (-3) 3 hl (by omega) (by omega) (by omega) (by omega) (by omega) (by omega)) (fun r4 hr4 => ?_)
    exact J _ _ _ _ _ (by omega) (by omega) (nr _ _ _ (by omega) (by omega) (by omega) hr1.2.2.1 hr1.2.2.2) (nr _ _ _ (by omega) (by omega) (by omega) hr2.2.2.1 hr2.2.2.2) (nr _ _ _ (by omega) (by omega) (by omega) hr3.2.2.1 hr3.2.2.2) (nr _ _ _ (by omega) (by omega) (by omega) hr4.2.2.1 hr4.2.2.2)
  · have B := rdI_bound (i := x.1) (fun s => near s.f0 ∧ near s.f1 ∧ near s.f2 ∧ near s.f3) (xs := ([(⟨0, 0, 0, 0⟩ : SI), (⟨1, 0, 0, 0⟩ : SI), (⟨(-1), 1, 0, 0⟩ : SI), (⟨2, (-1), 0, 0⟩ : SI), (⟨(-2), 0, 1, 0⟩ : SI), (⟨(-3), 2, 0, 0⟩ : SI), (⟨1, (-2), 1, 0⟩ : SI), (⟨(-4), 4, (-1), 0⟩ : SI), (⟨(-2), 0, 0, 1⟩ : SI)] : List SI)) (by unfold near; simp) hx2.1 (by simpa using hx2.2)
    exact J _ _ _ _ _ (by omega) (by omega) B.1 B.2.1 B.2.2.1 B.2.2.2
def fits (x : Int) : Prop := x ≤ 9223372036854775807
/-! ## WithinIsWithin -/
theorem within_one (a b c d : Int) (h : okI a b c d) : ∃ n : Int, Tot (fun k => tune_Within.f k a b c d) (fun r => r = wfin a b c d (a + n)) ∧
    Lg (qn 0 b c d) (qn 0 (-b) (-c) (-d)) n := by
  obtain ⟨ha, hb, hc, hd⟩ := h
  have B : ∀ x y z t : Int, -24 ≤ x ∧ x ≤ 24 → -10 ≤ y ∧ y ≤ 10 → -5 ≤ z ∧ z ≤ 5 → -3 ≤ t ∧ t ≤ 3 → qn x y z t ≤ 3061880396247200000 := fun x y z t h1 h2 h3 h4 => Nat.le_trans (qn_le x y z t h1.2 h2.2 h3.2 h4.2) (by decide)
  have hb' : -10 ≤ -b ∧ -b ≤ 10 := by omega
  have hc' : -5 ≤ -c ∧ -c ≤ 5 := by omega
  have hd' : -3 ≤ -d ∧ -d ≤ 3 := by omega
  have B1 := B a b c d ha hb hc hd
  have B2 := B (-a) (-b) (-c) (-d) (by omega) hb' hc' hd'
  have B3 := B 0 b c d (by omega) hb hc hd
  have B4 := B 0 (-b) (-c) (-d) (by omega) hb' hc' hd'
  have big : ∀ N D : Nat, N ≤ 3061880396247200000 → 1 ≤ D → N < D * 2 ^ 62 := fun N D h1 h2 => Nat.lt_of_lt_of_le (Nat.lt_of_le_of_lt h1 (by decide)) (Nat.le_mul_of_pos_left (2 ^ 62) h2)
  have W := Tot.bind (f := fun k bt => tune_Within.l0 k 0 a b c d bt.1 bt.2) (quotient_tot a b c d ha hb hc hd) (fun r hr => by
    subst hr
    exact w_l0 a b c d ha (qn a b c d) (Nat.le_trans B1 (by decide)) (qn_pos _ _ _ _) 62 (qn (-a) (-b) (-c) (-d)) 0 (qn_pos _ _ _ _) (Nat.le_trans B2 (by decide)) (big _ _ B1 (qn_pos _ _ _ _)) (by omega) (by omega))
  obtain ⟨r, ⟨u', v', k1, k2, rfl⟩, hW⟩ := W
  have L2 : Lg (qn a b c d) (qn (-a) (-b) (-c) (-d)) (0 + v' - u') := ⟨u', v', by omega, k1, k2⟩
  rw [qn_two a, qn_two (-a)] at L2
  have L3 := L2.shift
  refine ⟨_, ?_, L3⟩
  · refine ⟨_, rfl, ?_⟩
    obtain ⟨K, hK⟩ := hW
    refine ⟨K, fun k hk => ?_⟩
    have e : tune_Within.f k a b c d = (tune_quotient.f k a b c d).bind fun bt => tune_Within.l0 k 0 a b c d bt.1 bt.2 := by
      unfold tune_Within.f
      rw [check_eq, Option.bind_some]
      unfold ifault
      rw [if_pos (show okI a b c d from ⟨ha, hb, hc, hd⟩), if_pos rfl]
    show tune_Within.f k a b c d = _
    rw [e]
    exact (hK k hk).trans (congrArg (fun x => some (wfin a b c d x)) (by omega))
theorem withinC_no (a b c d : Int) (ho : ¬ okI a b c d) : Tot (fun k => tune_Within.f k a b c d) (fun r => r = (0, 0, 0, 0, 0, 1)) := by
  unfold tune_Within.f
  simp only [check_eq, Option.bind_some]
  unfold ifault
  simp only [if_neg ho]
  exact Tot.one rfl
theorem compareC_tot (a b c d e f g h s : Int) (hs : okI a b c d → okI e f g h → Tot (fun k => tune_compare.f k a b c d e f g h) (fun r => r = s)) :
    Tot (fun k => tune_Compare.f k a b c d e f g h) (fun r => r = if bothFault a b c d e f g h = 0 then (s, 0) else (0, bothFault a b c d e f g h)) := by
  unfold tune_Compare.f
  refine Tot.bind (checkAll_tot _ (by simp)) (fun r hr => ?_)
  rw [allFault_two] at hr
  subst hr
  refine Tot.ite (fun h0 => ?_) (fun h0 => Tot.one (by rw [if_neg h0]))
  rw [if_pos h0]
  have ok : okI a b c d ∧ okI e f g h := by
    unfold bothFault at h0
    by_cases h1 : okI a b c d
    · by_cases h2 : okI e f g h
      · exact ⟨h1, h2⟩
      · simp [h1, h2] at h0
    · simp [h1] at h0
  exact Tot.bind (hs ok.1 ok.2) (fun r hr => Tot.one (by rw [hr]))
theorem mul64_eq (x y : Nat) (hx : x < 18446744073709551616) (hy : y < 18446744073709551616) : bits_Mul64.f (x : Int) (y : Int) = some (((x * y / 18446744073709551616 : Nat) : Int), ((x * y % 18446744073709551616 : Nat) : Int)) := by
  obtain ⟨bd, bt, bw, hhi⟩ := Lib.mul64_hi x y hx hy
  have ba := Lib.half_mul_le (a := x / 4294967296) (b := y / 4294967296) (by omega) (by omega)
  have bb := Lib.half_mul_le (a := x / 4294967296) (b := y % 4294967296) (by omega) (by omega)
  have bc := Lib.half_mul_le (a := x % 4294967296) (b := y / 4294967296) (by omega) (by omega)
  have ba' : x / 4294967296 * (y / 4294967296) < 18446744073709551616 := by omega
  have bb' : x / 4294967296 * (y % 4294967296) < 18446744073709551616 := by omega
  have bc' : x % 4294967296 * (y / 4294967296) < 18446744073709551616 := by omega
  have bh1 : x / 4294967296 * (y / 4294967296) + (x / 4294967296 * (y % 4294967296) + x % 4294967296 * (y % 4294967296) / 4294967296) / 4294967296 < 18446744073709551616 := by omega
  have bh : x / 4294967296 * (y / 4294967296) + (x / 4294967296 * (y % 4294967296) + x % 4294967296 * (y % 4294967296) / 4294967296) / 4294967296 + ((x / 4294967296 * (y % 4294967296) + x % 4294967296 * (y % 4294967296) / 4294967296) % 4294967296 + x % 4294967296 * (y / 4294967296)) / 4294967296 < 18446744073709551616 := by omega
  unfold bits_Mul64.f
  simp only [Mul64.maskN x hx, Mul64.maskN y hy, Mul64.divN, Mul64.mulN, Mul64.addN, Mul64.wrapN _ bd, Mul64.wrapN _ bb', Mul64.wrapN _ bt, Mul64.maskN _ bt, Mul64.wrapN _ bc', Mul64.wrapN _ bw, Mul64.wrapN _ ba', Mul64.wrapN _ bh1, Mul64.wrapN _ bh, Mul64.wrapM (x * y)]
  rw [hhi]
theorem compare_small (a b c d e f g h : Int) (h1 : okI a b c d) (h2 : okI e f g h) (hx : qn a b c d * qn (-e) (-f) (-g) (-h) < 18446744073709551616) (hy : qn e f g h * qn (-a) (-b) (-c) (-d) < 18446744073709551616) :
    Tot (fun k => tune_compare.f k a b c d e f g h) (fun r => r = if qn a b c d * qn (-e) (-f) (-g) (-h) < qn e f g h * qn (-a) (-b) (-c) (-d) then -1 else if qn a b c d * qn (-e) (-f) (-g) (-h) = qn e f g h * qn (-a) (-b) (-c) (-d) then 0 else 1) := by
  obtain ⟨k1, k2, k3, k4⟩ := h1
  obtain ⟨m1, m2, m3, m4⟩ := h2
  have B : ∀ x y z t : Int, -24 ≤ x ∧ x ≤ 24 → -10 ≤ y ∧ y ≤ 10 → -5 ≤ z ∧ z ≤ 5 → -3 ≤ t ∧ t ≤ 3 → qn x y z t < 18446744073709551616 := fun x y z t h1 h2 h3 h4 => Nat.lt_of_le_of_lt (qn_le x y z t h1.2 h2.2 h3.2 h4.2) (by decide)
  have B1 := B a b c d k1 k2 k3 k4
  have B2 := B (-a) (-b) (-c) (-d) (by omega) (by omega) (by omega) (by omega)
  have B3 := B e f g h m1 m2 m3 m4
  have B4 := B (-e) (-f) (-g) (-h) (by omega) (by omega) (by omega) (by omega)
  unfold tune_compare.f
  refine Tot.bind (quotient_tot a b c d k1 k2 k3 k4) (fun r hr => ?_)
  subst hr
  refine Tot.bind (quotient_tot e f g h m1 m2 m3 m4) (fun r hr => ?_)
  subst hr
  simp only [Mul64.wrapN _ B1, Mul64.wrapN _ B2, Mul64.wrapN _ B3, Mul64.wrapN _ B4, mul64_eq _ _ B1 B4, mul64_eq _ _ B3 B2, Option.bind_some]
  refine (j0_tot _ _ _ _).mono ?_
  rintro r rfl
  generalize qn a b c d * qn (-e) (-f) (-g) (-h) = X at *
  generalize qn e f g h * qn (-a) (-b) (-c) (-d) = Y at *
  unfold csign
  have e1 : X / 18446744073709551616 = 0 := Nat.div_eq_of_lt hx
  have e2 : Y / 18446744073709551616 = 0 := Nat.div_eq_of_lt hy
  have e3 : X % 18446744073709551616 = X := Nat.mod_eq_of_lt hx
  have e4 : Y % 18446744073709551616 = Y := Nat.mod_eq_of_lt hy
  rw [e1, e2, e3, e4, if_neg (by omega), if_pos rfl]
  by_cases c1 : X < Y
  · rw [if_pos c1, if_pos (by omega)]
  · rw [if_neg c1, if_neg (by omega)]
    by_cases c2 : X = Y
    · rw [if_pos c2, if_pos (by omega)]
    · rw [if_neg c2, if_neg (by omega)]
theorem Lg.norm {N D : Nat} {n : Int} (h : Lg N D n) : D * 2 ^ n.toNat ≤ N * 2 ^ (-n).toNat ∧ N * 2 ^ (-n).toNat < 2 * (D * 2 ^ n.toNat) := by
  obtain ⟨u, v, e, h1, h2⟩ := h
  obtain ⟨k, hu, hv⟩ : ∃ k, u = (-n).toNat + k ∧ v = n.toNat + k := ⟨min u v, by omega, by omega⟩
  subst hu hv
  have hk : 0 < 2 ^ k := Nat.two_pow_pos k
  rw [Nat.pow_add, Nat.pow_add, ← Nat.mul_assoc, ← Nat.mul_assoc] at h1
  rw [Nat.pow_add, Nat.pow_add, ← Nat.mul_assoc, ← Nat.mul_assoc, ← Nat.mul_assoc] at h2
  rw [← Nat.mul_assoc]
  exact ⟨Nat.le_of_mul_le_mul_right h1 hk, Nat.lt_of_mul_lt_mul_right h2⟩
theorem WithinIsWithin : gleekeep1_WithinIsWithin.Pure := by
  intro l _ hl _
  have hl2 : l.length ≤ 1125899906842624 := by omega
  refine Tot.ex ?_
  unfold gleekeep1_WithinIsWithin.f
  refine Tot.bind (interval_tot l 0 hl2 (by omega) (by omega)) (fun s hs => ?_)
  obtain ⟨a, b, c, d, at_⟩ := s
  simp only
  have bad : Tot (fun k : Nat => (gleekeep1_ready.f).bind fun t => some t) (fun r => r = true) := Tot.one rfl
  by_cases ok : okI a b c d
  rotate_left
  · refine Tot.bind (withinC_no a b c d ok) (fun r hr => ?_)
    subst hr
    exact Tot.neg (by decide) (Tot.pos rfl bad)
  obtain ⟨n, W, L⟩ := within_one a b c d ok
  refine Tot.bind W (fun r hr => ?_)
  subst hr
  unfold wfin
  by_cases ok2 : okI (a - (a + n)) b c d
  rotate_left
  · rw [if_neg ok2]
    exact Tot.neg (by decide) (Tot.pos rfl bad)
  rw [if_pos ok2]
  refine Tot.pos rfl ?_
  simp only
  have en : a - (a + n) = -n := by omega
  rw [en] at ok2 ⊢
  obtain ⟨g1, g2⟩ := L.norm
  have q1 : qn (-n) b c d = qn 0 b c d * 2 ^ (-n).toNat := qn_two _ _ _ _
  have q2 : qn (- -n) (-b) (-c) (-d) = qn 0 (-b) (-c) (-d) * 2 ^ n.toNat := by rw [qn_two, Int.neg_neg]
  rw [← q1, ← q2] at g1 g2
  have z0 : okI 0 0 0 0 := by decide
  have z1 : okI 1 0 0 0 := by decide
  have o1 : qn 0 0 0 0 = 1 := by decide
  have o2 : qn (-0) (-0) (-0) (-0) = 1 := by decide
  have o3 : qn 1 0 0 0 = 2 := by decide
  have o4 : qn (-1) (-0) (-0) (-0) = 1 := by decide
  have B : ∀ x y z t : Int, okI x y z t → qn x y z t ≤ 3061880396247200000 := fun x y z t h => Nat.le_trans (qn_le x y z t h.1.2 h.2.1.2 h.2.2.1.2 h.2.2.2.2) (by decide)
  have B1 := B _ _ _ _ ok2
  have ok3 : okI (- -n) (-b) (-c) (-d) := by
    obtain ⟨w1, w2, w3, w4⟩ := ok2
    exact ⟨by omega, by omega, by omega, by omega⟩
  have B2 := B _ _ _ _ ok3
  have C1 := compare_small 0 0 0 0 (-n) b c d z0 ok2 (by rw [o1]; omega) (by rw [o2]; omega)
  have C2 := compare_small (-n) b c d 1 0 0 0 ok2 z1 (by rw [o4]; omega) (by rw [o3]; omega)
  rw [o1, o2] at C1
  rw [o3, o4] at C2
  simp only [Nat.one_mul, Nat.mul_one] at C1 C2
  have F1 : bothFault 0 0 0 0 (-n) b c d = 0 := by unfold bothFault; rw [if_pos z0, if_pos ok2]
  have F2 : bothFault (-n) b c d 1 0 0 0 = 0 := by unfold bothFault; rw [if_pos ok2, if_pos z1]
  refine Tot.bind (compareC_tot 0 0 0 0 (-n) b c d _ (fun _ _ => C1)) (fun r hr => ?_)
  refine Tot.bind (compareC_tot (-n) b c d 1 0 0 0 _ (fun _ _ => C2)) (fun r2 hr2 => ?_)
  rw [if_pos F1] at hr
  rw [if_pos F2] at hr2
  subst hr hr2
  refine Tot.pos rfl (Tot.pos rfl (Tot.pos ?_ (Tot.pos ?_ (Tot.pos ?_ bad))))
  · show (if _ then (-1 : Int) else if _ then 0 else 1) ≤ 0
    by_cases c1 : qn (- -n) (-b) (-c) (-d) < qn (-n) b c d
    · rw [if_pos c1]; decide
    · rw [if_neg c1, if_pos (by omega)]; decide
  · show (if _ then (-1 : Int) else if _ then 0 else 1) < 0
    rw [if_pos g2]
    decide
  · have ea : wrap64 (-n + (a + n)) = a := by
      rw [show -n + (a + n) = a by omega]
      exact wr (by have := ok.1; omega) (by have := ok.1; omega)
    simp [ea]
end Go.Proofs.YtdagocpgefjmdaaDoor.Pure
