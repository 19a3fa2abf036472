import Derived.Test.YtdagocpgefjmdaaDoorGInx14

set_option linter.unusedVariables false
namespace Go.Proofs.YtdagocpgefjmdaaDoor.Pure
open Go.RowKit Go.Proofs.YtdagocpgefjmdaaDoor.PIntervalsCounted Go.Proofs.YtdagocpgefjmdaaDoorW.PrintWords Go.Proofs.YtdagocpgefjmdaaDoorW.PrintLast

def Som {α : Type} (o : Option α) (P : α → Prop) : Prop := ∃ r, o = some r ∧ P r
def Tot {α : Type} (g : Nat → Option α) (P : α → Prop) : Prop := ∃ r, P r ∧ ∃ K, ∀ k, K ≤ k → g k = some r
theorem Som.tot {α : Type} {o : Option α} {P : α → Prop} (h : Som o P) : Tot (fun _ => o) P := by
 obtain ⟨r, h, hp⟩ := h
 exact ⟨r, hp, 0, fun _ _ => h⟩
theorem Som.mono {α : Type} {o : Option α} {P Q : α → Prop} (h : Som o P) (i : ∀ r, P r → Q r) : Som o Q := by
 obtain ⟨r, h, hp⟩ := h
 exact ⟨r, h, i r hp⟩
theorem Tot.mono {α : Type} {g : Nat → Option α} {P Q : α → Prop} (h : Tot g P) (i : ∀ r, P r → Q r) : Tot g Q := by
 obtain ⟨r, hp, h⟩ := h
 exact ⟨r, i r hp, h⟩
theorem Som.one {α : Type} {r : α} {P : α → Prop} (h : P r) : Som (some r) P := ⟨r, rfl, h⟩
theorem Tot.one {α : Type} {r : α} {P : α → Prop} (h : P r) : Tot (fun _ => some r) P := ⟨r, h, 0, fun _ _ => rfl⟩
theorem Som.bind {α β : Type} {o : Option α} {f : α → Option β} {P : α → Prop} {Q : β → Prop} (h : Som o P) (i : ∀ a, P a → Som (f a) Q) : Som (o.bind f) Q := by
 obtain ⟨r, rfl, hp⟩ := h
 exact i r hp
theorem Tot.bind {α β : Type} {g : Nat → Option α} {f : Nat → α → Option β} {P : α → Prop} {Q : β → Prop} (h : Tot g P) (i : ∀ a, P a → Tot (fun k => f k a) Q) : Tot (fun k => (g k).bind (f k)) Q := by
 obtain ⟨r, hp, K, hK⟩ := h
 obtain ⟨s, hq, L, hL⟩ := i r hp
 refine ⟨s, hq, max K L, fun k hk => ?_⟩
 show (g k).bind (f k) = some s
 rw [hK k (by omega)]
 exact hL k (by omega)
theorem Tot.bind0 {α β : Type} {o : Option α} {f : Nat → α → Option β} {P : α → Prop} {Q : β → Prop} (h : Som o P) (i : ∀ a, P a → Tot (fun k => f k a) Q) : Tot (fun k => o.bind (f k)) Q := Tot.bind h.tot i
theorem Tot.succ {α : Type} {g : Nat → Option α} {P : α → Prop} (h : Tot (fun k => g (k + 1)) P) : Tot g P := by
 obtain ⟨r, hp, K, hK⟩ := h
 refine ⟨r, hp, K + 1, fun k hk => ?_⟩
 obtain ⟨m, rfl⟩ : ∃ m, k = m + 1 := ⟨k - 1, by omega⟩
 exact hK m (by omega)
theorem Tot.pos {α : Type} {c : Prop} [Decidable c] {g f : Nat → Option α} {P : α → Prop} (hc : c) (h : Tot g P) : Tot (fun k => if c then g k else f k) P := by simpa only [if_pos hc] using h
theorem Tot.neg {α : Type} {c : Prop} [Decidable c] {g f : Nat → Option α} {P : α → Prop} (hc : ¬ c) (h : Tot f P) : Tot (fun k => if c then g k else f k) P := by simpa only [if_neg hc] using h
theorem Tot.ite {α : Type} {c : Prop} [Decidable c] {g f : Nat → Option α} {P : α → Prop} (h : c → Tot g P) (i : ¬ c → Tot f P) : Tot (fun k => if c then g k else f k) P := by
 by_cases hc : c
 ·
  exact Tot.pos hc (h hc)
 ·
  exact Tot.neg hc (i hc)
theorem Som.pos {α : Type} {c : Prop} [Decidable c] {o p : Option α} {P : α → Prop} (hc : c) (h : Som o P) : Som (if c then o else p) P := by rwa [if_pos hc]
theorem Som.neg {α : Type} {c : Prop} [Decidable c] {o p : Option α} {P : α → Prop} (hc : ¬ c) (h : Som p P) : Som (if c then o else p) P := by rwa [if_neg hc]
theorem Som.ite {α : Type} {c : Prop} [Decidable c] {o p : Option α} {P : α → Prop} (h : c → Som o P) (i : ¬ c → Som p P) : Som (if c then o else p) P := by
 by_cases hc : c
 ·
  exact Som.pos hc (h hc)
 ·
  exact Som.neg hc (i hc)
theorem Tot.ex {g : Nat → Option Bool} (h : Tot g (fun r => r = true)) : ∃ k, g k = some true := by
 obtain ⟨r, rfl, K, hK⟩ := h
 exact ⟨K, hK K (Nat.le_refl _)⟩
theorem wr {x : Int} (h0 : -9223372036854775808 ≤ x) (h1 : x ≤ 9223372036854775807) : wrap64 x = x := by unfold wrap64; omega
theorem wrn {m : Nat} (h : m ≤ 9223372036854775807) : wrap64 (m : Int) = (m : Int) := wr (by omega) (by omega)


theorem below_som (x n : Int) (hn : n ≤ 4611686018427387904) : Som (gleemake_Below.f x n) (fun r => (n < 1 → r = 0) ∧ (1 ≤ n → 0 ≤ r ∧ r < n)) := by
 unfold gleemake_Below.f
 refine Som.ite (fun h => Som.one ⟨fun _ => rfl, fun h' => by omega⟩) (fun h => ?_)
 have h1 := Int.tmod_lt_of_pos x (show 0 < n by omega)
 have h2 := Int.lt_tmod_of_pos x (show 0 < n by omega)
 refine Som.neg (by omega) (Som.ite (fun h3 => ?_) (fun h3 => Som.one ⟨fun h' => by omega, fun _ => by omega⟩))
 rw [wr (by omega) (by omega)]
 exact Som.one ⟨fun h' => by omega, fun _ => by omega⟩
theorem next_som (l : List Int) (at_ n : Int) (hl : l.length ≤ 1125899906842624) (h0 : 0 ≤ at_) (h1 : at_ ≤ 1000000) (hn : n ≤ 4611686018427387904) :
  Som (gleemake_Stream_Next.f l at_ n) (fun r => r.2 = at_ + 1 ∧ (n < 1 → r.1 = 0) ∧ (1 ≤ n → 0 ≤ r.1 ∧ r.1 < n)) := by
 unfold gleemake_Stream_Next.f
 rw [wr (x := at_ + 1) (by omega) (by omega)]
 refine Som.ite (fun h => ?_) (fun h => ?_)
 ·
  exact Som.bind (below_som _ n hn) (fun a ha => Som.one ⟨rfl, ha.1, ha.2⟩)
 ·
  have e : wrap64 (at_ + 1 - 1) = at_ := by rw [wr] <;> omega
  rw [e]
  have h2 := Int.tmod_lt_of_pos at_ (show 0 < (l.length : Int) by omega)
  have h3 := Int.tmod_nonneg (l.length : Int) h0
  refine Som.pos h3 (Som.pos h2 ?_)
  refine Som.bind (below_som _ _ (by omega)) (fun a _ => Som.bind (below_som _ n hn) (fun b hb => Som.one ⟨rfl, hb.1, hb.2⟩))
theorem range_som (l : List Int) (at_ lo hi : Int) (hl : l.length ≤ 1125899906842624) (h0 : 0 ≤ at_) (h1 : at_ ≤ 1000000) (b0 : -2199023255552 ≤ lo) (b1 : lo ≤ 2199023255552) (b2 : -2199023255552 ≤ hi) (b3 : hi ≤ 2199023255552) :
  Som (gleemake_Stream_Range.f l at_ lo hi) (fun r => at_ ≤ r.2 ∧ r.2 ≤ at_ + 1 ∧ lo ≤ r.1 ∧ (r.1 ≤ hi ∨ hi < lo ∧ r.1 = lo)) := by
 unfold gleemake_Stream_Range.f
 refine Som.ite (fun h => Som.one ⟨by simp, by simp; omega, by simp, .inr ⟨h, rfl⟩⟩) (fun h => ?_)
 rw [wr (x := hi - lo) (by omega) (by omega), wr (x := hi - lo + 1) (by omega) (by omega)]
 refine Som.bind (next_som l at_ _ hl h0 h1 (by omega)) (fun a ha => ?_)
 have h2 := ha.2.2 (by omega)
 rw [wr (by omega) (by omega)]
 exact Som.one ⟨by simp; omega, by simp; omega, by simp; omega, .inl (by simp; omega)⟩
theorem flip_som (l : List Int) (at_ n : Int) (hl : l.length ≤ 1125899906842624) (h0 : 0 ≤ at_) (h1 : at_ ≤ 1000000) (hn : n ≤ 4611686018427387904) :
  Som (gleemake_Stream_Flip.f l at_ n) (fun r => r.2 = at_ + 1) := by
 unfold gleemake_Stream_Flip.f
 exact Som.bind (next_som l at_ n hl h0 h1 hn) (fun a ha => Som.one ha.1)
theorem pick_som (l : List Int) (at_ : Int) (xs : List Int) (hl : l.length ≤ 1125899906842624) (h0 : 0 ≤ at_) (h1 : at_ ≤ 1000000) (hx : 0 < xs.length) (hx2 : xs.length ≤ 1000000) :
  Som (gleemake_Stream_Pick.f l at_ xs) (fun r => r.2 = at_ + 1 ∧ r.1 ∈ xs) := by
 unfold gleemake_Stream_Pick.f
 refine Som.bind (next_som l at_ _ hl h0 h1 (by omega)) (fun a ha => ?_)
 have h2 := ha.2.2 (by omega)
 refine Som.pos h2.1 (Som.pos h2.2 (Som.one ⟨ha.1, ?_⟩))
 show rd xs a.1 ∈ xs
 unfold rd
 rw [List.getD_eq_getElem?_getD, List.getElem?_eq_getElem (by omega)]
 exact List.getElem_mem _
theorem odd_som (l : List Int) (at_ lo hi : Int) (hl : l.length ≤ 1125899906842624) (h0 : 0 ≤ at_) (h1 : at_ ≤ 900000) (b0 : -1099511627776 ≤ lo) (b1 : lo ≤ 1099511627776) (b2 : -1099511627776 ≤ hi) (b3 : hi ≤ 1099511627776) :
  Som (gleemake_Stream_Odd.f l at_ lo hi) (fun r => at_ ≤ r.2 ∧ r.2 ≤ at_ + 2 ∧ -1099511627777 ≤ r.1 ∧ r.1 ≤ 1099511627777) := by
 unfold gleemake_Stream_Odd.f
 refine Som.bind (flip_som l at_ 12 hl h0 (by omega) (by omega)) (fun a ha => Som.ite (fun _ => ?_) (fun _ => ?_))
 ·
  rw [wr (x := lo - 1) (by omega) (by omega), wr (x := hi + 1) (by omega) (by omega)]
  refine Som.bind (pick_som l _ _ hl (by omega) (by omega) (by simp) (by simp)) (fun b hb => Som.one ⟨by simp; omega, by simp; omega, ?_⟩)
  have := hb.2
  simp only [List.mem_cons, List.not_mem_nil, or_false] at this
  show -1099511627777 ≤ b.1 ∧ b.1 ≤ 1099511627777
  omega
 ·
  refine Som.bind (range_som l _ lo hi hl (by omega) (by omega) (by omega) (by omega) (by omega) (by omega)) (fun b hb => Som.one ⟨by simp; omega, by simp; omega, ?_⟩)
  show -1099511627777 ≤ b.1 ∧ b.1 ≤ 1099511627777
  omega


def qn (a b c d : Int) : Nat := 2 ^ a.toNat * 3 ^ b.toNat * 5 ^ c.toNat * 7 ^ d.toNat
theorem pow_le {p m n : Nat} (hp : 0 < p) (h : m ≤ n) : p ^ m ≤ p ^ n := Nat.pow_le_pow_right hp h
theorem mul4_le {a b c d a' b' c' d' : Nat} (h1 : a ≤ a') (h2 : b ≤ b') (h3 : c ≤ c') (h4 : d ≤ d') : a * b * c * d ≤ a' * b' * c' * d' :=
 Nat.mul_le_mul (Nat.mul_le_mul (Nat.mul_le_mul h1 h2) h3) h4
theorem qn_le (a b c d : Int) (ha : a ≤ 24) (hb : b ≤ 10) (hc : c ≤ 5) (hd : d ≤ 3) : qn a b c d ≤ 1061880396247200000 + 2000000000000000000 :=
 Nat.le_trans (mul4_le (pow_le (by decide) (show a.toNat ≤ 24 by omega)) (pow_le (by decide) (show b.toNat ≤ 10 by omega)) (pow_le (by decide) (show c.toNat ≤ 5 by omega)) (pow_le (by decide) (show d.toNat ≤ 3 by omega))) (by decide)
theorem qn_pos (a b c d : Int) : 1 ≤ qn a b c d :=
 Nat.mul_pos (Nat.mul_pos (Nat.mul_pos (Nat.pow_pos (by decide)) (Nat.pow_pos (by decide))) (Nat.pow_pos (by decide))) (Nat.pow_pos (by decide))
theorem step_le {D p d M : Nat} (hp : 1 ≤ p) (h : D * p ^ (d + 1) ≤ M) : D * p * p ^ d ≤ M ∧ D * p ≤ M := by
 have e : D * p ^ (d + 1) = D * p * p ^ d := by rw [Nat.pow_succ, Nat.mul_comm (p ^ d) p, Nat.mul_assoc]
 rw [e] at h
 exact ⟨h, Nat.le_trans (Nat.le_mul_of_pos_right _ (Nat.pow_pos hp)) h⟩
theorem step_eq (D p d : Nat) : D * p * p ^ d = D * p ^ (d + 1) := by rw [Nat.pow_succ, Nat.mul_comm (p ^ d) p, Nat.mul_assoc]
abbrev M62 : Nat := 4611686018427387904
theorem q_l2 (i s n : Int) (p : Nat) (hi0 : 0 ≤ i) (hi4 : i < 4) (hp : rd ([2, 3, 5, 7] : List Int) i = (p : Int)) (hp1 : 1 ≤ p) (x y z t : Int) (N : Nat) {Q : Int × Int → Prop} (hn : n ≤ 100) :
  ∀ (d : Nat) (D : Nat) (j : Int), j + d = n → 0 ≤ j → D * p ^ d ≤ M62 → Tot (fun k => tune_quotient.l0 k (wrap64 (s + 1)) x y z t N (D * p ^ d : Nat)) Q → Tot (fun k => tune_quotient.l2 k i s n j x y z t N D) Q := by
 intro d
 induction d with
 | zero =>
  intro D j h1 h2 h3 h
  refine Tot.succ ?_
  simp only [tune_quotient.l2]
  exact Tot.neg (by omega) (by simpa using h)
 | succ d ih =>
  intro D j h1 h2 h3 h
  have h4 := step_le hp1 h3
  refine Tot.succ ?_
  simp only [tune_quotient.l2, tune_primes.f, Option.bind_some]
  refine Tot.pos (by omega) (Tot.pos hi0 (Tot.pos hi4 ?_))
  rw [hp, wr (x := j + 1) (by omega) (by omega)]
  have e : wrap64 ((D : Int) * (p : Int)) = ((D * p : Nat) : Int) := by
   rw [← Int.natCast_mul]
   exact wr (by omega) (by have := h4.2; unfold M62 at this; omega)
  rw [e]
  exact ih (D * p) (j + 1) (by omega) (by omega) h4.1 (by rw [step_eq]; exact h)
theorem q_l1 (i s n : Int) (p : Nat) (hi0 : 0 ≤ i) (hi4 : i < 4) (hp : rd ([2, 3, 5, 7] : List Int) i = (p : Int)) (hp1 : 1 ≤ p) (x y z t : Int) (D : Nat) {Q : Int × Int → Prop} (hn : n ≤ 100) :
  ∀ (d : Nat) (N : Nat) (j : Int), j + d = n → 0 ≤ j → N * p ^ d ≤ M62 → Tot (fun k => tune_quotient.l2 k i s (wrap64 (-n)) 0 x y z t (N * p ^ d : Nat) D) Q → Tot (fun k => tune_quotient.l1 k i n s n j x y z t N D) Q := by
 intro d
 induction d with
 | zero =>
  intro N j h1 h2 h3 h
  refine Tot.succ ?_
  simp only [tune_quotient.l1]
  exact Tot.neg (by omega) (by simpa using h)
 | succ d ih =>
  intro N j h1 h2 h3 h
  have h4 := step_le hp1 h3
  refine Tot.succ ?_
  simp only [tune_quotient.l1, tune_primes.f, Option.bind_some]
  refine Tot.pos (by omega) (Tot.pos hi0 (Tot.pos hi4 ?_))
  rw [hp, wr (x := j + 1) (by omega) (by omega)]
  have e : wrap64 ((N : Int) * (p : Int)) = ((N * p : Nat) : Int) := by
   rw [← Int.natCast_mul]
   exact wr (by omega) (by have := h4.2; unfold M62 at this; omega)
  rw [e]
  exact ih (N * p) (j + 1) (by omega) (by omega) h4.1 (by rw [step_eq]; exact h)
theorem q_step (i n : Int) (p : Nat) (hi0 : 0 ≤ i) (hi4 : i < 4) (hp : rd ([2, 3, 5, 7] : List Int) i = (p : Int)) (hp1 : 1 ≤ p) (x y z t : Int) (N D : Nat) {Q : Int × Int → Prop} (hn : n ≤ 100) (hn2 : -100 ≤ n)
  (hr : rd ([t, z, y, x] : List Int) i = n) (hN : N * p ^ n.toNat ≤ M62) (hD : D * p ^ (-n).toNat ≤ M62) (h : Tot (fun k => tune_quotient.l0 k (i + 1) x y z t (N * p ^ n.toNat : Nat) (D * p ^ (-n).toNat : Nat)) Q) :
  Tot (fun k => tune_quotient.l0 k i x y z t N D) Q := by
 refine Tot.succ ?_
 simp only [tune_quotient.l0]
 refine Tot.pos hi4 (Tot.pos hi0 ?_)
 rw [hr]
 have e1 : wrap64 (-n) = -n := wr (by omega) (by omega)
 have e2 : wrap64 (i + 1) = i + 1 := wr (by omega) (by omega)
 have h2 : ∀ M : Nat, Tot (fun k => tune_quotient.l0 k (i + 1) x y z t M (D * p ^ (-n).toNat : Nat)) Q → Tot (fun k => tune_quotient.l2 k i i (-n) 0 x y z t M D) Q := by
  intro M hM
  by_cases hs : n ≤ 0
  ·
   exact q_l2 i i (-n) p hi0 hi4 hp hp1 x y z t M (by omega) (-n).toNat D 0 (by omega) (by omega) hD (by rw [e2]; exact hM)
  ·
   refine Tot.succ ?_
   simp only [tune_quotient.l2]
   refine Tot.neg (by omega) ?_
   rw [e2]
   have : (-n).toNat = 0 := by omega
   rw [this] at hM
   simpa using hM
 by_cases hs : 0 ≤ n
 ·
  exact q_l1 i i n p hi0 hi4 hp hp1 x y z t D (by omega) n.toNat N 0 (by omega) (by omega) hN (by rw [e1]; exact h2 _ h)
 ·
  refine Tot.succ ?_
  simp only [tune_quotient.l1]
  refine Tot.neg (by omega) ?_
  rw [e1]
  have : n.toNat = 0 := by omega
  rw [this] at h
  exact h2 N (by simpa using h)
theorem quotient_tot (a b c d : Int) (ha : -24 ≤ a ∧ a ≤ 24) (hb : -10 ≤ b ∧ b ≤ 10) (hc : -5 ≤ c ∧ c ≤ 5) (hd : -3 ≤ d ∧ d ≤ 3) :
  Tot (fun k => tune_quotient.f k a b c d) (fun r => r = (((qn a b c d : Nat) : Int), ((qn (-a) (-b) (-c) (-d) : Nat) : Int))) := by
 have H1 := qn_le a b c d ha.2 hb.2 hc.2 hd.2
 have H2 := qn_le (-a) (-b) (-c) (-d) (by omega) (by omega) (by omega) (by omega)
 have m1 : ∀ x y : Nat, x * y ≤ M62 → 1 ≤ y → x ≤ M62 := fun x y h hy => Nat.le_trans (Nat.le_mul_of_pos_right _ hy) h
 have p2 : ∀ n : Nat, 1 ≤ 2 ^ n := fun n => Nat.pow_pos (by decide)
 have p3 : ∀ n : Nat, 1 ≤ 3 ^ n := fun n => Nat.pow_pos (by decide)
 have p5 : ∀ n : Nat, 1 ≤ 5 ^ n := fun n => Nat.pow_pos (by decide)
 have p7 : ∀ n : Nat, 1 ≤ 7 ^ n := fun n => Nat.pow_pos (by decide)
 have H3 : qn a b c d ≤ M62 := Nat.le_trans H1 (by decide)
 have H4 : qn (-a) (-b) (-c) (-d) ≤ M62 := Nat.le_trans H2 (by decide)
 unfold qn at H3 H4
 have a1 := m1 _ _ H3 (p7 _)
 have a2 := m1 _ _ a1 (p5 _)
 have a3 := m1 _ _ a2 (p3 _)
 have b1 := m1 _ _ H4 (p7 _)
 have b2 := m1 _ _ b1 (p5 _)
 have b3 := m1 _ _ b2 (p3 _)
 unfold tune_quotient.f
 have s0 := q_step (Q := fun r => r = (((qn a b c d : Nat) : Int), ((qn (-a) (-b) (-c) (-d) : Nat) : Int))) 0 a 2 (by omega) (by omega) rfl (by omega) d c b a 1 1 (by omega) (by omega) rfl (by rwa [Nat.one_mul]) (by rwa [Nat.one_mul])
 refine s0 ?_
 rw [Nat.one_mul, Nat.one_mul]
 refine q_step 1 b 3 (by omega) (by omega) rfl (by omega) d c b a _ _ (by omega) (by omega) rfl a2 b2 ?_
 refine q_step 2 c 5 (by omega) (by omega) rfl (by omega) d c b a _ _ (by omega) (by omega) rfl a1 b1 ?_
 refine q_step 3 d 7 (by omega) (by omega) rfl (by omega) d c b a _ _ (by omega) (by omega) rfl H3 H4 ?_
 refine Tot.succ ?_
 simp only [tune_quotient.l0]
 exact Tot.neg (by omega) (Tot.one rfl)

theorem r_l2 (s n : Int) (p : Nat) (hp1 : 1 ≤ p) (y z : Int) (u0 u1 u2 u3 u4 u5 u6 u7 : Int) (N : Nat) {Q : Int × Int → Prop} (hn : n ≤ 100) :
  ∀ (d : Nat) (D : Nat) (j : Int), j + d = n → 0 ≤ j → D * p ^ d ≤ M62 → Tot (fun k => gleeref1_QuotientOf.l0 k (wrap64 (s + 1)) u0 u1 u2 u3 u4 u5 u6 u7 N (D * p ^ d : Nat)) Q → Tot (fun k => gleeref1_QuotientOf.l2 k s n j u0 u1 u2 u3 u4 u5 u6 u7 N D p z) Q := by
 intro d
 induction d with
 | zero =>
  intro D j h1 h2 h3 h
  refine Tot.succ ?_
  simp only [gleeref1_QuotientOf.l2]
  exact Tot.neg (by omega) (by simpa using h)
 | succ d ih =>
  intro D j h1 h2 h3 h
  have h4 := step_le hp1 h3
  refine Tot.succ ?_
  simp only [gleeref1_QuotientOf.l2]
  refine Tot.pos (by omega) ?_
  rw [wr (x := j + 1) (by omega) (by omega)]
  have e : wrap64 ((D : Int) * (p : Int)) = ((D * p : Nat) : Int) := by
   rw [← Int.natCast_mul]
   exact wr (by omega) (by have := h4.2; unfold M62 at this; omega)
  rw [e]
  exact ih (D * p) (j + 1) (by omega) (by omega) h4.1 (by rw [step_eq]; exact h)
theorem r_l1 (s n : Int) (p : Nat) (hp1 : 1 ≤ p) (z : Int) (u0 u1 u2 u3 u4 u5 u6 u7 : Int) (D : Nat) {Q : Int × Int → Prop} (hn : n ≤ 100) :
  ∀ (d : Nat) (N : Nat) (j : Int), j + d = n → 0 ≤ j → N * p ^ d ≤ M62 → Tot (fun k => gleeref1_QuotientOf.l2 k s (mx (wrap64 (-z)) 0) 0 u0 u1 u2 u3 u4 u5 u6 u7 (N * p ^ d : Nat) D p z) Q → Tot (fun k => gleeref1_QuotientOf.l1 k s n j u0 u1 u2 u3 u4 u5 u6 u7 N D p z) Q := by
 intro d
 induction d with
 | zero =>
  intro N j h1 h2 h3 h
  refine Tot.succ ?_
  simp only [gleeref1_QuotientOf.l1]
  exact Tot.neg (by omega) (by simpa using h)
 | succ d ih =>
  intro N j h1 h2 h3 h
  have h4 := step_le hp1 h3
  refine Tot.succ ?_
  simp only [gleeref1_QuotientOf.l1]
  refine Tot.pos (by omega) ?_
  rw [wr (x := j + 1) (by omega) (by omega)]
  have e : wrap64 ((N : Int) * (p : Int)) = ((N * p : Nat) : Int) := by
   rw [← Int.natCast_mul]
   exact wr (by omega) (by have := h4.2; unfold M62 at this; omega)
  rw [e]
  exact ih (N * p) (j + 1) (by omega) (by omega) h4.1 (by rw [step_eq]; exact h)
theorem mx_nat (n : Int) : mx n 0 = (n.toNat : Int) := by unfold mx; omega
theorem r_step (i n : Int) (p : Nat) (hi0 : 0 ≤ i) (hi4 : i < 4) (hp1 : 1 ≤ p) (u0 u1 u2 u3 u4 u5 u6 u7 : Int) (N D : Nat) {Q : Int × Int → Prop} (hn : n ≤ 100) (hn2 : -100 ≤ n)
  (hp : rd ([u7, u5, u3, u1] : List Int) i = (p : Int)) (hr : rd ([u6, u4, u2, u0] : List Int) i = n) (hN : N * p ^ n.toNat ≤ M62) (hD : D * p ^ (-n).toNat ≤ M62)
  (h : Tot (fun k => gleeref1_QuotientOf.l0 k (i + 1) u0 u1 u2 u3 u4 u5 u6 u7 (N * p ^ n.toNat : Nat) (D * p ^ (-n).toNat : Nat)) Q) :
  Tot (fun k => gleeref1_QuotientOf.l0 k i u0 u1 u2 u3 u4 u5 u6 u7 N D) Q := by
 refine Tot.succ ?_
 simp only [gleeref1_QuotientOf.l0]
 refine Tot.pos hi4 (Tot.pos hi0 ?_)
 rw [hr, hp, mx_nat]
 have e1 : wrap64 (-n) = -n := wr (by omega) (by omega)
 have e2 : wrap64 (i + 1) = i + 1 := wr (by omega) (by omega)
 refine r_l1 i _ p hp1 n u0 u1 u2 u3 u4 u5 u6 u7 D (by omega) n.toNat N 0 (by omega) (by omega) hN ?_
 rw [e1, mx_nat]
 exact r_l2 i _ p hp1 0 n u0 u1 u2 u3 u4 u5 u6 u7 _ (by omega) (-n).toNat D 0 (by omega) (by omega) hD (by rw [e2]; exact h)
theorem quotientOf_tot (a b c d : Int) (ha : -24 ≤ a ∧ a ≤ 24) (hb : -10 ≤ b ∧ b ≤ 10) (hc : -5 ≤ c ∧ c ≤ 5) (hd : -3 ≤ d ∧ d ≤ 3) :
  Tot (fun k => gleeref1_QuotientOf.f k a b c d) (fun r => r = (((qn a b c d : Nat) : Int), ((qn (-a) (-b) (-c) (-d) : Nat) : Int))) := by
 have H1 := qn_le a b c d ha.2 hb.2 hc.2 hd.2
 have H2 := qn_le (-a) (-b) (-c) (-d) (by omega) (by omega) (by omega) (by omega)
 have m1 : ∀ x y : Nat, x * y ≤ M62 → 1 ≤ y → x ≤ M62 := fun x y h hy => Nat.le_trans (Nat.le_mul_of_pos_right _ hy) h
 have p3 : ∀ n : Nat, 1 ≤ 3 ^ n := fun n => Nat.pow_pos (by decide)
 have p5 : ∀ n : Nat, 1 ≤ 5 ^ n := fun n => Nat.pow_pos (by decide)
 have p7 : ∀ n : Nat, 1 ≤ 7 ^ n := fun n => Nat.pow_pos (by decide)
 have H3 : qn a b c d ≤ M62 := Nat.le_trans H1 (by decide)
 have H4 : qn (-a) (-b) (-c) (-d) ≤ M62 := Nat.le_trans H2 (by decide)
 unfold qn at H3 H4
 have a1 := m1 _ _ H3 (p7 _)
 have a2 := m1 _ _ a1 (p5 _)
 have a3 := m1 _ _ a2 (p3 _)
 have b1 := m1 _ _ H4 (p7 _)
 have b2 := m1 _ _ b1 (p5 _)
 have b3 := m1 _ _ b2 (p3 _)
 unfold gleeref1_QuotientOf.f
 simp only [gleeref1_primes.f, Option.bind_some]
 have s0 := r_step (Q := fun r => r = (((qn a b c d : Nat) : Int), ((qn (-a) (-b) (-c) (-d) : Nat) : Int))) 0 a 2 (by omega) (by omega) (by omega) d 7 c 5 b 3 a 2 1 1 (by omega) (by omega) rfl rfl (by rwa [Nat.one_mul]) (by rwa [Nat.one_mul])
 refine s0 ?_
 rw [Nat.one_mul, Nat.one_mul]
 refine r_step 1 b 3 (by omega) (by omega) (by omega) d 7 c 5 b 3 a 2 _ _ (by omega) (by omega) rfl rfl a2 b2 ?_
 refine r_step 2 c 5 (by omega) (by omega) (by omega) d 7 c 5 b 3 a 2 _ _ (by omega) (by omega) rfl rfl a1 b1 ?_
 refine r_step 3 d 7 (by omega) (by omega) (by omega) d 7 c 5 b 3 a 2 _ _ (by omega) (by omega) rfl rfl H3 H4 ?_
 refine Tot.succ ?_
 simp only [gleeref1_QuotientOf.l0]
 exact Tot.neg (by omega) (Tot.one rfl)


def okI (a b c d : Int) : Prop := (-24 ≤ a ∧ a ≤ 24) ∧ (-10 ≤ b ∧ b ≤ 10) ∧ (-5 ≤ c ∧ c ≤ 5) ∧ (-3 ≤ d ∧ d ≤ 3)
instance (a b c d : Int) : Decidable (okI a b c d) := by unfold okI; infer_instance
def ifault (a b c d : Int) : Int := if okI a b c d then 0 else 1
theorem span_eq (x lo hi : Int) : gleeref1_SpanFault.f x lo hi = some (if lo ≤ x ∧ x ≤ hi then 0 else 1) := by
 unfold gleeref1_SpanFault.f gleeref1_in.f
 by_cases h : lo ≤ x <;> by_cases h2 : x ≤ hi <;> simp [h, h2]
theorem outside_eq (x lo hi : Int) : kit_Outside.f x lo hi = some (decide (¬ (lo ≤ x ∧ x ≤ hi))) := by
 unfold kit_Outside.f
 by_cases h : x < lo <;> by_cases h2 : x > hi <;> simp [h, h2] <;> omega
theorem check_eq (a b c d : Int) : tune_CheckInterval.f a b c d = some (ifault a b c d) := by
 unfold tune_CheckInterval.f ifault okI
 simp only [outside_eq, Option.bind_some, decide_eq_true_eq]
 by_cases h1 : -24 ≤ a ∧ a ≤ 24
 ·
  by_cases h2 : -10 ≤ b ∧ b ≤ 10
  ·
   by_cases h3 : -5 ≤ c ∧ c ≤ 5
   ·
    by_cases h4 : -3 ≤ d ∧ d ≤ 3 <;> simp [h1, h2, h3, h4]
   ·
    simp [h1, h2, h3]
  ·
   simp [h1, h2]
 ·
  simp [h1]

def firstOf : List Int → Int
 | [] => 0
 | x :: r => if x = 0 then firstOf r else x
theorem drop_cons_rd (xs : List Int) (i : Nat) (h : i < xs.length) : xs.drop i = rd xs (i : Int) :: xs.drop (i + 1) := by
 rw [List.drop_eq_getElem_cons h]
 simp [rd, List.getElem?_eq_getElem h]
theorem or_tot (xs : List Int) (hl : xs.length ≤ 1000000) : ∀ (d i : Nat), i + d = xs.length → Tot (fun k => api_Errno.l0 k 0 xs (xs.length : Int) (i : Int)) (fun r => r = firstOf (xs.drop i)) := by
 intro d
 induction d with
 | zero =>
  intro i h
  refine Tot.succ ?_
  simp only [api_Errno.l0]
  refine Tot.neg (by omega) (Tot.one ?_)
  rw [List.drop_of_length_le (by omega)]
  rfl
 | succ d ih =>
  intro i h
  refine Tot.succ ?_
  simp only [api_Errno.l0]
  refine Tot.pos (by omega) (Tot.pos (by omega) (Tot.pos (by omega) ?_))
  have e : wrap64 ((i : Int) + 1) = ((i + 1 : Nat) : Int) := by rw [wr] <;> omega
  rw [e, drop_cons_rd xs i (by omega)]
  refine Tot.ite (fun h0 => ?_) (fun h0 => Tot.one ?_)
  ·
   rw [firstOf, if_pos h0]
   exact ih (i + 1) (by omega)
  ·
   rw [firstOf, if_neg h0]
theorem cmpOr_tot (xs : List Int) (hl : xs.length ≤ 1000000) : Tot (fun k => api_Errno.f k xs) (fun r => r = firstOf xs) := or_tot xs hl xs.length 0 (by omega)
theorem ifault_tot (a b c d : Int) : Tot (fun k => gleeref1_IntervalFault.f k a b c d) (fun r => r = ifault a b c d) := by
 unfold gleeref1_IntervalFault.f
 simp only [span_eq, Option.bind_some]
 refine Tot.bind (cmpOr_tot _ (by simp)) (fun r hr => Tot.one ?_)
 rw [hr]
 unfold ifault okI
 by_cases h1 : -24 ≤ a ∧ a ≤ 24
 ·
  by_cases h2 : -10 ≤ b ∧ b ≤ 10
  ·
   by_cases h3 : -5 ≤ c ∧ c ≤ 5
   ·
    by_cases h4 : -3 ≤ d ∧ d ≤ 3 <;> simp [h1, h2, h3, h4, firstOf]
   ·
    simp [h1, h2, h3, firstOf]
  ·
   simp [h1, h2, firstOf]
 ·
  simp [h1, firstOf]
theorem checked_tot (a b c d : Int) : Tot (fun k => gleeref1_Checked.f k a b c d) (fun r => r = if okI a b c d then (a, b, c, d, 0) else (0, 0, 0, 0, 1)) := by
 unfold gleeref1_Checked.f
 refine Tot.bind (ifault_tot a b c d) (fun r hr => ?_)
 subst hr
 unfold ifault
 by_cases h : okI a b c d
 ·
  simp only [if_pos h, if_true]; exact Tot.one rfl
 ·
  simp only [if_neg h]; exact Tot.one rfl
theorem checked_eq (a b c d : Int) : tune_checked.f a b c d = some (if okI a b c d then (a, b, c, d, 0) else (0, 0, 0, 0, 1)) := by
 unfold tune_checked.f
 rw [check_eq, Option.bind_some]
 unfold ifault
 by_cases h : okI a b c d <;> simp [h]


def Lg (N D : Nat) (n : Int) : Prop := ∃ u v : Nat, n = (v : Int) - (u : Int) ∧ D * 2 ^ v ≤ N * 2 ^ u ∧ N * 2 ^ u < 2 * (D * 2 ^ v)
theorem two_mul_pow (x m : Nat) : 2 * (x * 2 ^ m) = x * 2 ^ (m + 1) := by rw [Nat.pow_succ, Nat.mul_comm 2, Nat.mul_assoc]
theorem Lg.le {N D : Nat} {n m : Int} (h : Lg N D n) (k : Lg N D m) : m ≤ n := by
 obtain ⟨u, v, rfl, _, h2⟩ := h
 obtain ⟨u', v', rfl, k1, _⟩ := k
 refine Int.not_lt.1 fun hlt => ?_
 have e1 : N * 2 ^ (u + u') < D * 2 ^ (v + 1 + u') := by
  rw [two_mul_pow] at h2
  have := Nat.mul_lt_mul_of_pos_right h2 (show 0 < 2 ^ u' from Nat.pow_pos (by decide))
  rwa [Nat.mul_assoc, ← Nat.pow_add, Nat.mul_assoc, ← Nat.pow_add] at this
 have e2 : D * 2 ^ (v + 1 + u') ≤ D * 2 ^ (v' + u) := Nat.mul_le_mul_left _ (Nat.pow_le_pow_right (by decide) (by omega))
 have e3 : D * 2 ^ (v' + u) ≤ N * 2 ^ (u' + u) := by
  have := Nat.mul_le_mul_right (2 ^ u) k1
  rwa [Nat.mul_assoc, ← Nat.pow_add, Nat.mul_assoc, ← Nat.pow_add] at this
 rw [Nat.add_comm u' u] at e3
 omega
theorem Lg.one {N D : Nat} {n m : Int} (h : Lg N D n) (k : Lg N D m) : n = m := Int.le_antisymm (k.le h) (h.le k)
theorem Lg.shift {N D p q : Nat} {n : Int} (h : Lg (N * 2 ^ p) (D * 2 ^ q) n) : Lg N D (n + q - p) := by
 obtain ⟨u, v, rfl, h1, h2⟩ := h
 refine ⟨p + u, q + v, by omega, ?_, ?_⟩
 ·
  rw [Nat.pow_add, Nat.pow_add, ← Nat.mul_assoc, ← Nat.mul_assoc]; exact h1
 ·
  rw [Nat.pow_add, Nat.pow_add, ← Nat.mul_assoc N, ← Nat.mul_assoc D]; exact h2
theorem qn_two (a b c d : Int) : qn a b c d = qn 0 b c d * 2 ^ a.toNat := by
 have e : qn 0 b c d = 3 ^ b.toNat * 5 ^ c.toNat * 7 ^ d.toNat := by unfold qn; simp
 rw [e]
 unfold qn
 rw [Nat.mul_comm _ (2 ^ a.toNat), ← Nat.mul_assoc, ← Nat.mul_assoc]
theorem tdiv2 (N : Nat) : Int.tdiv (N : Int) 2 = ((N / 2 : Nat) : Int) := by rw [Int.tdiv_eq_ediv_of_nonneg (by omega)]; rfl
def wfin (a b c d n : Int) : Int × Int × Int × Int × Int × Int := if okI (a - n) b c d then (a - n, b, c, d, n, 0) else (0, 0, 0, 0, 0, 1)
theorem wfin_eq (a b c d n : Int) : (if ifault (a - n) b c d = 0 then some (a - n, b, c, d, n, 0) else some (0, 0, 0, 0, 0, ifault (a - n) b c d)) = some (wfin a b c d n) := by
 unfold wfin ifault
 by_cases h : okI (a - n) b c d <;> simp [h]
theorem w_l1 (a b c d : Int) (ha : -24 ≤ a ∧ a ≤ 24) (D : Nat) (hD : D ≤ M62) : ∀ (f N : Nat) (n : Int), 1 ≤ N → N < 2 * D → D ≤ N * 2 ^ f → -1000 + f ≤ n → n ≤ 1000 →
  Tot (fun k => tune_Within.l1 k n a b c d N D) (fun r => ∃ u : Nat, D ≤ N * 2 ^ u ∧ N * 2 ^ u < 2 * D ∧ r = wfin a b c d (n - u)) := by
 intro f
 induction f with
 | zero =>
  intro N n h1 h2 h3 h4 h5
  refine Tot.succ ?_
  simp only [tune_Within.l1]
  refine Tot.neg (by simp at h3; omega) ?_
  rw [check_eq, wr (x := a - n) (by omega) (by omega)]
  refine (Som.tot ?_)
  rw [Option.bind_some, wfin_eq]
  exact ⟨_, rfl, 0, by simpa using h3, by simpa using h2, by simp⟩
 | succ f ih =>
  intro N n h1 h2 h3 h4 h5
  refine Tot.succ ?_
  simp only [tune_Within.l1]
  refine Tot.ite (fun hlt => ?_) (fun hge => ?_)
  ·
   have e : wrap64 ((N : Int) * 2) = ((N * 2 : Nat) : Int) := by unfold M62 at hD; rw [wr] <;> omega
   rw [wr (x := n - 1) (by omega) (by omega), e]
   have h3' : D ≤ N * 2 * 2 ^ f := by rw [Nat.pow_succ, Nat.mul_comm (2 ^ f) 2, ← Nat.mul_assoc] at h3; exact h3
   refine (ih (N * 2) (n - 1) (by omega) (by omega) h3' (by omega) (by omega)).mono ?_
   rintro r ⟨u, g1, g2, rfl⟩
   have e3 : N * 2 * 2 ^ u = N * 2 ^ (u + 1) := by rw [Nat.pow_succ, Nat.mul_comm (2 ^ u) 2, ← Nat.mul_assoc]
   rw [e3] at g1 g2
   exact ⟨u + 1, g1, g2, by rw [show n - 1 - (u : Int) = n - ((u + 1 : Nat) : Int) by omega]⟩
  ·
   rw [check_eq, wr (x := a - n) (by omega) (by omega)]
   refine (Som.tot ?_)
   rw [Option.bind_some, wfin_eq]
   exact ⟨_, rfl, 0, by simp; omega, by simpa using h2, by simp⟩
theorem w_l0 (a b c d : Int) (ha : -24 ≤ a ∧ a ≤ 24) (N : Nat) (hN : N ≤ M62) (hN1 : 1 ≤ N) : ∀ (f D : Nat) (n : Int), 1 ≤ D → D ≤ M62 → N < D * 2 ^ f → -900 ≤ n → n + f ≤ 900 →
  Tot (fun k => tune_Within.l0 k n a b c d N D) (fun r => ∃ u v : Nat, D * 2 ^ v ≤ N * 2 ^ u ∧ N * 2 ^ u < 2 * (D * 2 ^ v) ∧ r = wfin a b c d (n + v - u)) := by
 intro f
 induction f with
 | zero =>
  intro D n h1 h2 h3 h4 h5
  refine Tot.succ ?_
  simp only [tune_Within.l0]
  rw [tdiv2, wr (by omega) (by unfold M62 at hN; omega)]
  refine Tot.neg (by simp at h3; omega) ?_
  refine (w_l1 a b c d ha D h2 62 N n hN1 (by simp at h3; omega) (Nat.le_trans h2 (Nat.le_trans (by decide) (Nat.le_mul_of_pos_left _ hN1))) (by omega) (by omega)).mono ?_
  rintro r ⟨u, g1, g2, rfl⟩
  exact ⟨u, 0, by simpa using g1, by simpa using g2, by simp⟩
 | succ f ih =>
  intro D n h1 h2 h3 h4 h5
  refine Tot.succ ?_
  simp only [tune_Within.l0]
  rw [tdiv2, wr (by omega) (by unfold M62 at hN; omega)]
  refine Tot.ite (fun hge => ?_) (fun hlt => ?_)
  ·
   have hle : D * 2 ≤ N := by omega
   have e : wrap64 ((D : Int) * 2) = ((D * 2 : Nat) : Int) := by unfold M62 at hN; rw [wr] <;> omega
   rw [wr (x := n + 1) (by omega) (by omega), e]
   have e3 : ∀ m : Nat, D * 2 * 2 ^ m = D * 2 ^ (m + 1) := fun m => by rw [Nat.pow_succ, Nat.mul_comm (2 ^ m) 2, ← Nat.mul_assoc]
   refine (ih (D * 2) (n + 1) (by omega) (by omega) (by rw [e3]; exact h3) (by omega) (by omega)).mono ?_
   rintro r ⟨u, v, g1, g2, rfl⟩
   rw [e3] at g1 g2
   exact ⟨u, v + 1, g1, g2, by rw [show n + 1 + (v : Int) - u = n + ((v + 1 : Nat) : Int) - u by omega]⟩
  ·
   refine (w_l1 a b c d ha D h2 62 N n hN1 (by omega) (Nat.le_trans h2 (Nat.le_trans (by decide) (Nat.le_mul_of_pos_left _ hN1))) (by omega) (by omega)).mono ?_
   rintro r ⟨u, g1, g2, rfl⟩
   exact ⟨u, 0, by simpa using g1, by simpa using g2, by simp⟩
def vfin (a b c d n : Int) : Int × Int × Int × Int × Int × Int := if okI (-n) b c d then (-n, b, c, d, a + n, 0) else (0, 0, 0, 0, 0, 1)
theorem v_l1 (a b c d y0 y1 y2 y3 : Int) (ha : -24 ≤ a ∧ a ≤ 24) (D : Nat) (hD : D ≤ M62) : ∀ (f N : Nat) (n : Int), 1 ≤ N → N < 2 * D → D ≤ N * 2 ^ f → -1000 + f ≤ n → n ≤ 1000 →
  Tot (fun k => gleeref1_WithinOf.l1 k n N D a y1 y2 y3 y0 b c d) (fun r => ∃ u : Nat, D ≤ N * 2 ^ u ∧ N * 2 ^ u < 2 * D ∧ r = vfin a b c d (n - u)) := by
 intro f
 have fin : ∀ n : Int, -1000 ≤ n → n ≤ 1000 → Tot (fun k => (gleeref1_Checked.f k (wrap64 (-n)) b c d).bind fun bt => (if bt.2.2.2.2 = 0 then (some (bt.1, bt.2.1, bt.2.2.1, bt.2.2.2.1, wrap64 (a + n), 0)) else (some (0, 0, 0, 0, 0, bt.2.2.2.2)))) (fun r => r = vfin a b c d n) := by
  intro n h1 h2
  rw [wr (x := -n) (by omega) (by omega), wr (x := a + n) (by omega) (by omega)]
  refine Tot.bind (checked_tot (-n) b c d) (fun r hr => ?_)
  subst hr
  unfold vfin
  by_cases h : okI (-n) b c d
  ·
   simp only [if_pos h, if_true]; exact Tot.one rfl
  ·
   simp only [if_neg h]; exact Tot.one rfl
 induction f with
 | zero =>
  intro N n h1 h2 h3 h4 h5
  refine Tot.succ ?_
  simp only [gleeref1_WithinOf.l1]
  refine Tot.neg (by simp at h3; omega) ?_
  exact (fin n (by omega) h5).mono fun r hr => ⟨0, by simpa using h3, by simpa using h2, by simpa using hr⟩
 | succ f ih =>
  intro N n h1 h2 h3 h4 h5
  refine Tot.succ ?_
  simp only [gleeref1_WithinOf.l1]
  refine Tot.ite (fun hlt => ?_) (fun hge => ?_)
  ·
   have e : wrap64 ((N : Int) * 2) = ((N * 2 : Nat) : Int) := by unfold M62 at hD; rw [wr] <;> omega
   rw [wr (x := n - 1) (by omega) (by omega), e]
   have h3' : D ≤ N * 2 * 2 ^ f := by rw [Nat.pow_succ, Nat.mul_comm (2 ^ f) 2, ← Nat.mul_assoc] at h3; exact h3
   refine (ih (N * 2) (n - 1) (by omega) (by omega) h3' (by omega) (by omega)).mono ?_
   rintro r ⟨u, g1, g2, rfl⟩
   have e3 : N * 2 * 2 ^ u = N * 2 ^ (u + 1) := by rw [Nat.pow_succ, Nat.mul_comm (2 ^ u) 2, ← Nat.mul_assoc]
   rw [e3] at g1 g2
   exact ⟨u + 1, g1, g2, by rw [show n - 1 - (u : Int) = n - ((u + 1 : Nat) : Int) by omega]⟩
  ·
   exact (fin n (by omega) h5).mono fun r hr => ⟨0, by simp; omega, by simpa using h2, by simpa using hr⟩
theorem v_l0 (a b c d y0 y1 y2 y3 : Int) (ha : -24 ≤ a ∧ a ≤ 24) (N : Nat) (hN : N ≤ 3061880396247200000) (hN1 : 1 ≤ N) : ∀ (f D : Nat) (n : Int), 1 ≤ D → D ≤ 4000000000000000000 → N < D * 2 ^ f → -900 ≤ n → n + f ≤ 900 →
  Tot (fun k => gleeref1_WithinOf.l0 k n N D a y1 y2 y3 y0 b c d) (fun r => ∃ u v : Nat, D * 2 ^ v ≤ N * 2 ^ u ∧ N * 2 ^ u < 2 * (D * 2 ^ v) ∧ r = vfin a b c d (n + v - u)) := by
 intro f
 induction f with
 | zero =>
  intro D n h1 h2 h3 h4 h5
  refine Tot.succ ?_
  simp only [gleeref1_WithinOf.l0]
  rw [wr (x := 2 * (D : Int)) (by omega) (by omega)]
  refine Tot.neg (by simp at h3; omega) ?_
  refine (v_l1 a b c d y0 y1 y2 y3 ha D (by unfold M62; omega) 62 N n hN1 (by simp at h3; omega) (Nat.le_trans h2 (Nat.le_trans (by decide) (Nat.le_mul_of_pos_left _ hN1))) (by omega) (by omega)).mono ?_
  rintro r ⟨u, g1, g2, rfl⟩
  exact ⟨u, 0, by simpa using g1, by simpa using g2, by simp⟩
 | succ f ih =>
  intro D n h1 h2 h3 h4 h5
  refine Tot.succ ?_
  simp only [gleeref1_WithinOf.l0]
  rw [wr (x := 2 * (D : Int)) (by omega) (by omega)]
  refine Tot.ite (fun hge => ?_) (fun hlt => ?_)
  ·
   have hle : D * 2 ≤ N := by omega
   have e : wrap64 ((D : Int) * 2) = ((D * 2 : Nat) : Int) := by rw [wr] <;> omega
   rw [wr (x := n + 1) (by omega) (by omega), e]
   have e3 : ∀ m : Nat, D * 2 * 2 ^ m = D * 2 ^ (m + 1) := fun m => by rw [Nat.pow_succ, Nat.mul_comm (2 ^ m) 2, ← Nat.mul_assoc]
   refine (ih (D * 2) (n + 1) (by omega) (by omega) (by rw [e3]; exact h3) (by omega) (by omega)).mono ?_
   rintro r ⟨u, v, g1, g2, rfl⟩
   rw [e3] at g1 g2
   exact ⟨u, v + 1, g1, g2, by rw [show n + 1 + (v : Int) - u = n + ((v + 1 : Nat) : Int) - u by omega]⟩
  ·
   refine (v_l1 a b c d y0 y1 y2 y3 ha D (by unfold M62; omega) 62 N n hN1 (by omega) (Nat.le_trans h2 (Nat.le_trans (by decide) (Nat.le_mul_of_pos_left _ hN1))) (by omega) (by omega)).mono ?_
   rintro r ⟨u, g1, g2, rfl⟩
   exact ⟨u, 0, by simpa using g1, by simpa using g2, by simp⟩

theorem within_both (a b c d : Int) (h : okI a b c d) : ∃ n : Int, Tot (fun k => tune_Within.f k a b c d) (fun r => r = wfin a b c d (a + n)) ∧ Tot (fun k => gleeref1_WithinOf.f k a b c d) (fun r => r = vfin a b c d n) ∧
  Lg (qn 0 b c d) (qn 0 (-b) (-c) (-d)) n := by
 obtain ⟨ha, hb, hc, hd⟩ := h
 have B : ∀ x y z t : Int, -24 ≤ x ∧ x ≤ 24 → -10 ≤ y ∧ y ≤ 10 → -5 ≤ z ∧ z ≤ 5 → -3 ≤ t ∧ t ≤ 3 → qn x y z t ≤ 3061880396247200000 := fun x y z t h1 h2 h3 h4 => Nat.le_trans (qn_le x y z t h1.2 h2.2 h3.2 h4.2) (by decide)
 have hb' : -10 ≤ -b ∧ -b ≤ 10 := by omega
 have hc' : -5 ≤ -c ∧ -c ≤ 5 := by omega
 have hd' : -3 ≤ -d ∧ -d ≤ 3 := by omega
 have B1 := B a b c d ha hb hc hd
 have B2 := B (-a) (-b) (-c) (-d) (by omega) hb' hc' hd'
 have B3 := B 0 b c d (by omega) hb hc hd
 have B4 := B 0 (-b) (-c) (-d) (by omega) hb' hc' hd'
 have big : ∀ N D : Nat, N ≤ 3061880396247200000 → 1 ≤ D → N < D * 2 ^ 62 := fun N D h1 h2 => Nat.lt_of_lt_of_le (Nat.lt_of_le_of_lt h1 (by decide)) (Nat.le_mul_of_pos_left (2 ^ 62) h2)
 have V := Tot.bind (f := fun k bt => gleeref1_WithinOf.l0 k 0 bt.1 bt.2 a b c d 0 b c d) (quotientOf_tot 0 b c d (by omega) hb hc hd) (fun r hr => by
  subst hr
  rw [show (-0 : Int) = 0 from rfl]
  exact v_l0 a b c d 0 b c d ha (qn 0 b c d) B3 (qn_pos _ _ _ _) 62 (qn 0 (-b) (-c) (-d)) 0 (qn_pos _ _ _ _) (Nat.le_trans B4 (by decide)) (big _ _ B3 (qn_pos _ _ _ _)) (by omega) (by omega))
 obtain ⟨r, ⟨u, v, g1, g2, rfl⟩, hV⟩ := V
 have W := Tot.bind (f := fun k bt => tune_Within.l0 k 0 a b c d bt.1 bt.2) (quotient_tot a b c d ha hb hc hd) (fun r hr => by
  subst hr
  exact w_l0 a b c d ha (qn a b c d) (Nat.le_trans B1 (by decide)) (qn_pos _ _ _ _) 62 (qn (-a) (-b) (-c) (-d)) 0 (qn_pos _ _ _ _) (Nat.le_trans B2 (by decide)) (big _ _ B1 (qn_pos _ _ _ _)) (by omega) (by omega))
 obtain ⟨r, ⟨u', v', k1, k2, rfl⟩, hW⟩ := W
 have L1 : Lg (qn 0 b c d) (qn 0 (-b) (-c) (-d)) (0 + v - u) := ⟨u, v, by omega, g1, g2⟩
 have L2 : Lg (qn a b c d) (qn (-a) (-b) (-c) (-d)) (0 + v' - u') := ⟨u', v', by omega, k1, k2⟩
 rw [qn_two a, qn_two (-a)] at L2
 have L3 := L2.shift.one L1
 refine ⟨0 + v - u, ?_, ?_, L1⟩
 ·
  refine ⟨_, rfl, ?_⟩
  obtain ⟨K, hK⟩ := hW
  refine ⟨K, fun k hk => ?_⟩
  have e : tune_Within.f k a b c d = (tune_quotient.f k a b c d).bind fun bt => tune_Within.l0 k 0 a b c d bt.1 bt.2 := by
   unfold tune_Within.f
   rw [check_eq, Option.bind_some]
   unfold ifault
   rw [if_pos (show okI a b c d from ⟨ha, hb, hc, hd⟩), if_pos rfl]
  show tune_Within.f k a b c d = _
  rw [e]
  exact (hK k hk).trans (congrArg (fun x => some (wfin a b c d x)) (by omega))
 ·
  refine ⟨_, rfl, ?_⟩
  obtain ⟨K, hK⟩ := hV
  exact ⟨K, fun k hk => hK k hk⟩
theorem within_same (a b c d n : Int) (ha : -24 ≤ a ∧ a ≤ 24) : wfin a b c d (a + n) = vfin a b c d n := by
 unfold wfin vfin
 rw [show a - (a + n) = -n by omega]


theorem gcd_step (m n : Nat) (h : 0 < n) : Nat.gcd m n = Nat.gcd n (m % n) := by rw [Nat.gcd_comm m n, Nat.gcd_rec, Nat.gcd_comm]
theorem tmod_nat (m n : Nat) : Int.tmod (m : Int) (n : Int) = ((m % n : Nat) : Int) := rfl
theorem tdiv_nat (m n : Nat) : Int.tdiv (m : Int) (n : Int) = ((m / n : Nat) : Int) := rfl
theorem divisor_tot : ∀ (f m n : Nat), n < f → Tot (fun k => gleeref1_divisor.l0 k (m : Int) (n : Int)) (fun r => r = ((Nat.gcd m n : Nat) : Int)) := by
 intro f
 induction f with
 | zero => intro m n h; omega
 | succ f ih =>
  intro m n h
  refine Tot.succ ?_
  simp only [gleeref1_divisor.l0]
  refine Tot.ite (fun h0 => Tot.one ?_) (fun h0 => ?_)
  ·
   obtain rfl : n = 0 := by omega
   rw [Nat.gcd_zero_right]
  ·
   rw [tmod_nat, gcd_step m n (by omega)]
   exact ih n (m % n) (Nat.lt_of_lt_of_le (Nat.mod_lt _ (by omega)) (by omega))
theorem lowest_tot (x y : Nat) (hx : x ≤ 9223372036854775807) (hy : y ≤ 9223372036854775807) : ∀ (f m n : Nat), n < f → 0 < Nat.gcd m n → Tot (fun k => kit_Lowest.l0 k (x : Int) (y : Int) (m : Int) (n : Int)) (fun r => r = (((x / Nat.gcd m n : Nat) : Int), ((y / Nat.gcd m n : Nat) : Int))) := by
 intro f
 induction f with
 | zero => intro m n h; omega
 | succ f ih =>
  intro m n h hg
  refine Tot.succ ?_
  simp only [kit_Lowest.l0]
  refine Tot.ite (fun h0 => ?_) (fun h0 => ?_)
  ·
   obtain rfl : n = 0 := by omega
   rw [Nat.gcd_zero_right] at hg ⊢
   refine Tot.neg (by omega) (Tot.one ?_)
   rw [tdiv_nat, tdiv_nat, wrn (Nat.le_trans (Nat.div_le_self x m) hx), wrn (Nat.le_trans (Nat.div_le_self y m) hy)]
  ·
   rw [tmod_nat, gcd_step m n (by omega)]
   rw [gcd_step m n (by omega)] at hg
   exact ih n (m % n) (Nat.lt_of_lt_of_le (Nat.mod_lt _ (by omega)) (by omega)) hg

def tm (p : Nat) : Nat → Nat → Nat × Nat
 | 0, n => (0, n)
 | f + 1, n => if n % p = 0 then ((tm p f (n / p)).1 + 1, (tm p f (n / p)).2) else (0, n)
theorem tm_le (p : Nat) (hp : 2 ≤ p) : ∀ f n, (tm p f n).1 ≤ f ∧ (tm p f n).2 ≤ n ∧ (1 ≤ n → 1 ≤ (tm p f n).2) := by
 intro f
 induction f with
 | zero => intro n; exact ⟨Nat.le_refl _, Nat.le_refl _, fun h => h⟩
 | succ f ih =>
  intro n
  unfold tm
  split
  ·
   rename_i h
   have k := ih (n / p)
   refine ⟨Nat.succ_le_succ k.1, Nat.le_trans k.2.1 (Nat.div_le_self _ _), fun h1 => k.2.2 ?_⟩
   exact Nat.div_pos (Nat.le_of_dvd h1 (Nat.dvd_of_mod_eq_zero h)) (by omega)
  ·
   exact ⟨Nat.zero_le _, Nat.le_refl _, fun h => h⟩
theorem div_lt_pow {n f p : Nat} (hp : 2 ≤ p) (h : n < 2 ^ (f + 1)) : n / p < 2 ^ f := by
 have h1 : n / p ≤ n / 2 := Nat.div_le_div_left hp (by decide)
 have h2 : n / 2 < 2 ^ f := by rw [Nat.div_lt_iff_lt_mul (by decide)]; rwa [Nat.pow_succ] at h
 omega
theorem times_tot (p : Nat) (hp : 2 ≤ p) : ∀ (f n : Nat) (c : Int), 1 ≤ n → n < 2 ^ f → n ≤ 9223372036854775807 → 0 ≤ c → c + f ≤ 1000 → Tot (fun k => tune_times.l0 k (n : Int) (p : Int) c) (fun r => r = (c + ((tm p f n).1 : Int), (((tm p f n).2 : Nat) : Int))) := by
 intro f
 induction f with
 | zero => intro n c h1 h2; simp at h2; omega
 | succ f ih =>
  intro n c h1 h2 h3 h4 h5
  refine Tot.succ ?_
  simp only [tune_times.l0]
  refine Tot.neg (by omega) ?_
  rw [tmod_nat, tdiv_nat, wrn (m := n / p) (Nat.le_trans (Nat.div_le_self n p) h3), wr (x := c + 1) (by omega) (by omega)]
  unfold tm
  by_cases h : n % p = 0
  ·
   refine Tot.pos (by omega) ?_
   rw [if_pos h]
   refine (ih (n / p) (c + 1) (Nat.div_pos (Nat.le_of_dvd h1 (Nat.dvd_of_mod_eq_zero h)) (by omega)) (div_lt_pow hp h2) (Nat.le_trans (Nat.div_le_self n p) h3) (by omega) (by omega)).mono ?_
   rintro r rfl
   exact Prod.ext (by show c + 1 + _ = c + _; omega) rfl
  ·
   refine Tot.neg (by omega) (Tot.one ?_)
   rw [if_neg h]
   simp
theorem o1_0 (p : Nat) (hp : 2 ≤ p) (y z x : Int) (xs : List Int) {Q : Int × Int × Int × Int × Int → Prop} : ∀ (f n : Nat) (c0 c1 c2 c3 : Int), 1 ≤ n → n < 2 ^ f → n ≤ 9223372036854775807 → -1000 ≤ c0 - f → c0 + f ≤ 1000 →
  Tot (fun k => gleeref1_IntervalOf.l2 k (((tm p f n).2 : Nat) : Int) y 0 (p : Int) xs z x (c0 + ((tm p f n).1 : Int)) c1 c2 c3) Q → Tot (fun k => gleeref1_IntervalOf.l1 k (n : Int) y 0 (p : Int) xs z x c0 c1 c2 c3) Q := by
 intro f
 induction f with
 | zero => intro n c0 c1 c2 c3 h1 h2; simp at h2; omega
 | succ f ih =>
  intro n c0 c1 c2 c3 h1 h2 h3 h4 h5 h
  refine Tot.succ ?_
  simp only [gleeref1_IntervalOf.l1]
  refine Tot.neg (by omega) ?_
  rw [tmod_nat, tdiv_nat, wrn (m := n / p) (Nat.le_trans (Nat.div_le_self n p) h3), wr (x := c0 + 1) (by omega) (by omega)]
  unfold tm at h
  by_cases hm : n % p = 0
  ·
   rw [if_pos hm] at h
   refine Tot.pos (by omega) (Tot.pos (by decide) (Tot.pos (by decide) (Tot.pos (by decide) ?_)))
   refine ih (n / p) (c0 + 1) c1 c2 c3 (Nat.div_pos (Nat.le_of_dvd h1 (Nat.dvd_of_mod_eq_zero hm)) (by omega)) (div_lt_pow hp h2) (Nat.le_trans (Nat.div_le_self n p) h3) (by omega) (by omega) ?_
   have e : c0 + 1 + ((tm p f (n / p)).1 : Int) = c0 + (((tm p f (n / p)).1 + 1 : Nat) : Int) := by omega
   rw [e]
   exact h
  ·
   rw [if_neg hm] at h
   refine Tot.neg (by omega) ?_
   simpa using h
theorem o2_0 (p : Nat) (hp : 2 ≤ p) (y z x : Int) (xs : List Int) {Q : Int × Int × Int × Int × Int → Prop} : ∀ (f n : Nat) (c0 c1 c2 c3 : Int), 1 ≤ n → n < 2 ^ f → n ≤ 9223372036854775807 → -1000 ≤ c0 - f → c0 + f ≤ 1000 →
  Tot (fun k => gleeref1_IntervalOf.l0 k y (((tm p f n).2 : Nat) : Int) xs z (wrap64 (x + 1)) (c0 - ((tm p f n).1 : Int)) c1 c2 c3) Q → Tot (fun k => gleeref1_IntervalOf.l2 k y (n : Int) 0 (p : Int) xs z x c0 c1 c2 c3) Q := by
 intro f
 induction f with
 | zero => intro n c0 c1 c2 c3 h1 h2; simp at h2; omega
 | succ f ih =>
  intro n c0 c1 c2 c3 h1 h2 h3 h4 h5 h
  refine Tot.succ ?_
  simp only [gleeref1_IntervalOf.l2]
  refine Tot.neg (by omega) ?_
  rw [tmod_nat, tdiv_nat, wrn (m := n / p) (Nat.le_trans (Nat.div_le_self n p) h3), wr (x := c0 - 1) (by omega) (by omega)]
  unfold tm at h
  by_cases hm : n % p = 0
  ·
   rw [if_pos hm] at h
   refine Tot.pos (by omega) (Tot.pos (by decide) (Tot.pos (by decide) (Tot.pos (by decide) ?_)))
   refine ih (n / p) (c0 - 1) c1 c2 c3 (Nat.div_pos (Nat.le_of_dvd h1 (Nat.dvd_of_mod_eq_zero hm)) (by omega)) (div_lt_pow hp h2) (Nat.le_trans (Nat.div_le_self n p) h3) (by omega) (by omega) ?_
   have e : c0 - 1 - ((tm p f (n / p)).1 : Int) = c0 - (((tm p f (n / p)).1 + 1 : Nat) : Int) := by omega
   rw [e]
   exact h
  ·
   rw [if_neg hm] at h
   refine Tot.neg (by omega) ?_
   simpa using h
theorem o1_1 (p : Nat) (hp : 2 ≤ p) (y z x : Int) (xs : List Int) {Q : Int × Int × Int × Int × Int → Prop} : ∀ (f n : Nat) (c0 c1 c2 c3 : Int), 1 ≤ n → n < 2 ^ f → n ≤ 9223372036854775807 → -1000 ≤ c1 - f → c1 + f ≤ 1000 →
  Tot (fun k => gleeref1_IntervalOf.l2 k (((tm p f n).2 : Nat) : Int) y 1 (p : Int) xs z x c0 (c1 + ((tm p f n).1 : Int)) c2 c3) Q → Tot (fun k => gleeref1_IntervalOf.l1 k (n : Int) y 1 (p : Int) xs z x c0 c1 c2 c3) Q := by
 intro f
 induction f with
 | zero => intro n c0 c1 c2 c3 h1 h2; simp at h2; omega
 | succ f ih =>
  intro n c0 c1 c2 c3 h1 h2 h3 h4 h5 h
  refine Tot.succ ?_
  simp only [gleeref1_IntervalOf.l1]
  refine Tot.neg (by omega) ?_
  rw [tmod_nat, tdiv_nat, wrn (m := n / p) (Nat.le_trans (Nat.div_le_self n p) h3), wr (x := c1 + 1) (by omega) (by omega)]
  unfold tm at h
  by_cases hm : n % p = 0
  ·
   rw [if_pos hm] at h
   refine Tot.pos (by omega) (Tot.pos (by decide) (Tot.pos (by decide) (Tot.neg (by decide) (Tot.pos (by decide) ?_))))
   refine ih (n / p) c0 (c1 + 1) c2 c3 (Nat.div_pos (Nat.le_of_dvd h1 (Nat.dvd_of_mod_eq_zero hm)) (by omega)) (div_lt_pow hp h2) (Nat.le_trans (Nat.div_le_self n p) h3) (by omega) (by omega) ?_
   have e : c1 + 1 + ((tm p f (n / p)).1 : Int) = c1 + (((tm p f (n / p)).1 + 1 : Nat) : Int) := by omega
   rw [e]
   exact h
  ·
   rw [if_neg hm] at h
   refine Tot.neg (by omega) ?_
   simpa using h
theorem o2_1 (p : Nat) (hp : 2 ≤ p) (y z x : Int) (xs : List Int) {Q : Int × Int × Int × Int × Int → Prop} : ∀ (f n : Nat) (c0 c1 c2 c3 : Int), 1 ≤ n → n < 2 ^ f → n ≤ 9223372036854775807 → -1000 ≤ c1 - f → c1 + f ≤ 1000 →
  Tot (fun k => gleeref1_IntervalOf.l0 k y (((tm p f n).2 : Nat) : Int) xs z (wrap64 (x + 1)) c0 (c1 - ((tm p f n).1 : Int)) c2 c3) Q → Tot (fun k => gleeref1_IntervalOf.l2 k y (n : Int) 1 (p : Int) xs z x c0 c1 c2 c3) Q := by
 intro f
 induction f with
 | zero => intro n c0 c1 c2 c3 h1 h2; simp at h2; omega
 | succ f ih =>
  intro n c0 c1 c2 c3 h1 h2 h3 h4 h5 h
  refine Tot.succ ?_
  simp only [gleeref1_IntervalOf.l2]
  refine Tot.neg (by omega) ?_
  rw [tmod_nat, tdiv_nat, wrn (m := n / p) (Nat.le_trans (Nat.div_le_self n p) h3), wr (x := c1 - 1) (by omega) (by omega)]
  unfold tm at h
  by_cases hm : n % p = 0
  ·
   rw [if_pos hm] at h
   refine Tot.pos (by omega) (Tot.pos (by decide) (Tot.pos (by decide) (Tot.neg (by decide) (Tot.pos (by decide) ?_))))
   refine ih (n / p) c0 (c1 - 1) c2 c3 (Nat.div_pos (Nat.le_of_dvd h1 (Nat.dvd_of_mod_eq_zero hm)) (by omega)) (div_lt_pow hp h2) (Nat.le_trans (Nat.div_le_self n p) h3) (by omega) (by omega) ?_
   have e : c1 - 1 - ((tm p f (n / p)).1 : Int) = c1 - (((tm p f (n / p)).1 + 1 : Nat) : Int) := by omega
   rw [e]
   exact h
  ·
   rw [if_neg hm] at h
   refine Tot.neg (by omega) ?_
   simpa using h
theorem o1_2 (p : Nat) (hp : 2 ≤ p) (y z x : Int) (xs : List Int) {Q : Int × Int × Int × Int × Int → Prop} : ∀ (f n : Nat) (c0 c1 c2 c3 : Int), 1 ≤ n → n < 2 ^ f → n ≤ 9223372036854775807 → -1000 ≤ c2 - f → c2 + f ≤ 1000 →
  Tot (fun k => gleeref1_IntervalOf.l2 k (((tm p f n).2 : Nat) : Int) y 2 (p : Int) xs z x c0 c1 (c2 + ((tm p f n).1 : Int)) c3) Q → Tot (fun k => gleeref1_IntervalOf.l1 k (n : Int) y 2 (p : Int) xs z x c0 c1 c2 c3) Q := by
 intro f
 induction f with
 | zero => intro n c0 c1 c2 c3 h1 h2; simp at h2; omega
 | succ f ih =>
  intro n c0 c1 c2 c3 h1 h2 h3 h4 h5 h
  refine Tot.succ ?_
  simp only [gleeref1_IntervalOf.l1]
  refine Tot.neg (by omega) ?_
  rw [tmod_nat, tdiv_nat, wrn (m := n / p) (Nat.le_trans (Nat.div_le_self n p) h3), wr (x := c2 + 1) (by omega) (by omega)]
  unfold tm at h
  by_cases hm : n % p = 0
  ·
   rw [if_pos hm] at h
   refine Tot.pos (by omega) (Tot.pos (by decide) (Tot.pos (by decide) (Tot.neg (by decide) (Tot.neg (by decide) (Tot.pos (by decide) ?_)))))
   refine ih (n / p) c0 c1 (c2 + 1) c3 (Nat.div_pos (Nat.le_of_dvd h1 (Nat.dvd_of_mod_eq_zero hm)) (by omega)) (div_lt_pow hp h2) (Nat.le_trans (Nat.div_le_self n p) h3) (by omega) (by omega) ?_
   have e : c2 + 1 + ((tm p f (n / p)).1 : Int) = c2 + (((tm p f (n / p)).1 + 1 : Nat) : Int) := by omega
   rw [e]
   exact h
  ·
   rw [if_neg hm] at h
   refine Tot.neg (by omega) ?_
   simpa using h
theorem o2_2 (p : Nat) (hp : 2 ≤ p) (y z x : Int) (xs : List Int) {Q : Int × Int × Int × Int × Int → Prop} : ∀ (f n : Nat) (c0 c1 c2 c3 : Int), 1 ≤ n → n < 2 ^ f → n ≤ 9223372036854775807 → -1000 ≤ c2 - f → c2 + f ≤ 1000 →
  Tot (fun k => gleeref1_IntervalOf.l0 k y (((tm p f n).2 : Nat) : Int) xs z (wrap64 (x + 1)) c0 c1 (c2 - ((tm p f n).1 : Int)) c3) Q → Tot (fun k => gleeref1_IntervalOf.l2 k y (n : Int) 2 (p : Int) xs z x c0 c1 c2 c3) Q := by
 intro f
 induction f with
 | zero => intro n c0 c1 c2 c3 h1 h2; simp at h2; omega
 | succ f ih =>
  intro n c0 c1 c2 c3 h1 h2 h3 h4 h5 h
  refine Tot.succ ?_
  simp only [gleeref1_IntervalOf.l2]
  refine Tot.neg (by omega) ?_
  rw [tmod_nat, tdiv_nat, wrn (m := n / p) (Nat.le_trans (Nat.div_le_self n p) h3), wr (x := c2 - 1) (by omega) (by omega)]
  unfold tm at h
  by_cases hm : n % p = 0
  ·
   rw [if_pos hm] at h
   refine Tot.pos (by omega) (Tot.pos (by decide) (Tot.pos (by decide) (Tot.neg (by decide) (Tot.neg (by decide) (Tot.pos (by decide) ?_)))))
   refine ih (n / p) c0 c1 (c2 - 1) c3 (Nat.div_pos (Nat.le_of_dvd h1 (Nat.dvd_of_mod_eq_zero hm)) (by omega)) (div_lt_pow hp h2) (Nat.le_trans (Nat.div_le_self n p) h3) (by omega) (by omega) ?_
   have e : c2 - 1 - ((tm p f (n / p)).1 : Int) = c2 - (((tm p f (n / p)).1 + 1 : Nat) : Int) := by omega
   rw [e]
   exact h
  ·
   rw [if_neg hm] at h
   refine Tot.neg (by omega) ?_
   simpa using h
theorem o1_3 (p : Nat) (hp : 2 ≤ p) (y z x : Int) (xs : List Int) {Q : Int × Int × Int × Int × Int → Prop} : ∀ (f n : Nat) (c0 c1 c2 c3 : Int), 1 ≤ n → n < 2 ^ f → n ≤ 9223372036854775807 → -1000 ≤ c3 - f → c3 + f ≤ 1000 →
  Tot (fun k => gleeref1_IntervalOf.l2 k (((tm p f n).2 : Nat) : Int) y 3 (p : Int) xs z x c0 c1 c2 (c3 + ((tm p f n).1 : Int))) Q → Tot (fun k => gleeref1_IntervalOf.l1 k (n : Int) y 3 (p : Int) xs z x c0 c1 c2 c3) Q := by
 intro f
 induction f with
 | zero => intro n c0 c1 c2 c3 h1 h2; simp at h2; omega
 | succ f ih =>
  intro n c0 c1 c2 c3 h1 h2 h3 h4 h5 h
  refine Tot.succ ?_
  simp only [gleeref1_IntervalOf.l1]
  refine Tot.neg (by omega) ?_
  rw [tmod_nat, tdiv_nat, wrn (m := n / p) (Nat.le_trans (Nat.div_le_self n p) h3), wr (x := c3 + 1) (by omega) (by omega)]
  unfold tm at h
  by_cases hm : n % p = 0
  ·
   rw [if_pos hm] at h
   refine Tot.pos (by omega) (Tot.pos (by decide) (Tot.pos (by decide) (Tot.neg (by decide) (Tot.neg (by decide) (Tot.neg (by decide) (Tot.pos (by decide) ?_))))))
   refine ih (n / p) c0 c1 c2 (c3 + 1) (Nat.div_pos (Nat.le_of_dvd h1 (Nat.dvd_of_mod_eq_zero hm)) (by omega)) (div_lt_pow hp h2) (Nat.le_trans (Nat.div_le_self n p) h3) (by omega) (by omega) ?_
   have e : c3 + 1 + ((tm p f (n / p)).1 : Int) = c3 + (((tm p f (n / p)).1 + 1 : Nat) : Int) := by omega
   rw [e]
   exact h
  ·
   rw [if_neg hm] at h
   refine Tot.neg (by omega) ?_
   simpa using h
theorem o2_3 (p : Nat) (hp : 2 ≤ p) (y z x : Int) (xs : List Int) {Q : Int × Int × Int × Int × Int → Prop} : ∀ (f n : Nat) (c0 c1 c2 c3 : Int), 1 ≤ n → n < 2 ^ f → n ≤ 9223372036854775807 → -1000 ≤ c3 - f → c3 + f ≤ 1000 →
  Tot (fun k => gleeref1_IntervalOf.l0 k y (((tm p f n).2 : Nat) : Int) xs z (wrap64 (x + 1)) c0 c1 c2 (c3 - ((tm p f n).1 : Int))) Q → Tot (fun k => gleeref1_IntervalOf.l2 k y (n : Int) 3 (p : Int) xs z x c0 c1 c2 c3) Q := by
 intro f
 induction f with
 | zero => intro n c0 c1 c2 c3 h1 h2; simp at h2; omega
 | succ f ih =>
  intro n c0 c1 c2 c3 h1 h2 h3 h4 h5 h
  refine Tot.succ ?_
  simp only [gleeref1_IntervalOf.l2]
  refine Tot.neg (by omega) ?_
  rw [tmod_nat, tdiv_nat, wrn (m := n / p) (Nat.le_trans (Nat.div_le_self n p) h3), wr (x := c3 - 1) (by omega) (by omega)]
  unfold tm at h
  by_cases hm : n % p = 0
  ·
   rw [if_pos hm] at h
   refine Tot.pos (by omega) (Tot.pos (by decide) (Tot.pos (by decide) (Tot.neg (by decide) (Tot.neg (by decide) (Tot.neg (by decide) (Tot.pos (by decide) ?_))))))
   refine ih (n / p) c0 c1 c2 (c3 - 1) (Nat.div_pos (Nat.le_of_dvd h1 (Nat.dvd_of_mod_eq_zero hm)) (by omega)) (div_lt_pow hp h2) (Nat.le_trans (Nat.div_le_self n p) h3) (by omega) (by omega) ?_
   have e : c3 - 1 - ((tm p f (n / p)).1 : Int) = c3 - (((tm p f (n / p)).1 + 1 : Nat) : Int) := by omega
   rw [e]
   exact h
  ·
   rw [if_neg hm] at h
   refine Tot.neg (by omega) ?_
   simpa using h
def ofin (x y : Int) (a b c d : Int) : Int × Int × Int × Int × Int := if x = 1 ∧ y = 1 then (if okI a b c d then (a, b, c, d, 0) else (0, 0, 0, 0, 1)) else (0, 0, 0, 0, 16)
theorem of_j2 (x y a b c d : Int) : Tot (fun k => if x = 1 then (tune_Of.j2 k (y != 1) a b c d) else (tune_Of.j2 k true a b c d)) (fun r => r = ofin x y a b c d) := by
 have B : ∀ t : Bool, Tot (fun k => tune_Of.j2 k t a b c d) (fun r => r = if t = true then (0, 0, 0, 0, 16) else if okI a b c d then (a, b, c, d, 0) else (0, 0, 0, 0, 1)) := by
  intro t
  refine Tot.succ ?_
  simp only [tune_Of.j2]
  refine Tot.ite (fun h => Tot.one (by rw [if_pos h])) (fun h => ?_)
  rw [if_neg h, check_eq, Option.bind_some]
  unfold ifault
  by_cases ho : okI a b c d
  ·
   simp only [if_pos ho, if_true]; exact Tot.one rfl
  ·
   simp only [if_neg ho]; exact Tot.one rfl
 unfold ofin
 refine Tot.ite (fun h => (B _).mono ?_) (fun h => (B _).mono ?_)
 ·
  rintro r rfl
  by_cases hy : y = 1 <;> simp [h, hy]
 ·
  rintro r rfl
  simp [h]
theorem of_j4 (x y a b c d : Int) : Tot (fun k => if x = 1 then (gleeref1_IntervalOf.j4 k (y != 1) a b c d) else (gleeref1_IntervalOf.j4 k true a b c d)) (fun r => r = ofin x y a b c d) := by
 have B : ∀ t : Bool, Tot (fun k => gleeref1_IntervalOf.j4 k t a b c d) (fun r => r = if t = true then (0, 0, 0, 0, 16) else if okI a b c d then (a, b, c, d, 0) else (0, 0, 0, 0, 1)) := by
  intro t
  refine Tot.succ ?_
  simp only [gleeref1_IntervalOf.j4]
  refine Tot.ite (fun h => Tot.one (by rw [if_pos h])) (fun h => ?_)
  rw [if_neg h]
  refine Tot.bind (ifault_tot a b c d) (fun r hr => ?_)
  subst hr
  unfold ifault
  by_cases ho : okI a b c d
  ·
   simp only [if_pos ho, if_true]; exact Tot.one rfl
  ·
   simp only [if_neg ho]; exact Tot.one rfl
 unfold ofin
 refine Tot.ite (fun h => (B _).mono ?_) (fun h => (B _).mono ?_)
 ·
  rintro r rfl
  by_cases hy : y = 1 <;> simp [h, hy]
 ·
  rintro r rfl
  simp [h]

def n1 (m : Nat) : Nat := (tm 2 64 m).2
def n2 (m : Nat) : Nat := (tm 3 64 (n1 m)).2
def n3 (m : Nat) : Nat := (tm 5 64 (n2 m)).2
def n4 (m : Nat) : Nat := (tm 7 64 (n3 m)).2
def ores (m n : Nat) : Int × Int × Int × Int × Int :=
 ofin (n4 m) (n4 n) (((tm 2 64 m).1 : Int) - ((tm 2 64 n).1 : Int)) (((tm 3 64 (n1 m)).1 : Int) - ((tm 3 64 (n1 n)).1 : Int)) (((tm 5 64 (n2 m)).1 : Int) - ((tm 5 64 (n2 n)).1 : Int)) (((tm 7 64 (n3 m)).1 : Int) - ((tm 7 64 (n3 n)).1 : Int))
theorem left_ok (m : Nat) (h1 : 1 ≤ m) (h2 : m ≤ 9223372036854775807) : (1 ≤ n1 m ∧ n1 m ≤ 9223372036854775807) ∧ (1 ≤ n2 m ∧ n2 m ≤ 9223372036854775807) ∧ (1 ≤ n3 m ∧ n3 m ≤ 9223372036854775807) := by
 have a := tm_le 2 (by decide) 64 m
 have a1 : 1 ≤ n1 m := a.2.2 h1
 have a2 : n1 m ≤ 9223372036854775807 := Nat.le_trans a.2.1 h2
 have b := tm_le 3 (by decide) 64 (n1 m)
 have b1 : 1 ≤ n2 m := b.2.2 a1
 have b2 : n2 m ≤ 9223372036854775807 := Nat.le_trans b.2.1 a2
 have c := tm_le 5 (by decide) 64 (n2 m)
 exact ⟨⟨a1, a2⟩, ⟨b1, b2⟩, c.2.2 b1, Nat.le_trans c.2.1 b2⟩
theorem small64 {m : Nat} (h : m ≤ 9223372036854775807) : m < 2 ^ 64 := Nat.lt_of_le_of_lt h (by decide)
theorem of_step (i : Int) (p : Nat) (hp : 2 ≤ p) (m n : Nat) (hm : 1 ≤ m ∧ m ≤ 9223372036854775807) (hn : 1 ≤ n ∧ n ≤ 9223372036854775807) (hi : 0 ≤ i ∧ i < 4) (hr : rd ([2, 3, 5, 7] : List Int) i = (p : Int)) (a b c d : Int) {Q : Int × Int × Int × Int × Int → Prop}
  (h : Tot (fun k => if i = 0 then tune_Of.l0 k ((tm p 64 m).2 : Nat) ((tm p 64 n).2 : Nat) (i + 1) 7 5 3 2 (((tm p 64 m).1 : Int) - ((tm p 64 n).1 : Int)) b c d else if i = 1 then tune_Of.l0 k ((tm p 64 m).2 : Nat) ((tm p 64 n).2 : Nat) (i + 1) 7 5 3 2 a (((tm p 64 m).1 : Int) - ((tm p 64 n).1 : Int)) c d
   else if i = 2 then tune_Of.l0 k ((tm p 64 m).2 : Nat) ((tm p 64 n).2 : Nat) (i + 1) 7 5 3 2 a b (((tm p 64 m).1 : Int) - ((tm p 64 n).1 : Int)) d else if i = 3 then tune_Of.l0 k ((tm p 64 m).2 : Nat) ((tm p 64 n).2 : Nat) (i + 1) 7 5 3 2 a b c (((tm p 64 m).1 : Int) - ((tm p 64 n).1 : Int)) else none) Q) :
  Tot (fun k => tune_Of.l0 k (m : Int) (n : Int) i 7 5 3 2 a b c d) Q := by
 refine Tot.succ ?_
 simp only [tune_Of.l0]
 refine Tot.pos hi.2 (Tot.pos hi.1 ?_)
 rw [hr]
 unfold tune_times.f
 have M := tm_le p hp 64 m
 have N := tm_le p hp 64 n
 refine Tot.bind (times_tot p hp 64 m 0 hm.1 (small64 hm.2) hm.2 (by omega) (by omega)) (fun r hr => ?_)
 subst hr
 refine Tot.bind (times_tot p hp 64 n 0 hn.1 (small64 hn.2) hn.2 (by omega) (by omega)) (fun r hr => ?_)
 subst hr
 have e : wrap64 (0 + ((tm p 64 m).1 : Int) - (0 + ((tm p 64 n).1 : Int))) = ((tm p 64 m).1 : Int) - ((tm p 64 n).1 : Int) := by rw [wr] <;> omega
 simp only [e, wr (x := i + 1) (by omega) (by omega)]
 exact h
theorem ref_step0 (m n : Nat) (hm : 1 ≤ m ∧ m ≤ 9223372036854775807) (hn : 1 ≤ n ∧ n ≤ 9223372036854775807) {Q : Int × Int × Int × Int × Int → Prop}
  (h : Tot (fun k => gleeref1_IntervalOf.l0 k ((tm 2 64 m).2 : Nat) ((tm 2 64 n).2 : Nat) [2, 3, 5, 7] 4 1 (((tm 2 64 m).1 : Int) - ((tm 2 64 n).1 : Int)) 0 0 0) Q) :
  Tot (fun k => gleeref1_IntervalOf.l0 k (m : Int) (n : Int) [2, 3, 5, 7] 4 0 0 0 0 0) Q := by
 refine Tot.succ ?_
 simp only [gleeref1_IntervalOf.l0]
 refine Tot.pos (by omega) (Tot.pos (by omega) (Tot.pos (by decide) ?_))
 refine o1_0 2 (by decide) (n : Int) 4 0 [2, 3, 5, 7] 64 m 0 0 0 0 hm.1 (small64 hm.2) hm.2 (by omega) (by omega) ?_
 have M := tm_le 2 (by decide) 64 m
 refine o2_0 2 (by decide) _ 4 0 [2, 3, 5, 7] 64 n _ 0 0 0 hn.1 (small64 hn.2) hn.2 (by omega) (by omega) ?_
 simpa [show wrap64 (1 : Int) = 1 from wr (by omega) (by omega), show wrap64 (2 : Int) = 2 from wr (by omega) (by omega), show wrap64 (3 : Int) = 3 from wr (by omega) (by omega), show wrap64 (4 : Int) = 4 from wr (by omega) (by omega)] using h
theorem ref_step1 (m n : Nat) (hm : 1 ≤ m ∧ m ≤ 9223372036854775807) (hn : 1 ≤ n ∧ n ≤ 9223372036854775807) (a : Int) {Q : Int × Int × Int × Int × Int → Prop}
  (h : Tot (fun k => gleeref1_IntervalOf.l0 k ((tm 3 64 m).2 : Nat) ((tm 3 64 n).2 : Nat) [2, 3, 5, 7] 4 2 a (((tm 3 64 m).1 : Int) - ((tm 3 64 n).1 : Int)) 0 0) Q) :
  Tot (fun k => gleeref1_IntervalOf.l0 k (m : Int) (n : Int) [2, 3, 5, 7] 4 1 a 0 0 0) Q := by
 refine Tot.succ ?_
 simp only [gleeref1_IntervalOf.l0]
 refine Tot.pos (by omega) (Tot.pos (by omega) (Tot.pos (by decide) ?_))
 refine o1_1 3 (by decide) (n : Int) 4 1 [2, 3, 5, 7] 64 m a 0 0 0 hm.1 (small64 hm.2) hm.2 (by omega) (by omega) ?_
 have M := tm_le 3 (by decide) 64 m
 refine o2_1 3 (by decide) _ 4 1 [2, 3, 5, 7] 64 n a _ 0 0 hn.1 (small64 hn.2) hn.2 (by omega) (by omega) ?_
 simpa [show wrap64 (1 : Int) = 1 from wr (by omega) (by omega), show wrap64 (2 : Int) = 2 from wr (by omega) (by omega), show wrap64 (3 : Int) = 3 from wr (by omega) (by omega), show wrap64 (4 : Int) = 4 from wr (by omega) (by omega)] using h
theorem ref_step2 (m n : Nat) (hm : 1 ≤ m ∧ m ≤ 9223372036854775807) (hn : 1 ≤ n ∧ n ≤ 9223372036854775807) (a b : Int) {Q : Int × Int × Int × Int × Int → Prop}
  (h : Tot (fun k => gleeref1_IntervalOf.l0 k ((tm 5 64 m).2 : Nat) ((tm 5 64 n).2 : Nat) [2, 3, 5, 7] 4 3 a b (((tm 5 64 m).1 : Int) - ((tm 5 64 n).1 : Int)) 0) Q) :
  Tot (fun k => gleeref1_IntervalOf.l0 k (m : Int) (n : Int) [2, 3, 5, 7] 4 2 a b 0 0) Q := by
 refine Tot.succ ?_
 simp only [gleeref1_IntervalOf.l0]
 refine Tot.pos (by omega) (Tot.pos (by omega) (Tot.pos (by decide) ?_))
 refine o1_2 5 (by decide) (n : Int) 4 2 [2, 3, 5, 7] 64 m a b 0 0 hm.1 (small64 hm.2) hm.2 (by omega) (by omega) ?_
 have M := tm_le 5 (by decide) 64 m
 refine o2_2 5 (by decide) _ 4 2 [2, 3, 5, 7] 64 n a b _ 0 hn.1 (small64 hn.2) hn.2 (by omega) (by omega) ?_
 simpa [show wrap64 (1 : Int) = 1 from wr (by omega) (by omega), show wrap64 (2 : Int) = 2 from wr (by omega) (by omega), show wrap64 (3 : Int) = 3 from wr (by omega) (by omega), show wrap64 (4 : Int) = 4 from wr (by omega) (by omega)] using h
theorem ref_step3 (m n : Nat) (hm : 1 ≤ m ∧ m ≤ 9223372036854775807) (hn : 1 ≤ n ∧ n ≤ 9223372036854775807) (a b c : Int) {Q : Int × Int × Int × Int × Int → Prop}
  (h : Tot (fun k => gleeref1_IntervalOf.l0 k ((tm 7 64 m).2 : Nat) ((tm 7 64 n).2 : Nat) [2, 3, 5, 7] 4 4 a b c (((tm 7 64 m).1 : Int) - ((tm 7 64 n).1 : Int))) Q) :
  Tot (fun k => gleeref1_IntervalOf.l0 k (m : Int) (n : Int) [2, 3, 5, 7] 4 3 a b c 0) Q := by
 refine Tot.succ ?_
 simp only [gleeref1_IntervalOf.l0]
 refine Tot.pos (by omega) (Tot.pos (by omega) (Tot.pos (by decide) ?_))
 refine o1_3 7 (by decide) (n : Int) 4 3 [2, 3, 5, 7] 64 m a b c 0 hm.1 (small64 hm.2) hm.2 (by omega) (by omega) ?_
 have M := tm_le 7 (by decide) 64 m
 refine o2_3 7 (by decide) _ 4 3 [2, 3, 5, 7] 64 n a b c _ hn.1 (small64 hn.2) hn.2 (by omega) (by omega) ?_
 simpa [show wrap64 (1 : Int) = 1 from wr (by omega) (by omega), show wrap64 (2 : Int) = 2 from wr (by omega) (by omega), show wrap64 (3 : Int) = 3 from wr (by omega) (by omega), show wrap64 (4 : Int) = 4 from wr (by omega) (by omega)] using h
theorem gcd_same {m n : Nat} (hm : 1 ≤ m) : (m / Nat.gcd m n = m ∧ n / Nat.gcd m n = n) ↔ Nat.gcd m n = 1 := by
 constructor
 ·
  rintro ⟨h, _⟩
  have hg : 0 < Nat.gcd m n := Nat.gcd_pos_of_pos_left _ hm
  refine Nat.le_antisymm (Nat.not_lt.1 fun h2 => ?_) hg
  have := Nat.div_lt_self hm h2
  omega
 ·
  intro h
  rw [h]
  exact ⟨Nat.div_one _, Nat.div_one _⟩
theorem of_both (x y : Int) (hx : x ≤ 9223372036854775807) (hy : y ≤ 9223372036854775807) : ∃ r, Tot (fun k => tune_Of.f k x y) (fun q => q = r) ∧ Tot (fun k => gleeref1_IntervalOf.f k x y) (fun q => q = r) := by
 unfold tune_Of.f gleeref1_IntervalOf.f
 by_cases h1 : x < 1
 ·
  simp only [if_pos h1]
  refine ⟨(0, 0, 0, 0, 1), Tot.succ ?_, Tot.succ ?_⟩
  ·
   simp only [tune_Of.j0]; exact Tot.one rfl
  ·
   simp only [gleeref1_IntervalOf.j0]; exact Tot.one rfl
 simp only [if_neg h1]
 by_cases h2 : y < 1
 ·
  refine ⟨(0, 0, 0, 0, 1), Tot.succ ?_, Tot.succ ?_⟩
  ·
   simp only [tune_Of.j0, decide_eq_true h2]; exact Tot.one rfl
  ·
   simp only [gleeref1_IntervalOf.j0, decide_eq_true h2]; exact Tot.one rfl
 obtain ⟨m, rfl⟩ := Int.eq_ofNat_of_zero_le (show 0 ≤ x by omega)
 obtain ⟨n, rfl⟩ := Int.eq_ofNat_of_zero_le (show 0 ≤ y by omega)
 have hm : 1 ≤ m ∧ m ≤ 9223372036854775807 := by omega
 have hn : 1 ≤ n ∧ n ≤ 9223372036854775807 := by omega
 have hg : 0 < Nat.gcd m n := Nat.gcd_pos_of_pos_left _ hm.1
 refine ⟨if Nat.gcd m n = 1 then ores m n else (0, 0, 0, 0, 3), Tot.succ ?_, Tot.succ ?_⟩
 ·
  simp only [tune_Of.j0, decide_eq_false h2]
  refine Tot.neg (by decide) ?_
  unfold kit_Lowest.f
  refine Tot.bind (lowest_tot m n hm.2 hn.2 (n + 1) m n (by omega) hg) (fun r hr => ?_)
  subst hr
  by_cases hs : Nat.gcd m n = 1
  ·
   have hd := (gcd_same hm.1).2 hs
   refine Tot.neg (by rw [hd.1, hd.2]; simp) ?_
   rw [if_pos hs]
   simp only [tune_primes.f, Option.bind_some]
   have A := left_ok m hm.1 hm.2
   have B := left_ok n hn.1 hn.2
   refine of_step 0 2 (by decide) m n hm hn (by omega) rfl 0 0 0 0 (Tot.pos rfl ?_)
   refine of_step 1 3 (by decide) (n1 m) (n1 n) A.1 B.1 (by omega) rfl _ 0 0 0 (Tot.neg (by decide) (Tot.pos rfl ?_))
   refine of_step 2 5 (by decide) (n2 m) (n2 n) A.2.1 B.2.1 (by omega) rfl _ _ 0 0 (Tot.neg (by decide) (Tot.neg (by decide) (Tot.pos rfl ?_)))
   refine of_step 3 7 (by decide) (n3 m) (n3 n) A.2.2 B.2.2 (by omega) rfl _ _ _ 0 (Tot.neg (by decide) (Tot.neg (by decide) (Tot.neg (by decide) (Tot.pos rfl ?_))))
   refine Tot.succ ?_
   simp only [tune_Of.l0]
   exact Tot.neg (by omega) (of_j2 _ _ _ _ _ _)
  ·
   rw [if_neg hs]
   refine Tot.pos ?_ (Tot.one rfl)
   have hd := fun h => hs ((gcd_same hm.1).1 h)
   by_cases he : m / Nat.gcd m n = m
   ·
    have : ¬ n / Nat.gcd m n = n := fun h => hd ⟨he, h⟩
    have h3 : ¬ ((n / Nat.gcd m n : Nat) : Int) = (n : Int) := by omega
    rw [beq_eq_false_iff_ne.2 h3, Bool.not_false, Bool.or_true]
   ·
    have h3 : ¬ ((m / Nat.gcd m n : Nat) : Int) = (m : Int) := by omega
    rw [beq_eq_false_iff_ne.2 h3, Bool.not_false, Bool.true_or]
 ·
  simp only [gleeref1_IntervalOf.j0, decide_eq_false h2]
  refine Tot.neg (by decide) ?_
  unfold gleeref1_divisor.f
  refine Tot.bind (divisor_tot (n + 1) m n (by omega)) (fun r hr => ?_)
  subst hr
  by_cases hs : Nat.gcd m n = 1
  ·
   refine Tot.pos (by rw [hs]; rfl) ?_
   rw [if_pos hs]
   simp only [Option.bind_some]
   have A := left_ok m hm.1 hm.2
   have B := left_ok n hn.1 hn.2
   refine ref_step0 m n hm hn ?_
   refine ref_step1 (n1 m) (n1 n) A.1 B.1 _ ?_
   refine ref_step2 (n2 m) (n2 n) A.2.1 B.2.1 _ _ ?_
   refine ref_step3 (n3 m) (n3 n) A.2.2 B.2.2 _ _ _ ?_
   refine Tot.succ ?_
   simp only [gleeref1_IntervalOf.l0]
   exact Tot.neg (by omega) (of_j4 _ _ _ _ _ _)
  ·
   rw [if_neg hs]
   exact Tot.neg (by omega) (Tot.one rfl)


abbrev SI : Type := S27
def okS (s : SI) : Prop := okI s.f0 s.f1 s.f2 s.f3
instance (s : SI) : Decidable (okS s) := by unfold okS; infer_instance
def allFault : List SI → Int
 | [] => 0
 | x :: r => if okS x then allFault r else 1
theorem drop_cons_rdI (xs : List SI) (i : Nat) (h : i < xs.length) : xs.drop i = rd_T27 xs (i : Int) :: xs.drop (i + 1) := by
 rw [List.drop_eq_getElem_cons h]
 simp [rd_T27, List.getElem?_eq_getElem h]
theorem all_tot (xs : List SI) (hl : xs.length ≤ 1000000) : ∀ (d i : Nat), i + d = xs.length → Tot (fun k => tune_checkAll.l0 k xs (xs.length : Int) (i : Int)) (fun r => r = allFault (xs.drop i)) := by
 intro d
 induction d with
 | zero =>
  intro i h
  refine Tot.succ ?_
  simp only [tune_checkAll.l0]
  refine Tot.neg (by omega) (Tot.one ?_)
  rw [List.drop_of_length_le (by omega)]
  rfl
 | succ d ih =>
  intro i h
  refine Tot.succ ?_
  simp only [tune_checkAll.l0]
  refine Tot.pos (by omega) (Tot.pos (by omega) (Tot.pos (by omega) ?_))
  have e : wrap64 ((i : Int) + 1) = ((i + 1 : Nat) : Int) := by rw [wr] <;> omega
  rw [e, drop_cons_rdI xs i (by omega), check_eq]
  simp only [Option.bind_some]
  unfold ifault
  by_cases ho : okS (rd_T27 xs (i : Int))
  ·
   rw [if_pos (show okI _ _ _ _ from ho), allFault, if_pos ho]
   exact Tot.pos rfl (ih (i + 1) (by omega))
  ·
   rw [if_neg (show ¬ okI _ _ _ _ from ho), allFault, if_neg ho]
   exact Tot.neg (by decide) (Tot.one rfl)
theorem checkAll_tot (xs : List SI) (hl : xs.length ≤ 1000000) : Tot (fun k => tune_checkAll.f k xs) (fun r => r = allFault xs) := all_tot xs hl xs.length 0 (by omega)
def bothFault (a b c d e f g h : Int) : Int := if okI a b c d then (if okI e f g h then 0 else 1) else 1
theorem allFault_two (a b c d e f g h : Int) : allFault [(⟨a, b, c, d⟩ : SI), (⟨e, f, g, h⟩ : SI)] = bothFault a b c d e f g h := by
 unfold bothFault
 simp only [allFault]
 rfl
def chk (a b c d : Int) : Int × Int × Int × Int × Int := if okI a b c d then (a, b, c, d, 0) else (0, 0, 0, 0, 1)
theorem sum_tot (a b c d e f g h : Int) : Tot (fun k => tune_Sum.f k a b c d e f g h) (fun r => r = if bothFault a b c d e f g h = 0 then chk (a + e) (b + f) (c + g) (d + h) else (0, 0, 0, 0, bothFault a b c d e f g h)) := by
 unfold tune_Sum.f
 refine Tot.bind (checkAll_tot _ (by simp)) (fun r hr => ?_)
 rw [allFault_two] at hr
 subst hr
 refine Tot.ite (fun h0 => ?_) (fun h0 => Tot.one (by rw [if_neg h0]))
 rw [if_pos h0]
 have ok : okI a b c d ∧ okI e f g h := by
  unfold bothFault at h0
  by_cases h1 : okI a b c d
  ·
   by_cases h2 : okI e f g h
   ·
    exact ⟨h1, h2⟩
   ·
    simp [h1, h2] at h0
  ·
   simp [h1] at h0
 obtain ⟨⟨k1, k2, k3, k4⟩, ⟨m1, m2, m3, m4⟩⟩ := ok
 simp only [tune_sum.f, Option.bind_some, checked_eq]
 rw [wr (x := a + e) (by omega) (by omega), wr (x := b + f) (by omega) (by omega), wr (x := c + g) (by omega) (by omega), wr (x := d + h) (by omega) (by omega)]
 exact Tot.one rfl
theorem difference_tot (a b c d e f g h : Int) : Tot (fun k => tune_Difference.f k a b c d e f g h) (fun r => r = if bothFault a b c d e f g h = 0 then chk (a - e) (b - f) (c - g) (d - h) else (0, 0, 0, 0, bothFault a b c d e f g h)) := by
 unfold tune_Difference.f
 refine Tot.bind (checkAll_tot _ (by simp)) (fun r hr => ?_)
 rw [allFault_two] at hr
 subst hr
 refine Tot.ite (fun h0 => ?_) (fun h0 => Tot.one (by rw [if_neg h0]))
 rw [if_pos h0]
 have ok : okI a b c d ∧ okI e f g h := by
  unfold bothFault at h0
  by_cases h1 : okI a b c d
  ·
   by_cases h2 : okI e f g h
   ·
    exact ⟨h1, h2⟩
   ·
    simp [h1, h2] at h0
  ·
   simp [h1] at h0
 obtain ⟨⟨k1, k2, k3, k4⟩, ⟨m1, m2, m3, m4⟩⟩ := ok
 simp only [tune_inverse.f, tune_sum.f, Option.bind_some, checked_eq]
 rw [wr (x := -e) (by omega) (by omega), wr (x := -f) (by omega) (by omega), wr (x := -g) (by omega) (by omega), wr (x := -h) (by omega) (by omega)]
 rw [wr (x := a + -e) (by omega) (by omega), wr (x := b + -f) (by omega) (by omega), wr (x := c + -g) (by omega) (by omega), wr (x := d + -h) (by omega) (by omega)]
 exact Tot.one rfl
theorem sumOf_tot (a b c d e f g h : Int) (h1 : okI a b c d) (h2 : okI e f g h) : Tot (fun k => gleeref1_SumOf.f k a b c d e f g h 1) (fun r => r = chk (a + e) (b + f) (c + g) (d + h)) := by
 obtain ⟨k1, k2, k3, k4⟩ := h1
 obtain ⟨m1, m2, m3, m4⟩ := h2
 unfold gleeref1_SumOf.f
 simp only [gleeref1_plus.f, Option.bind_some, Int.one_mul]
 rw [wr (x := e) (by omega) (by omega), wr (x := f) (by omega) (by omega), wr (x := g) (by omega) (by omega), wr (x := h) (by omega) (by omega)]
 rw [wr (x := a + e) (by omega) (by omega), wr (x := b + f) (by omega) (by omega), wr (x := c + g) (by omega) (by omega), wr (x := d + h) (by omega) (by omega)]
 refine Tot.bind (checked_tot _ _ _ _) (fun r hr => Tot.one ?_)
 rw [hr]
 rfl
theorem differenceOf_tot (a b c d e f g h : Int) (h1 : okI a b c d) (h2 : okI e f g h) : Tot (fun k => gleeref1_SumOf.f k a b c d e f g h (-1)) (fun r => r = chk (a - e) (b - f) (c - g) (d - h)) := by
 obtain ⟨k1, k2, k3, k4⟩ := h1
 obtain ⟨m1, m2, m3, m4⟩ := h2
 unfold gleeref1_SumOf.f
 simp only [gleeref1_plus.f, Option.bind_some, show ∀ x : Int, -1 * x = -x from fun x => by omega]
 rw [wr (x := -e) (by omega) (by omega), wr (x := -f) (by omega) (by omega), wr (x := -g) (by omega) (by omega), wr (x := -h) (by omega) (by omega)]
 rw [wr (x := a + -e) (by omega) (by omega), wr (x := b + -f) (by omega) (by omega), wr (x := c + -g) (by omega) (by omega), wr (x := d + -h) (by omega) (by omega)]
 refine Tot.bind (checked_tot _ _ _ _) (fun r hr => Tot.one ?_)
 rw [hr]
 rfl
def csign (h l i m : Int) : Int := if h < i then -1 else if h = i then (if l < m then -1 else if l = m then 0 else 1) else 1
theorem j0_tot (h l i m : Int) : Tot (fun k => tune_compare.j0 k h l i m) (fun r => r = csign h l i m) := by
 have B : ∀ t : Bool, Tot (fun k => tune_compare.j1 k h l i m t) (fun r => r = if t = true then -1 else if h = i then (if l = m then 0 else 1) else 1) := by
  intro t
  refine Tot.succ ?_
  simp only [tune_compare.j1]
  refine Tot.ite (fun c => Tot.one (by rw [if_pos c])) (fun c => ?_)
  rw [if_neg c]
  refine Tot.ite (fun c => ?_) (fun c => Tot.one (by rw [if_neg c]))
  rw [if_pos c]
  exact Tot.ite (fun c => Tot.one (by rw [if_pos c])) (fun c => Tot.one (by rw [if_neg c]))
 refine Tot.succ ?_
 simp only [tune_compare.j0]
 unfold csign
 refine Tot.ite (fun c => (B _).mono ?_) (fun c => ?_)
 ·
  rintro r rfl
  rw [if_pos rfl, if_pos c]
 ·
  rw [if_neg c]
  refine Tot.ite (fun c2 => (B _).mono ?_) (fun c2 => (B _).mono ?_)
  ·
   rintro r rfl
   rw [if_pos c2, if_pos c2]
   by_cases c3 : l < m <;> simp [c3]
  ·
   rintro r rfl
   simp [c2]
theorem cmpU_eq (x y : Int) : cmp_Compare_uint64.f x y = some (if x < y then -1 else if x > y then 1 else 0) := by
 unfold cmp_Compare_uint64.f cmp_isNaN_uint64.f
 simp only [Option.bind_some, bne_self_eq_false]
 by_cases h : x < y <;> by_cases h2 : x > y <;> simp [h, h2]
theorem orI_tot (xs : List Int) (hl : xs.length ≤ 1000000) : ∀ (d i : Nat), i + d = xs.length → Tot (fun k => cmp_Or_int.l0 k 0 xs (xs.length : Int) (i : Int)) (fun r => r = firstOf (xs.drop i)) := by
 intro d
 induction d with
 | zero =>
  intro i h
  refine Tot.succ ?_
  simp only [cmp_Or_int.l0]
  refine Tot.neg (by omega) (Tot.one ?_)
  rw [List.drop_of_length_le (by omega)]
  rfl
 | succ d ih =>
  intro i h
  refine Tot.succ ?_
  simp only [cmp_Or_int.l0]
  refine Tot.pos (by omega) (Tot.pos (by omega) (Tot.pos (by omega) ?_))
  have e : wrap64 ((i : Int) + 1) = ((i + 1 : Nat) : Int) := by rw [wr] <;> omega
  rw [e, drop_cons_rd xs i (by omega)]
  refine Tot.ite (fun h0 => ?_) (fun h0 => Tot.one ?_)
  ·
   rw [firstOf, if_pos h0]
   exact ih (i + 1) (by omega)
  ·
   rw [firstOf, if_neg h0]
theorem cmpOrI_tot (xs : List Int) (hl : xs.length ≤ 1000000) : Tot (fun k => cmp_Or_int.f k xs) (fun r => r = firstOf xs) := orI_tot xs hl xs.length 0 (by omega)
theorem mul64_some (x y : Int) : ∃ h l, bits_Mul64.f x y = some (h, l) := ⟨_, _, rfl⟩
theorem compare_both (a b c d e f g h : Int) (h1 : okI a b c d) (h2 : okI e f g h) : ∃ s, Tot (fun k => tune_compare.f k a b c d e f g h) (fun r => r = s) ∧ Tot (fun k => gleeref1_ComparedOf.f k a b c d e f g h) (fun r => r = s) := by
 obtain ⟨k1, k2, k3, k4⟩ := h1
 obtain ⟨m1, m2, m3, m4⟩ := h2
 obtain ⟨x1, y1, E1⟩ := mul64_some (IntKind.u64.wrap ((qn a b c d : Nat) : Int)) (IntKind.u64.wrap ((qn (-e) (-f) (-g) (-h) : Nat) : Int))
 obtain ⟨x2, y2, E2⟩ := mul64_some (IntKind.u64.wrap ((qn e f g h : Nat) : Int)) (IntKind.u64.wrap ((qn (-a) (-b) (-c) (-d) : Nat) : Int))
 refine ⟨csign x1 y1 x2 y2, ?_, ?_⟩
 ·
  unfold tune_compare.f
  refine Tot.bind (quotient_tot a b c d k1 k2 k3 k4) (fun r hr => ?_)
  subst hr
  refine Tot.bind (quotient_tot e f g h m1 m2 m3 m4) (fun r hr => ?_)
  subst hr
  simp only [E1, E2, Option.bind_some]
  exact j0_tot _ _ _ _
 ·
  unfold gleeref1_ComparedOf.f gleeref1_byHeight.f
  refine Tot.bind (P := fun r => r = csign x1 y1 x2 y2) ?_ (fun r hr => Tot.one hr)
  refine Tot.bind (quotientOf_tot a b c d k1 k2 k3 k4) (fun r hr => ?_)
  subst hr
  refine Tot.bind (quotientOf_tot e f g h m1 m2 m3 m4) (fun r hr => ?_)
  subst hr
  simp only [E1, E2, Option.bind_some, cmpU_eq]
  refine Tot.bind (cmpOrI_tot _ (by simp)) (fun r hr => Tot.one ?_)
  rw [hr]
  unfold csign firstOf firstOf firstOf
  by_cases c1 : x1 < x2
  ·
   simp [c1]
  ·
   by_cases c2 : x1 = x2
   ·
    subst c2
    by_cases c3 : y1 < y2
    ·
     simp [c3]
    ·
     by_cases c4 : y1 = y2
     ·
      subst c4
      simp
     ·
      have : y1 > y2 := by omega
      simp [c3, c4, this]
   ·
    have : x1 > x2 := by omega
    simp [c1, c2, this]
theorem tuned_eq : gleelaw1_tuned.f = some true := by decide +kernel


theorem rdI_bound (xs : List SI) (i : Int) (P : SI → Prop) (h : ∀ s ∈ xs, P s) (h0 : 0 ≤ i) (h1 : i < xs.length) : P (rd_T27 xs i) := by
 unfold rd_T27
 rw [List.getD_eq_getElem?_getD, List.getElem?_eq_getElem (by omega)]
 exact h _ (List.getElem_mem _)
def near (x : Int) : Prop := -1099511627777 ≤ x ∧ x ≤ 1099511627777
theorem interval_tot (l : List Int) (at_ : Int) (hl : l.length ≤ 1125899906842624) (h0 : 0 ≤ at_) (h1 : at_ ≤ 800000) :
  Tot (fun k => gleemake_Stream_Interval.f k l at_) (fun r => at_ ≤ r.2.2.2.2 ∧ r.2.2.2.2 ≤ at_ + 20 ∧ near r.1 ∧ near r.2.1 ∧ near r.2.2.1 ∧ near r.2.2.2.1) := by
 have J : ∀ (p a b c d : Int), at_ ≤ p → p ≤ at_ + 10 → near a → near b → near c → near d →
   Tot (fun k => gleemake_Stream_Interval.j0 k l p a b c d) (fun r => at_ ≤ r.2.2.2.2 ∧ r.2.2.2.2 ≤ at_ + 20 ∧ near r.1 ∧ near r.2.1 ∧ near r.2.2.1 ∧ near r.2.2.2.1) := by
  intro p a b c d hp hp2 ha hb hc hd
  refine Tot.succ ?_
  simp only [gleemake_Stream_Interval.j0]
  refine Tot.bind0 (flip_som l p 15 hl (by omega) (by omega) (by omega)) (fun x hx => Tot.ite (fun _ => ?_) (fun _ => ?_))
  ·
   refine Tot.bind0 (odd_som l _ (-24) 24 hl (by omega) (by omega) (by omega) (by omega) (by omega) (by omega)) (fun r1 hr1 => ?_)
   refine Tot.bind0 (odd_som l _ (-10) 10 hl (by omega) (by omega) (by omega) (by omega) (by omega) (by omega)) (fun r2 hr2 => ?_)
   refine Tot.bind0 (odd_som l _ (-5) 5 hl (by omega) (by omega) (by omega) (by omega) (by omega) (by omega)) (fun r3 hr3 => ?_)
   refine Tot.bind0 (odd_som l _ (-3) 3 hl (by omega) (by omega) (by omega) (by omega) (by omega) (by omega)) (fun r4 hr4 => Tot.one ?_)
   exact ⟨by show at_ ≤ r4.2; omega, by show r4.2 ≤ at_ + 20; omega, hr1.2.2, hr2.2.2, hr3.2.2, hr4.2.2⟩
  ·
   exact Tot.one ⟨by show at_ ≤ x.2; omega, by show x.2 ≤ at_ + 20; omega, ha, hb, hc, hd⟩
 unfold gleemake_Stream_Interval.f
 simp only [Option.bind_some]
 refine Tot.bind0 (next_som l at_ 9 hl h0 (by omega) (by omega)) (fun x hx => ?_)
 have hx2 := hx.2.2 (by omega)
 refine Tot.pos hx2.1 (Tot.pos (by simpa using hx2.2) ?_)
 refine Tot.bind0 (flip_som l _ 4 hl (by omega) (by omega) (by omega)) (fun y hy => Tot.ite (fun _ => ?_) (fun _ => ?_))
 ·
  have nr : ∀ (r : Int × Int) (lo hi : Int), -100 ≤ lo → hi ≤ 100 → lo ≤ hi → lo ≤ r.1 → (r.1 ≤ hi ∨ hi < lo ∧ r.1 = lo) → near r.1 := fun r lo hi h1 h2 h3 h4 h5 => by unfold near; omega
  refine Tot.bind0 (range_som l _ (-24) 24 hl (by omega) (by omega) (by omega) (by omega) (by omega) (by omega)) (fun r1 hr1 => ?_)
  refine Tot.bind0 (range_som l _ (-10) 10 hl (by omega) (by omega) (by omega) (by omega) (by omega) (by omega)) (fun r2 hr2 => ?_)
  refine Tot.bind0 (range_som l _ (-5) 5 hl (by omega) (by omega) (by omega) (by omega) (by omega) (by omega)) (fun r3 hr3 => ?_)
  refine Tot.bind0 (range_som l _ (-3) 3 hl (by omega) (by omega) (by omega) (by omega) (by omega) (by omega)) (fun r4 hr4 => ?_)
  exact J _ _ _ _ _ (by omega) (by omega) (nr _ _ _ (by omega) (by omega) (by omega) hr1.2.2.1 hr1.2.2.2) (nr _ _ _ (by omega) (by omega) (by omega) hr2.2.2.1 hr2.2.2.2) (nr _ _ _ (by omega) (by omega) (by omega) hr3.2.2.1 hr3.2.2.2) (nr _ _ _ (by omega) (by omega) (by omega) hr4.2.2.1 hr4.2.2.2)
 ·
  have B := rdI_bound (i := x.1) (fun s => near s.f0 ∧ near s.f1 ∧ near s.f2 ∧ near s.f3) (xs := ([(⟨0, 0, 0, 0⟩ : SI), (⟨1, 0, 0, 0⟩ : SI), (⟨(-1), 1, 0, 0⟩ : SI), (⟨2, (-1), 0, 0⟩ : SI), (⟨(-2), 0, 1, 0⟩ : SI), (⟨(-3), 2, 0, 0⟩ : SI), (⟨1, (-2), 1, 0⟩ : SI), (⟨(-4), 4, (-1), 0⟩ : SI), (⟨(-2), 0, 0, 1⟩ : SI)] : List SI)) (by unfold near; simp) hx2.1 (by simpa using hx2.2)
  exact J _ _ _ _ _ (by omega) (by omega) B.1 B.2.1 B.2.2.1 B.2.2.2
abbrev SF : Type := S30
theorem rdF_bound (xs : List SF) (i : Int) (P : SF → Prop) (h : ∀ s ∈ xs, P s) (h0 : 0 ≤ i) (h1 : i < xs.length) : P (rd_T30 xs i) := by
 unfold rd_T30
 rw [List.getD_eq_getElem?_getD, List.getElem?_eq_getElem (by omega)]
 exact h _ (List.getElem_mem _)
def fits (x : Int) : Prop := x ≤ 9223372036854775807
theorem quot_tot (l : List Int) (at_ : Int) (hl : l.length ≤ 1125899906842624) (h0 : 0 ≤ at_) (h1 : at_ ≤ 700000) :
  Tot (fun k => gleemake_Stream_Quotient.f k l at_) (fun r => at_ ≤ r.2.2 ∧ r.2.2 ≤ at_ + 40 ∧ fits r.1 ∧ fits r.2.1) := by
 have J : ∀ (p a b : Int), at_ ≤ p → p ≤ at_ + 30 → fits a → fits b → Tot (fun k => gleemake_Stream_Quotient.j0 k l p a b) (fun r => at_ ≤ r.2.2 ∧ r.2.2 ≤ at_ + 40 ∧ fits r.1 ∧ fits r.2.1) := by
  intro p a b hp hp2 ha hb
  refine Tot.succ ?_
  simp only [gleemake_Stream_Quotient.j0]
  refine Tot.bind0 (flip_som l p 6 hl (by omega) (by omega) (by omega)) (fun x hx => Tot.ite (fun _ => ?_) (fun _ => ?_))
  ·
   simp only [Option.bind_some]
   refine Tot.bind0 (next_som l _ 7 hl (by omega) (by omega) (by omega)) (fun y hy => ?_)
   have hy2 := hy.2.2 (by omega)
   refine Tot.pos hy2.1 (Tot.pos (by simpa using hy2.2) (Tot.one ?_))
   have B := rdF_bound (i := y.1) (fun s => fits s.f0 ∧ fits s.f1) (xs := ([(⟨11, 10⟩ : SF), (⟨0, 1⟩ : SF), (⟨4, 2⟩ : SF), (⟨1, 0⟩ : SF), (⟨33554432, 1⟩ : SF), (⟨13, 13⟩ : SF), (⟨(-3), 2⟩ : SF)] : List SF)) (by unfold fits; simp) hy2.1 (by simpa using hy2.2)
   exact ⟨by show at_ ≤ y.2; omega, by show y.2 ≤ at_ + 40; omega, B⟩
  ·
   exact Tot.one ⟨by show at_ ≤ x.2; omega, by show x.2 ≤ at_ + 40; omega, ha, hb⟩
 unfold gleemake_Stream_Quotient.f
 simp only [Option.bind_some]
 refine Tot.bind0 (next_som l at_ 6 hl h0 (by omega) (by omega)) (fun x hx => ?_)
 have hx2 := hx.2.2 (by omega)
 have B := rdF_bound (i := x.1) (fun s => fits s.f0 ∧ fits s.f1) (xs := ([(⟨3, 2⟩ : SF), (⟨5, 4⟩ : SF), (⟨81, 80⟩ : SF), (⟨1, 1⟩ : SF), (⟨7, 4⟩ : SF), (⟨2, 3⟩ : SF)] : List SF)) (by unfold fits; simp) hx2.1 (by simpa using hx2.2)
 refine Tot.pos hx2.1 (Tot.pos (by simpa using hx2.2) ?_)
 refine Tot.bind0 (flip_som l _ 3 hl (by omega) (by omega) (by omega)) (fun y hy => Tot.ite (fun _ => ?_) (fun _ => ?_))
 ·
  refine Tot.bind (interval_tot l y.2 hl (by omega) (by omega)) (fun z hz => ?_)
  refine Tot.bind (ifault_tot _ _ _ _) (fun f hf => ?_)
  subst hf
  refine Tot.ite (fun h => ?_) (fun h => J _ _ _ (by omega) (by omega) B.1 B.2)
  have ok : okI z.1 z.2.1 z.2.2.1 z.2.2.2.1 := by
   unfold ifault at h
   by_cases ho : okI z.1 z.2.1 z.2.2.1 z.2.2.2.1
   ·
    exact ho
   ·
    simp [ho] at h
  obtain ⟨k1, k2, k3, k4⟩ := ok
  refine Tot.bind (quotientOf_tot _ _ _ _ k1 k2 k3 k4) (fun q hq => ?_)
  subst hq
  have q1 := qn_le _ _ _ _ k1.2 k2.2 k3.2 k4.2
  have q2 := qn_le (-z.1) (-z.2.1) (-z.2.2.1) (-z.2.2.2.1) (by omega) (by omega) (by omega) (by omega)
  exact J _ _ _ (by omega) (by omega) (by unfold fits; show (_ : Int) ≤ _; omega) (by unfold fits; show (_ : Int) ≤ _; omega)
 ·
  exact J _ _ _ (by omega) (by omega) B.1 B.2


theorem firstOf_two (a b c d e f g h : Int) : firstOf [ifault a b c d, ifault e f g h] = bothFault a b c d e f g h := by
 unfold ifault bothFault
 by_cases h1 : okI a b c d <;> by_cases h2 : okI e f g h <;> simp [h1, h2, firstOf]
theorem quotientC_tot (a b c d : Int) : Tot (fun k => tune_Quotient.f k a b c d) (fun r => r = if okI a b c d then (((qn a b c d : Nat) : Int), ((qn (-a) (-b) (-c) (-d) : Nat) : Int), 0) else (0, 0, 1)) := by
 unfold tune_Quotient.f
 simp only [check_eq, Option.bind_some]
 unfold ifault
 by_cases ho : okI a b c d
 ·
  simp only [if_pos ho, if_true]
  refine Tot.bind (quotient_tot a b c d ho.1 ho.2.1 ho.2.2.1 ho.2.2.2) (fun r hr => ?_)
  subst hr
  exact Tot.one rfl
 ·
  simp only [if_neg ho]
  exact Tot.one rfl
theorem withinC_no (a b c d : Int) (ho : ¬ okI a b c d) : Tot (fun k => tune_Within.f k a b c d) (fun r => r = (0, 0, 0, 0, 0, 1)) := by
 unfold tune_Within.f
 simp only [check_eq, Option.bind_some]
 unfold ifault
 simp only [if_neg ho]
 exact Tot.one rfl
theorem compareC_tot (a b c d e f g h s : Int) (hs : okI a b c d → okI e f g h → Tot (fun k => tune_compare.f k a b c d e f g h) (fun r => r = s)) :
  Tot (fun k => tune_Compare.f k a b c d e f g h) (fun r => r = if bothFault a b c d e f g h = 0 then (s, 0) else (0, bothFault a b c d e f g h)) := by
 unfold tune_Compare.f
 refine Tot.bind (checkAll_tot _ (by simp)) (fun r hr => ?_)
 rw [allFault_two] at hr
 subst hr
 refine Tot.ite (fun h0 => ?_) (fun h0 => Tot.one (by rw [if_neg h0]))
 rw [if_pos h0]
 have ok : okI a b c d ∧ okI e f g h := by
  unfold bothFault at h0
  by_cases h1 : okI a b c d
  ·
   by_cases h2 : okI e f g h
   ·
    exact ⟨h1, h2⟩
   ·
    simp [h1, h2] at h0
  ·
   simp [h1] at h0
 exact Tot.bind (hs ok.1 ok.2) (fun r hr => Tot.one (by rw [hr]))
theorem law_j1 (a b c d e f g h : Int) : Tot (fun k => gleelaw1_IntervalsCounted.j1 k (bothFault a b c d e f g h) a b c d e f g h) (fun r => r = true) := by
 refine Tot.succ ?_
 simp only [gleelaw1_IntervalsCounted.j1]
 by_cases ok : okI a b c d ∧ okI e f g h
 ·
  obtain ⟨s, C1, C2⟩ := compare_both a b c d e f g h ok.1 ok.2
  have h0 : bothFault a b c d e f g h = 0 := by unfold bothFault; simp [ok]
  refine Tot.bind (sum_tot a b c d e f g h) (fun r1 hr1 => ?_)
  refine Tot.bind (difference_tot a b c d e f g h) (fun r2 hr2 => ?_)
  refine Tot.bind (compareC_tot a b c d e f g h s (fun _ _ => C1)) (fun r3 hr3 => ?_)
  rw [if_pos h0] at hr1 hr2 hr3
  subst hr1 hr2 hr3
  rw [h0]
  refine Tot.pos rfl ?_
  refine Tot.bind (sumOf_tot a b c d e f g h ok.1 ok.2) (fun r4 hr4 => ?_)
  refine Tot.bind (differenceOf_tot a b c d e f g h ok.1 ok.2) (fun r5 hr5 => ?_)
  subst hr4 hr5
  refine Tot.pos rfl (Tot.pos (by simp) (Tot.pos rfl (Tot.pos (by simp) (Tot.pos rfl ?_))))
  refine Tot.bind C2 (fun r6 hr6 => ?_)
  subst hr6
  refine Tot.pos rfl ?_
  rw [tuned_eq]
  exact Tot.one rfl
 ·
  have h0 : bothFault a b c d e f g h = 1 := by
   unfold bothFault
   by_cases h1 : okI a b c d
   ·
    by_cases h2 : okI e f g h
    ·
     exact absurd ⟨h1, h2⟩ ok
    ·
     simp [h1, h2]
   ·
    simp [h1]
  have hn : ¬ bothFault a b c d e f g h = 0 := by omega
  refine Tot.bind (sum_tot a b c d e f g h) (fun r1 hr1 => ?_)
  refine Tot.bind (difference_tot a b c d e f g h) (fun r2 hr2 => ?_)
  refine Tot.bind (compareC_tot a b c d e f g h 0 (fun h1 h2 => absurd ⟨h1, h2⟩ ok)) (fun r3 hr3 => ?_)
  rw [if_neg hn] at hr1 hr2 hr3
  subst hr1 hr2 hr3
  refine Tot.neg hn (Tot.pos rfl (Tot.pos rfl (Tot.pos rfl (Tot.pos rfl (Tot.pos rfl (Tot.pos rfl ?_))))))
  rw [tuned_eq]
  exact Tot.one rfl
theorem law_j0 (t : Bool) (ht : t = false) (a b c d e f g h : Int) : Tot (fun k => gleelaw1_IntervalsCounted.j0 k (ifault a b c d) (bothFault a b c d e f g h) t a b c d e f g h) (fun r => r = true) := by
 subst ht
 refine Tot.succ ?_
 simp only [gleelaw1_IntervalsCounted.j0]
 refine Tot.neg (by decide) ?_
 refine Tot.bind (quotientC_tot a b c d) (fun r1 hr1 => ?_)
 by_cases ok : okI a b c d
 ·
  obtain ⟨n, W, V, _⟩ := within_both a b c d ok
  rw [if_pos ok] at hr1
  subst hr1
  refine Tot.bind W (fun r2 hr2 => ?_)
  rw [within_same a b c d n ok.1] at hr2
  subst hr2
  refine Tot.pos (by unfold ifault; rw [if_pos ok]) ?_
  refine Tot.bind V (fun r3 hr3 => ?_)
  subst hr3
  refine Tot.pos rfl ?_
  refine Tot.bind (quotientOf_tot a b c d ok.1 ok.2.1 ok.2.2.1 ok.2.2.2) (fun r4 hr4 => ?_)
  subst hr4
  refine Tot.neg (by simp) (Tot.pos rfl (Tot.neg (by simp) (Tot.pos rfl ?_)))
  exact law_j1 a b c d e f g h
 ·
  rw [if_neg ok] at hr1
  subst hr1
  have h1 : ifault a b c d = 1 := by unfold ifault; rw [if_neg ok]
  refine Tot.bind (withinC_no a b c d ok) (fun r2 hr2 => ?_)
  subst hr2
  rw [h1]
  refine Tot.neg (by decide) (Tot.pos rfl (Tot.pos rfl (Tot.neg (by decide) (Tot.neg (by decide) (Tot.pos rfl ?_)))))
  exact law_j1 a b c d e f g h
theorem IntervalsCounted : gleelaw1_IntervalsCounted.Pure := by
 intro l _ hl _
 have hl2 : l.length ≤ 1125899906842624 := by omega
 refine Tot.ex ?_
 unfold gleelaw1_IntervalsCounted.f
 refine Tot.bind (interval_tot l 0 hl2 (by omega) (by omega)) (fun a ha => ?_)
 refine Tot.bind (interval_tot l a.2.2.2.2 hl2 (by omega) (by omega)) (fun b hb => ?_)
 refine Tot.bind (quot_tot l b.2.2.2.2 hl2 (by omega) (by omega)) (fun q hq => ?_)
 refine Tot.bind (ifault_tot _ _ _ _) (fun f1 h1 => ?_)
 refine Tot.bind (ifault_tot _ _ _ _) (fun f2 h2 => ?_)
 refine Tot.bind (ifault_tot _ _ _ _) (fun f3 h3 => ?_)
 refine Tot.bind (cmpOr_tot _ (by simp)) (fun f4 h4 => ?_)
 subst h1 h2 h3
 rw [firstOf_two] at h4
 subst h4
 simp only [check_eq, Option.bind_some]
 refine Tot.pos trivial ?_
 obtain ⟨r, O1, O2⟩ := of_both q.1 q.2.1 hq.2.2.1 hq.2.2.2
 refine Tot.bind O1 (fun r1 hr1 => ?_)
 refine Tot.bind O2 (fun r2 hr2 => ?_)
 subst hr1 hr2
 refine Tot.pos rfl ?_
 exact law_j0 _ (by simp) _ _ _ _ _ _ _ _

end Go.Proofs.YtdagocpgefjmdaaDoor.Pure
