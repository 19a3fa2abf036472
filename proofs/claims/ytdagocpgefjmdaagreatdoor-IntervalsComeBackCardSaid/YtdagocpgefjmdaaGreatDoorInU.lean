/-
  The table of rows: what an element of a slice is, as data. No condition.
-/
import Derived.Test.YtdagocpgefjmdaaGreatDoorInM1
import Derived.KernelRfl
import Derived.Lib.LaidTab
import Derived.Lib.ItoaNum
import Derived.Shelf.Strings.TrimSpace
import Derived.Test.YtdagocpgefjmdaaGreatDoorProg
set_option linter.unusedVariables false
set_option linter.unusedSectionVars false
set_option linter.unusedSimpArgs false
open Go Go.M Go.Proofs
set_option linter.unusedVariables false
namespace T
def laidBound : Nat := 2
def laidHolds (w : World) : Prop := Lib.TabIs Tryz.prog w "internal/strconv.uint64pow10" .u64 Lib.pow10Tab
theorem tabDep {name : String} {g : Nat} {k : IntKind} {zs : List Int} (e : Tryz.prog.globalNamed name = some g) {w w' : World} (h : w'.heap[g]? = w.heap[g]?) (hh : Lib.TabIs Tryz.prog w name k zs) : Lib.TabIs Tryz.prog w' name k zs := by
  unfold Lib.TabIs World.var? at *
  rw [e] at hh ⊢
  simp only [Option.bind_some] at hh ⊢
  rw [h]
  exact hh
theorem laidDep (w w' : World) (h : ∀ r, r < laidBound → w'.heap[r]? = w.heap[r]?) (hh : laidHolds w) : laidHolds w' :=
  tabDep (g := 1) (by kernel_rfl) (h 1 (by decide)) hh
abbrev E3 := Int
structure E83 where
  f0 : ByteArray
  f1 : Int
  f2 : Int
  f3 : Int
structure E89 where
  f0 : ByteArray
  f1 : Int
  f2 : Int
  f3 : Int
  f4 : Int
structure E49 where
  f0 : ByteArray
  f1 : ByteArray
abbrev E9 := ByteArray
abbrev E31 := Int
abbrev E22 := List E3
structure E64 where
  f0 : Int
  f1 : Int
  f2 : Int
  f3 : Int
abbrev E4 := Bool
structure E140 where
  f0 : ByteArray
  f1 : ByteArray
  f2 : Int
  f3 : Int
  f4 : List E9
abbrev E5 := Int
abbrev E182 := List E4
def El : Nat → Type
  | 3 => E3
  | 83 => E83
  | 89 => E89
  | 49 => E49
  | 9 => E9
  | 31 => E31
  | 22 => E22
  | 64 => E64
  | 4 => E4
  | 140 => E140
  | 5 => E5
  | 182 => E182
  | _ => Empty
def enc3 (x : E3) : List (D El) := [.int .i64 x]
def dec3 : List (D El) → Option E3
  | [d0] => (rdInt .i64 d0).bind fun x0 => some x0
  | _ => none
def enc83 (x : E83) : List (D El) := [.str (x.f0), .int .i64 (x.f1), .int .i64 (x.f2), .int .i64 (x.f3)]
def dec83 : List (D El) → Option E83
  | [d0, d1, d2, d3] => (rdStr d0).bind fun x0 => (rdInt .i64 d1).bind fun x1 => (rdInt .i64 d2).bind fun x2 => (rdInt .i64 d3).bind fun x3 => some ⟨x0, x1, x2, x3⟩
  | _ => none
def enc89 (x : E89) : List (D El) := [.str (x.f0), .int .i64 (x.f1), .int .i64 (x.f2), .int .i64 (x.f3), .int .i64 (x.f4)]
def dec89 : List (D El) → Option E89
  | [d0, d1, d2, d3, d4] => (rdStr d0).bind fun x0 => (rdInt .i64 d1).bind fun x1 => (rdInt .i64 d2).bind fun x2 => (rdInt .i64 d3).bind fun x3 => (rdInt .i64 d4).bind fun x4 => some ⟨x0, x1, x2, x3, x4⟩
  | _ => none
def enc49 (x : E49) : List (D El) := [.str (x.f0), .str (x.f1)]
def dec49 : List (D El) → Option E49
  | [d0, d1] => (rdStr d0).bind fun x0 => (rdStr d1).bind fun x1 => some ⟨x0, x1⟩
  | _ => none
def enc9 (x : E9) : List (D El) := [.str x]
def dec9 : List (D El) → Option E9
  | [d0] => (rdStr d0).bind fun x0 => some x0
  | _ => none
def enc31 (x : E31) : List (D El) := [.int .i64 x]
def dec31 : List (D El) → Option E31
  | [d0] => (rdInt .i64 d0).bind fun x0 => some x0
  | _ => none
def enc22 (x : E22) : List (D El) := [.frz 3 x]
def dec22 : List (D El) → Option E22
  | [d0] => (rdSl 3 d0).bind fun x0 => some x0
  | _ => none
def enc64 (x : E64) : List (D El) := [.int .i64 (x.f0), .int .i64 (x.f1), .int .i64 (x.f2), .int .i64 (x.f3)]
def dec64 : List (D El) → Option E64
  | [d0, d1, d2, d3] => (rdInt .i64 d0).bind fun x0 => (rdInt .i64 d1).bind fun x1 => (rdInt .i64 d2).bind fun x2 => (rdInt .i64 d3).bind fun x3 => some ⟨x0, x1, x2, x3⟩
  | _ => none
def enc4 (x : E4) : List (D El) := [.bool x]
def dec4 : List (D El) → Option E4
  | [d0] => (rdBool d0).bind fun x0 => some x0
  | _ => none
def enc140 (x : E140) : List (D El) := [.str (x.f0), .str (x.f1), .int .i64 (x.f2), .int .i64 (x.f3), .frz 9 (x.f4)]
def dec140 : List (D El) → Option E140
  | [d0, d1, d2, d3, d4] => (rdStr d0).bind fun x0 => (rdStr d1).bind fun x1 => (rdInt .i64 d2).bind fun x2 => (rdInt .i64 d3).bind fun x3 => (rdSl 9 d4).bind fun x4 => some ⟨x0, x1, x2, x3, x4⟩
  | _ => none
def enc5 (x : E5) : List (D El) := [.int .u8 x]
def dec5 : List (D El) → Option E5
  | [d0] => (rdInt .u8 d0).bind fun x0 => some x0
  | _ => none
def enc182 (x : E182) : List (D El) := [.frz 4 x]
def dec182 : List (D El) → Option E182
  | [d0] => (rdSl 4 d0).bind fun x0 => some x0
  | _ => none
def encE (t : Nat) : El t → List (D El) := match t with
  | 3 => fun x => enc3 x
  | 83 => fun x => enc83 x
  | 89 => fun x => enc89 x
  | 49 => fun x => enc49 x
  | 9 => fun x => enc9 x
  | 31 => fun x => enc31 x
  | 22 => fun x => enc22 x
  | 64 => fun x => enc64 x
  | 4 => fun x => enc4 x
  | 140 => fun x => enc140 x
  | 5 => fun x => enc5 x
  | 182 => fun x => enc182 x
  | _ => fun _ => []
def wid : Nat → Nat
  | 3 => 1
  | 83 => 4
  | 89 => 5
  | 49 => 2
  | 9 => 1
  | 31 => 1
  | 22 => 1
  | 64 => 4
  | 4 => 1
  | 140 => 5
  | 5 => 1
  | 182 => 1
  | _ => 0
def decE (t : Nat) : List (D El) → Option (El t) := match t with
  | 3 => fun ds => dec3 ds
  | 83 => fun ds => dec83 ds
  | 89 => fun ds => dec89 ds
  | 49 => fun ds => dec49 ds
  | 9 => fun ds => dec9 ds
  | 31 => fun ds => dec31 ds
  | 22 => fun ds => dec22 ds
  | 64 => fun ds => dec64 ds
  | 4 => fun ds => dec4 ds
  | 140 => fun ds => dec140 ds
  | 5 => fun ds => dec5 ds
  | 182 => fun ds => dec182 ds
  | _ => fun _ => none
theorem pure3 (x : E3) : ∀ d ∈ enc3 x, d.cell = true ∧ d.pure = true := by
  intro d hd
  simp only [enc3, List.mem_cons, List.not_mem_nil, or_false] at hd
  rcases hd with rfl <;> exact ⟨rfl, rfl⟩
theorem pure83 (x : E83) : ∀ d ∈ enc83 x, d.cell = true ∧ d.pure = true := by
  intro d hd
  simp only [enc83, List.mem_cons, List.not_mem_nil, or_false] at hd
  rcases hd with rfl | rfl | rfl | rfl <;> exact ⟨rfl, rfl⟩
theorem pure89 (x : E89) : ∀ d ∈ enc89 x, d.cell = true ∧ d.pure = true := by
  intro d hd
  simp only [enc89, List.mem_cons, List.not_mem_nil, or_false] at hd
  rcases hd with rfl | rfl | rfl | rfl | rfl <;> exact ⟨rfl, rfl⟩
theorem pure49 (x : E49) : ∀ d ∈ enc49 x, d.cell = true ∧ d.pure = true := by
  intro d hd
  simp only [enc49, List.mem_cons, List.not_mem_nil, or_false] at hd
  rcases hd with rfl | rfl <;> exact ⟨rfl, rfl⟩
theorem pure9 (x : E9) : ∀ d ∈ enc9 x, d.cell = true ∧ d.pure = true := by
  intro d hd
  simp only [enc9, List.mem_cons, List.not_mem_nil, or_false] at hd
  rcases hd with rfl <;> exact ⟨rfl, rfl⟩
theorem pure31 (x : E31) : ∀ d ∈ enc31 x, d.cell = true ∧ d.pure = true := by
  intro d hd
  simp only [enc31, List.mem_cons, List.not_mem_nil, or_false] at hd
  rcases hd with rfl <;> exact ⟨rfl, rfl⟩
theorem pure22 (x : E22) : ∀ d ∈ enc22 x, d.cell = true ∧ d.pure = true := by
  intro d hd
  simp only [enc22, List.mem_cons, List.not_mem_nil, or_false] at hd
  rcases hd with rfl <;> exact ⟨rfl, rfl⟩
theorem pure64 (x : E64) : ∀ d ∈ enc64 x, d.cell = true ∧ d.pure = true := by
  intro d hd
  simp only [enc64, List.mem_cons, List.not_mem_nil, or_false] at hd
  rcases hd with rfl | rfl | rfl | rfl <;> exact ⟨rfl, rfl⟩
theorem pure4 (x : E4) : ∀ d ∈ enc4 x, d.cell = true ∧ d.pure = true := by
  intro d hd
  simp only [enc4, List.mem_cons, List.not_mem_nil, or_false] at hd
  rcases hd with rfl <;> exact ⟨rfl, rfl⟩
theorem pure140 (x : E140) : ∀ d ∈ enc140 x, d.cell = true ∧ d.pure = true := by
  intro d hd
  simp only [enc140, List.mem_cons, List.not_mem_nil, or_false] at hd
  rcases hd with rfl | rfl | rfl | rfl | rfl <;> exact ⟨rfl, rfl⟩
theorem pure5 (x : E5) : ∀ d ∈ enc5 x, d.cell = true ∧ d.pure = true := by
  intro d hd
  simp only [enc5, List.mem_cons, List.not_mem_nil, or_false] at hd
  rcases hd with rfl <;> exact ⟨rfl, rfl⟩
theorem pure182 (x : E182) : ∀ d ∈ enc182 x, d.cell = true ∧ d.pure = true := by
  intro d hd
  simp only [enc182, List.mem_cons, List.not_mem_nil, or_false] at hd
  rcases hd with rfl <;> exact ⟨rfl, rfl⟩
theorem pureE : ∀ t (x : El t), ∀ d ∈ encE t x, d.cell = true ∧ d.pure = true := by
  intro t x d hd
  unfold encE at hd
  split at hd
  · exact pure3 _ d hd
  · exact pure83 _ d hd
  · exact pure89 _ d hd
  · exact pure49 _ d hd
  · exact pure9 _ d hd
  · exact pure31 _ d hd
  · exact pure22 _ d hd
  · exact pure64 _ d hd
  · exact pure4 _ d hd
  · exact pure140 _ d hd
  · exact pure5 _ d hd
  · exact pure182 _ d hd
  · cases hd
theorem lenE : ∀ t (x : El t), (encE t x).length = wid t := by
  intro t x
  unfold encE wid
  split <;> first | rfl | (split <;> first | rfl | simp_all)
instance : Uni El where
  enc := encE
  width := wid
  enc_len := lenE
  enc_cell := fun t x d hd => (pureE t x d hd).1
  enc_pure := fun t x d hd => (pureE t x d hd).2
  dec := decE
  bound := laidBound
  holds := laidHolds
  dep := laidDep
theorem told3 {ds : List (D El)} {x : E3} (h : dec3 ds = some x) : ToldL ds (enc3 x) := by
  unfold dec3 at h
  split at h
  · obtain ⟨x0, h0, h⟩ := bind_some'' h; cases h; exact ⟨rdInt_told h0, trivial⟩
  · cases h
theorem told83 {ds : List (D El)} {x : E83} (h : dec83 ds = some x) : ToldL ds (enc83 x) := by
  unfold dec83 at h
  split at h
  · obtain ⟨x0, h0, h⟩ := bind_some'' h; obtain ⟨x1, h1, h⟩ := bind_some'' h; obtain ⟨x2, h2, h⟩ := bind_some'' h; obtain ⟨x3, h3, h⟩ := bind_some'' h; cases h; exact ⟨rdStr_told h0, ⟨rdInt_told h1, ⟨rdInt_told h2, ⟨rdInt_told h3, trivial⟩⟩⟩⟩
  · cases h
theorem told89 {ds : List (D El)} {x : E89} (h : dec89 ds = some x) : ToldL ds (enc89 x) := by
  unfold dec89 at h
  split at h
  · obtain ⟨x0, h0, h⟩ := bind_some'' h; obtain ⟨x1, h1, h⟩ := bind_some'' h; obtain ⟨x2, h2, h⟩ := bind_some'' h; obtain ⟨x3, h3, h⟩ := bind_some'' h; obtain ⟨x4, h4, h⟩ := bind_some'' h; cases h; exact ⟨rdStr_told h0, ⟨rdInt_told h1, ⟨rdInt_told h2, ⟨rdInt_told h3, ⟨rdInt_told h4, trivial⟩⟩⟩⟩⟩
  · cases h
theorem told49 {ds : List (D El)} {x : E49} (h : dec49 ds = some x) : ToldL ds (enc49 x) := by
  unfold dec49 at h
  split at h
  · obtain ⟨x0, h0, h⟩ := bind_some'' h; obtain ⟨x1, h1, h⟩ := bind_some'' h; cases h; exact ⟨rdStr_told h0, ⟨rdStr_told h1, trivial⟩⟩
  · cases h
theorem told9 {ds : List (D El)} {x : E9} (h : dec9 ds = some x) : ToldL ds (enc9 x) := by
  unfold dec9 at h
  split at h
  · obtain ⟨x0, h0, h⟩ := bind_some'' h; cases h; exact ⟨rdStr_told h0, trivial⟩
  · cases h
theorem told31 {ds : List (D El)} {x : E31} (h : dec31 ds = some x) : ToldL ds (enc31 x) := by
  unfold dec31 at h
  split at h
  · obtain ⟨x0, h0, h⟩ := bind_some'' h; cases h; exact ⟨rdInt_told h0, trivial⟩
  · cases h
theorem told22 {ds : List (D El)} {x : E22} (h : dec22 ds = some x) : ToldL ds (enc22 x) := by
  unfold dec22 at h
  split at h
  · obtain ⟨x0, h0, h⟩ := bind_some'' h; cases h; exact ⟨rdSl_told h0, trivial⟩
  · cases h
theorem told64 {ds : List (D El)} {x : E64} (h : dec64 ds = some x) : ToldL ds (enc64 x) := by
  unfold dec64 at h
  split at h
  · obtain ⟨x0, h0, h⟩ := bind_some'' h; obtain ⟨x1, h1, h⟩ := bind_some'' h; obtain ⟨x2, h2, h⟩ := bind_some'' h; obtain ⟨x3, h3, h⟩ := bind_some'' h; cases h; exact ⟨rdInt_told h0, ⟨rdInt_told h1, ⟨rdInt_told h2, ⟨rdInt_told h3, trivial⟩⟩⟩⟩
  · cases h
theorem told4 {ds : List (D El)} {x : E4} (h : dec4 ds = some x) : ToldL ds (enc4 x) := by
  unfold dec4 at h
  split at h
  · obtain ⟨x0, h0, h⟩ := bind_some'' h; cases h; exact ⟨rdBool_told h0, trivial⟩
  · cases h
theorem told140 {ds : List (D El)} {x : E140} (h : dec140 ds = some x) : ToldL ds (enc140 x) := by
  unfold dec140 at h
  split at h
  · obtain ⟨x0, h0, h⟩ := bind_some'' h; obtain ⟨x1, h1, h⟩ := bind_some'' h; obtain ⟨x2, h2, h⟩ := bind_some'' h; obtain ⟨x3, h3, h⟩ := bind_some'' h; obtain ⟨x4, h4, h⟩ := bind_some'' h; cases h; exact ⟨rdStr_told h0, ⟨rdStr_told h1, ⟨rdInt_told h2, ⟨rdInt_told h3, ⟨rdSl_told h4, trivial⟩⟩⟩⟩⟩
  · cases h
theorem told5 {ds : List (D El)} {x : E5} (h : dec5 ds = some x) : ToldL ds (enc5 x) := by
  unfold dec5 at h
  split at h
  · obtain ⟨x0, h0, h⟩ := bind_some'' h; cases h; exact ⟨rdInt_told h0, trivial⟩
  · cases h
theorem told182 {ds : List (D El)} {x : E182} (h : dec182 ds = some x) : ToldL ds (enc182 x) := by
  unfold dec182 at h
  split at h
  · obtain ⟨x0, h0, h⟩ := bind_some'' h; cases h; exact ⟨rdSl_told h0, trivial⟩
  · cases h
theorem toldE : ∀ t ds (x : El t), decE t ds = some x → ToldL ds (encE t x) := by
  intro t ds x h
  revert h
  unfold decE
  split
  · exact fun h => told3 h
  · exact fun h => told83 h
  · exact fun h => told89 h
  · exact fun h => told49 h
  · exact fun h => told9 h
  · exact fun h => told31 h
  · exact fun h => told22 h
  · exact fun h => told64 h
  · exact fun h => told4 h
  · exact fun h => told140 h
  · exact fun h => told5 h
  · exact fun h => told182 h
  · intro h
    have e : El t = Empty := by
      clear h x
      unfold El
      split <;> first | rfl | (exfalso; simp_all; done)
    exact (cast e x).elim
instance : UniOK El where
  dec_len := fun t ds x h => by
    have h1 := (toldE t ds x h).len
    rw [h1]
    exact Uni.enc_len t x
  dec_rel := fun t ds x h j d d' h1 h2 w S β v hv => (toldE t ds x h).get j d d' h1 h2 w S β v hv
def code (f : Func) : Code := f.body.getD .skip
end T
