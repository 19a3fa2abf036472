/-
  The table of rows: what an element of a slice is, as data. No condition.
-/
import Derived.Test.YtdagocpgefjmdaaDoorWaM1
import Derived.KernelRfl
import Derived.Lib.LaidTab
import Derived.Lib.ItoaNum
import Derived.Shelf.Strings.TrimSpace
import Derived.Test.YtdagocpgefjmdaaDoorProg
set_option linter.unusedVariables false
set_option linter.unusedSectionVars false
set_option linter.unusedSimpArgs false
open Go Go.M Go.Proofs
set_option linter.unusedVariables false
namespace T
def laidBound : Nat := 4
def laidHolds (w : World) : Prop := Lib.TabIs Tryd.prog w "internal/strconv.uint64pow10" .u64 Lib.pow10Tab
theorem tabDep {name : String} {g : Nat} {k : IntKind} {zs : List Int} (e : Tryd.prog.globalNamed name = some g) {w w' : World} (h : w'.heap[g]? = w.heap[g]?) (hh : Lib.TabIs Tryd.prog w name k zs) : Lib.TabIs Tryd.prog w' name k zs := by
  unfold Lib.TabIs World.var? at *
  rw [e] at hh ⊢
  simp only [Option.bind_some] at hh ⊢
  rw [h]
  exact hh
theorem laidDep (w w' : World) (h : ∀ r, r < laidBound → w'.heap[r]? = w.heap[r]?) (hh : laidHolds w) : laidHolds w' :=
  tabDep (g := 3) (by kernel_rfl) (h 3 (by decide)) hh
abbrev E3 := Int
structure E58 where
  f0 : ByteArray
  f1 : ByteArray
  f2 : Int
abbrev E9 := ByteArray
structure E69 where
  f0 : ByteArray
  f1 : Int
abbrev E53 := List E9
structure E27 where
  f0 : Int
  f1 : Int
  f2 : Int
  f3 : Int
structure E114 where
  f0 : ByteArray
  f1 : Int
  f2 : Int
  f3 : Int
  f4 : Int
structure E30 where
  f0 : Int
  f1 : Int
abbrev E32 := Int
structure E140 where
  f0 : ByteArray
  f1 : ByteArray
structure E144 where
  f0 : Int
  f1 : Int
abbrev E89 := List E27
abbrev E4 := Bool
structure E138 where
  f0 : ByteArray
  f1 : ByteArray
  f2 : Int
  f3 : Int
  f4 : List E9
abbrev E5 := Int
structure E271 where
  f0 : Int
  f1 : Int
  f2 : Int
structure E274 where
  f0 : Int
  f1 : Int
  f2 : Int
structure E157 where
  f0 : Int
  f1 : List E27
def El : Nat → Type
  | 3 => E3
  | 58 => E58
  | 9 => E9
  | 69 => E69
  | 53 => E53
  | 27 => E27
  | 114 => E114
  | 30 => E30
  | 32 => E32
  | 140 => E140
  | 144 => E144
  | 89 => E89
  | 4 => E4
  | 138 => E138
  | 5 => E5
  | 271 => E271
  | 274 => E274
  | 157 => E157
  | _ => Empty
def enc3 (x : E3) : List (D El) := [.int .i64 x]
def dec3 : List (D El) → Option E3
  | [d0] => (rdInt .i64 d0).bind fun x0 => some x0
  | _ => none
def enc58 (x : E58) : List (D El) := [.str (x.f0), .str (x.f1), .int .i64 (x.f2)]
def dec58 : List (D El) → Option E58
  | [d0, d1, d2] => (rdStr d0).bind fun x0 => (rdStr d1).bind fun x1 => (rdInt .i64 d2).bind fun x2 => some ⟨x0, x1, x2⟩
  | _ => none
def enc9 (x : E9) : List (D El) := [.str x]
def dec9 : List (D El) → Option E9
  | [d0] => (rdStr d0).bind fun x0 => some x0
  | _ => none
def enc69 (x : E69) : List (D El) := [.str (x.f0), .int .i64 (x.f1)]
def dec69 : List (D El) → Option E69
  | [d0, d1] => (rdStr d0).bind fun x0 => (rdInt .i64 d1).bind fun x1 => some ⟨x0, x1⟩
  | _ => none
def enc53 (x : E53) : List (D El) := [.frz 9 x]
def dec53 : List (D El) → Option E53
  | [d0] => (rdSl 9 d0).bind fun x0 => some x0
  | _ => none
def enc27 (x : E27) : List (D El) := [.int .i64 (x.f0), .int .i64 (x.f1), .int .i64 (x.f2), .int .i64 (x.f3)]
def dec27 : List (D El) → Option E27
  | [d0, d1, d2, d3] => (rdInt .i64 d0).bind fun x0 => (rdInt .i64 d1).bind fun x1 => (rdInt .i64 d2).bind fun x2 => (rdInt .i64 d3).bind fun x3 => some ⟨x0, x1, x2, x3⟩
  | _ => none
def enc114 (x : E114) : List (D El) := [.str (x.f0), .int .i64 (x.f1), .int .i64 (x.f2), .int .i64 (x.f3), .int .i64 (x.f4)]
def dec114 : List (D El) → Option E114
  | [d0, d1, d2, d3, d4] => (rdStr d0).bind fun x0 => (rdInt .i64 d1).bind fun x1 => (rdInt .i64 d2).bind fun x2 => (rdInt .i64 d3).bind fun x3 => (rdInt .i64 d4).bind fun x4 => some ⟨x0, x1, x2, x3, x4⟩
  | _ => none
def enc30 (x : E30) : List (D El) := [.int .i64 (x.f0), .int .i64 (x.f1)]
def dec30 : List (D El) → Option E30
  | [d0, d1] => (rdInt .i64 d0).bind fun x0 => (rdInt .i64 d1).bind fun x1 => some ⟨x0, x1⟩
  | _ => none
def enc32 (x : E32) : List (D El) := [.int .i64 x]
def dec32 : List (D El) → Option E32
  | [d0] => (rdInt .i64 d0).bind fun x0 => some x0
  | _ => none
def enc140 (x : E140) : List (D El) := [.str (x.f0), .str (x.f1)]
def dec140 : List (D El) → Option E140
  | [d0, d1] => (rdStr d0).bind fun x0 => (rdStr d1).bind fun x1 => some ⟨x0, x1⟩
  | _ => none
def enc144 (x : E144) : List (D El) := [.int .i64 (x.f0), .int .i64 (x.f1)]
def dec144 : List (D El) → Option E144
  | [d0, d1] => (rdInt .i64 d0).bind fun x0 => (rdInt .i64 d1).bind fun x1 => some ⟨x0, x1⟩
  | _ => none
def enc89 (x : E89) : List (D El) := [.frz 27 x]
def dec89 : List (D El) → Option E89
  | [d0] => (rdSl 27 d0).bind fun x0 => some x0
  | _ => none
def enc4 (x : E4) : List (D El) := [.bool x]
def dec4 : List (D El) → Option E4
  | [d0] => (rdBool d0).bind fun x0 => some x0
  | _ => none
def enc138 (x : E138) : List (D El) := [.str (x.f0), .str (x.f1), .int .i64 (x.f2), .int .i64 (x.f3), .frz 9 (x.f4)]
def dec138 : List (D El) → Option E138
  | [d0, d1, d2, d3, d4] => (rdStr d0).bind fun x0 => (rdStr d1).bind fun x1 => (rdInt .i64 d2).bind fun x2 => (rdInt .i64 d3).bind fun x3 => (rdSl 9 d4).bind fun x4 => some ⟨x0, x1, x2, x3, x4⟩
  | _ => none
def enc5 (x : E5) : List (D El) := [.int .u8 x]
def dec5 : List (D El) → Option E5
  | [d0] => (rdInt .u8 d0).bind fun x0 => some x0
  | _ => none
def enc271 (x : E271) : List (D El) := [.int .u16 (x.f0), .int .u16 (x.f1), .int .u16 (x.f2)]
def dec271 : List (D El) → Option E271
  | [d0, d1, d2] => (rdInt .u16 d0).bind fun x0 => (rdInt .u16 d1).bind fun x1 => (rdInt .u16 d2).bind fun x2 => some ⟨x0, x1, x2⟩
  | _ => none
def enc274 (x : E274) : List (D El) := [.int .u32 (x.f0), .int .u32 (x.f1), .int .u32 (x.f2)]
def dec274 : List (D El) → Option E274
  | [d0, d1, d2] => (rdInt .u32 d0).bind fun x0 => (rdInt .u32 d1).bind fun x1 => (rdInt .u32 d2).bind fun x2 => some ⟨x0, x1, x2⟩
  | _ => none
def enc157 (x : E157) : List (D El) := [.int .i64 (x.f0), .frz 27 (x.f1)]
def dec157 : List (D El) → Option E157
  | [d0, d1] => (rdInt .i64 d0).bind fun x0 => (rdSl 27 d1).bind fun x1 => some ⟨x0, x1⟩
  | _ => none
def encE (t : Nat) : El t → List (D El) := match t with
  | 3 => fun x => enc3 x
  | 58 => fun x => enc58 x
  | 9 => fun x => enc9 x
  | 69 => fun x => enc69 x
  | 53 => fun x => enc53 x
  | 27 => fun x => enc27 x
  | 114 => fun x => enc114 x
  | 30 => fun x => enc30 x
  | 32 => fun x => enc32 x
  | 140 => fun x => enc140 x
  | 144 => fun x => enc144 x
  | 89 => fun x => enc89 x
  | 4 => fun x => enc4 x
  | 138 => fun x => enc138 x
  | 5 => fun x => enc5 x
  | 271 => fun x => enc271 x
  | 274 => fun x => enc274 x
  | 157 => fun x => enc157 x
  | _ => fun _ => []
def wid : Nat → Nat
  | 3 => 1
  | 58 => 3
  | 9 => 1
  | 69 => 2
  | 53 => 1
  | 27 => 4
  | 114 => 5
  | 30 => 2
  | 32 => 1
  | 140 => 2
  | 144 => 2
  | 89 => 1
  | 4 => 1
  | 138 => 5
  | 5 => 1
  | 271 => 3
  | 274 => 3
  | 157 => 2
  | _ => 0
def decE (t : Nat) : List (D El) → Option (El t) := match t with
  | 3 => fun ds => dec3 ds
  | 58 => fun ds => dec58 ds
  | 9 => fun ds => dec9 ds
  | 69 => fun ds => dec69 ds
  | 53 => fun ds => dec53 ds
  | 27 => fun ds => dec27 ds
  | 114 => fun ds => dec114 ds
  | 30 => fun ds => dec30 ds
  | 32 => fun ds => dec32 ds
  | 140 => fun ds => dec140 ds
  | 144 => fun ds => dec144 ds
  | 89 => fun ds => dec89 ds
  | 4 => fun ds => dec4 ds
  | 138 => fun ds => dec138 ds
  | 5 => fun ds => dec5 ds
  | 271 => fun ds => dec271 ds
  | 274 => fun ds => dec274 ds
  | 157 => fun ds => dec157 ds
  | _ => fun _ => none
theorem pure3 (x : E3) : ∀ d ∈ enc3 x, d.cell = true ∧ d.pure = true := by
  intro d hd
  simp only [enc3, List.mem_cons, List.not_mem_nil, or_false] at hd
  rcases hd with rfl <;> exact ⟨rfl, rfl⟩
theorem pure58 (x : E58) : ∀ d ∈ enc58 x, d.cell = true ∧ d.pure = true := by
  intro d hd
  simp only [enc58, List.mem_cons, List.not_mem_nil, or_false] at hd
  rcases hd with rfl | rfl | rfl <;> exact ⟨rfl, rfl⟩
theorem pure9 (x : E9) : ∀ d ∈ enc9 x, d.cell = true ∧ d.pure = true := by
  intro d hd
  simp only [enc9, List.mem_cons, List.not_mem_nil, or_false] at hd
  rcases hd with rfl <;> exact ⟨rfl, rfl⟩
theorem pure69 (x : E69) : ∀ d ∈ enc69 x, d.cell = true ∧ d.pure = true := by
  intro d hd
  simp only [enc69, List.mem_cons, List.not_mem_nil, or_false] at hd
  rcases hd with rfl | rfl <;> exact ⟨rfl, rfl⟩
theorem pure53 (x : E53) : ∀ d ∈ enc53 x, d.cell = true ∧ d.pure = true := by
  intro d hd
  simp only [enc53, List.mem_cons, List.not_mem_nil, or_false] at hd
  rcases hd with rfl <;> exact ⟨rfl, rfl⟩
theorem pure27 (x : E27) : ∀ d ∈ enc27 x, d.cell = true ∧ d.pure = true := by
  intro d hd
  simp only [enc27, List.mem_cons, List.not_mem_nil, or_false] at hd
  rcases hd with rfl | rfl | rfl | rfl <;> exact ⟨rfl, rfl⟩
theorem pure114 (x : E114) : ∀ d ∈ enc114 x, d.cell = true ∧ d.pure = true := by
  intro d hd
  simp only [enc114, List.mem_cons, List.not_mem_nil, or_false] at hd
  rcases hd with rfl | rfl | rfl | rfl | rfl <;> exact ⟨rfl, rfl⟩
theorem pure30 (x : E30) : ∀ d ∈ enc30 x, d.cell = true ∧ d.pure = true := by
  intro d hd
  simp only [enc30, List.mem_cons, List.not_mem_nil, or_false] at hd
  rcases hd with rfl | rfl <;> exact ⟨rfl, rfl⟩
theorem pure32 (x : E32) : ∀ d ∈ enc32 x, d.cell = true ∧ d.pure = true := by
  intro d hd
  simp only [enc32, List.mem_cons, List.not_mem_nil, or_false] at hd
  rcases hd with rfl <;> exact ⟨rfl, rfl⟩
theorem pure140 (x : E140) : ∀ d ∈ enc140 x, d.cell = true ∧ d.pure = true := by
  intro d hd
  simp only [enc140, List.mem_cons, List.not_mem_nil, or_false] at hd
  rcases hd with rfl | rfl <;> exact ⟨rfl, rfl⟩
theorem pure144 (x : E144) : ∀ d ∈ enc144 x, d.cell = true ∧ d.pure = true := by
  intro d hd
  simp only [enc144, List.mem_cons, List.not_mem_nil, or_false] at hd
  rcases hd with rfl | rfl <;> exact ⟨rfl, rfl⟩
theorem pure89 (x : E89) : ∀ d ∈ enc89 x, d.cell = true ∧ d.pure = true := by
  intro d hd
  simp only [enc89, List.mem_cons, List.not_mem_nil, or_false] at hd
  rcases hd with rfl <;> exact ⟨rfl, rfl⟩
theorem pure4 (x : E4) : ∀ d ∈ enc4 x, d.cell = true ∧ d.pure = true := by
  intro d hd
  simp only [enc4, List.mem_cons, List.not_mem_nil, or_false] at hd
  rcases hd with rfl <;> exact ⟨rfl, rfl⟩
theorem pure138 (x : E138) : ∀ d ∈ enc138 x, d.cell = true ∧ d.pure = true := by
  intro d hd
  simp only [enc138, List.mem_cons, List.not_mem_nil, or_false] at hd
  rcases hd with rfl | rfl | rfl | rfl | rfl <;> exact ⟨rfl, rfl⟩
theorem pure5 (x : E5) : ∀ d ∈ enc5 x, d.cell = true ∧ d.pure = true := by
  intro d hd
  simp only [enc5, List.mem_cons, List.not_mem_nil, or_false] at hd
  rcases hd with rfl <;> exact ⟨rfl, rfl⟩
theorem pure271 (x : E271) : ∀ d ∈ enc271 x, d.cell = true ∧ d.pure = true := by
  intro d hd
  simp only [enc271, List.mem_cons, List.not_mem_nil, or_false] at hd
  rcases hd with rfl | rfl | rfl <;> exact ⟨rfl, rfl⟩
theorem pure274 (x : E274) : ∀ d ∈ enc274 x, d.cell = true ∧ d.pure = true := by
  intro d hd
  simp only [enc274, List.mem_cons, List.not_mem_nil, or_false] at hd
  rcases hd with rfl | rfl | rfl <;> exact ⟨rfl, rfl⟩
theorem pure157 (x : E157) : ∀ d ∈ enc157 x, d.cell = true ∧ d.pure = true := by
  intro d hd
  simp only [enc157, List.mem_cons, List.not_mem_nil, or_false] at hd
  rcases hd with rfl | rfl <;> exact ⟨rfl, rfl⟩
theorem pureE : ∀ t (x : El t), ∀ d ∈ encE t x, d.cell = true ∧ d.pure = true := by
  intro t x d hd
  unfold encE at hd
  split at hd
  · exact pure3 _ d hd
  · exact pure58 _ d hd
  · exact pure9 _ d hd
  · exact pure69 _ d hd
  · exact pure53 _ d hd
  · exact pure27 _ d hd
  · exact pure114 _ d hd
  · exact pure30 _ d hd
  · exact pure32 _ d hd
  · exact pure140 _ d hd
  · exact pure144 _ d hd
  · exact pure89 _ d hd
  · exact pure4 _ d hd
  · exact pure138 _ d hd
  · exact pure5 _ d hd
  · exact pure271 _ d hd
  · exact pure274 _ d hd
  · exact pure157 _ d hd
  · cases hd
theorem lenE : ∀ t (x : El t), (encE t x).length = wid t := by
  intro t x
  unfold encE wid
  split <;> first | rfl | (split <;> first | rfl | simp_all)
instance : Uni El where
  enc := encE
  width := wid
  enc_len := lenE
  enc_cell := fun t x d hd => (pureE t x d hd).1
  enc_pure := fun t x d hd => (pureE t x d hd).2
  dec := decE
  bound := laidBound
  holds := laidHolds
  dep := laidDep
theorem told3 {ds : List (D El)} {x : E3} (h : dec3 ds = some x) : ToldL ds (enc3 x) := by
  unfold dec3 at h
  split at h
  · obtain ⟨x0, h0, h⟩ := bind_some'' h; cases h; exact ⟨rdInt_told h0, trivial⟩
  · cases h
theorem told58 {ds : List (D El)} {x : E58} (h : dec58 ds = some x) : ToldL ds (enc58 x) := by
  unfold dec58 at h
  split at h
  · obtain ⟨x0, h0, h⟩ := bind_some'' h; obtain ⟨x1, h1, h⟩ := bind_some'' h; obtain ⟨x2, h2, h⟩ := bind_some'' h; cases h; exact ⟨rdStr_told h0, ⟨rdStr_told h1, ⟨rdInt_told h2, trivial⟩⟩⟩
  · cases h
theorem told9 {ds : List (D El)} {x : E9} (h : dec9 ds = some x) : ToldL ds (enc9 x) := by
  unfold dec9 at h
  split at h
  · obtain ⟨x0, h0, h⟩ := bind_some'' h; cases h; exact ⟨rdStr_told h0, trivial⟩
  · cases h
theorem told69 {ds : List (D El)} {x : E69} (h : dec69 ds = some x) : ToldL ds (enc69 x) := by
  unfold dec69 at h
  split at h
  · obtain ⟨x0, h0, h⟩ := bind_some'' h; obtain ⟨x1, h1, h⟩ := bind_some'' h; cases h; exact ⟨rdStr_told h0, ⟨rdInt_told h1, trivial⟩⟩
  · cases h
theorem told53 {ds : List (D El)} {x : E53} (h : dec53 ds = some x) : ToldL ds (enc53 x) := by
  unfold dec53 at h
  split at h
  · obtain ⟨x0, h0, h⟩ := bind_some'' h; cases h; exact ⟨rdSl_told h0, trivial⟩
  · cases h
theorem told27 {ds : List (D El)} {x : E27} (h : dec27 ds = some x) : ToldL ds (enc27 x) := by
  unfold dec27 at h
  split at h
  · obtain ⟨x0, h0, h⟩ := bind_some'' h; obtain ⟨x1, h1, h⟩ := bind_some'' h; obtain ⟨x2, h2, h⟩ := bind_some'' h; obtain ⟨x3, h3, h⟩ := bind_some'' h; cases h; exact ⟨rdInt_told h0, ⟨rdInt_told h1, ⟨rdInt_told h2, ⟨rdInt_told h3, trivial⟩⟩⟩⟩
  · cases h
theorem told114 {ds : List (D El)} {x : E114} (h : dec114 ds = some x) : ToldL ds (enc114 x) := by
  unfold dec114 at h
  split at h
  · obtain ⟨x0, h0, h⟩ := bind_some'' h; obtain ⟨x1, h1, h⟩ := bind_some'' h; obtain ⟨x2, h2, h⟩ := bind_some'' h; obtain ⟨x3, h3, h⟩ := bind_some'' h; obtain ⟨x4, h4, h⟩ := bind_some'' h; cases h; exact ⟨rdStr_told h0, ⟨rdInt_told h1, ⟨rdInt_told h2, ⟨rdInt_told h3, ⟨rdInt_told h4, trivial⟩⟩⟩⟩⟩
  · cases h
theorem told30 {ds : List (D El)} {x : E30} (h : dec30 ds = some x) : ToldL ds (enc30 x) := by
  unfold dec30 at h
  split at h
  · obtain ⟨x0, h0, h⟩ := bind_some'' h; obtain ⟨x1, h1, h⟩ := bind_some'' h; cases h; exact ⟨rdInt_told h0, ⟨rdInt_told h1, trivial⟩⟩
  · cases h
theorem told32 {ds : List (D El)} {x : E32} (h : dec32 ds = some x) : ToldL ds (enc32 x) := by
  unfold dec32 at h
  split at h
  · obtain ⟨x0, h0, h⟩ := bind_some'' h; cases h; exact ⟨rdInt_told h0, trivial⟩
  · cases h
theorem told140 {ds : List (D El)} {x : E140} (h : dec140 ds = some x) : ToldL ds (enc140 x) := by
  unfold dec140 at h
  split at h
  · obtain ⟨x0, h0, h⟩ := bind_some'' h; obtain ⟨x1, h1, h⟩ := bind_some'' h; cases h; exact ⟨rdStr_told h0, ⟨rdStr_told h1, trivial⟩⟩
  · cases h
theorem told144 {ds : List (D El)} {x : E144} (h : dec144 ds = some x) : ToldL ds (enc144 x) := by
  unfold dec144 at h
  split at h
  · obtain ⟨x0, h0, h⟩ := bind_some'' h; obtain ⟨x1, h1, h⟩ := bind_some'' h; cases h; exact ⟨rdInt_told h0, ⟨rdInt_told h1, trivial⟩⟩
  · cases h
theorem told89 {ds : List (D El)} {x : E89} (h : dec89 ds = some x) : ToldL ds (enc89 x) := by
  unfold dec89 at h
  split at h
  · obtain ⟨x0, h0, h⟩ := bind_some'' h; cases h; exact ⟨rdSl_told h0, trivial⟩
  · cases h
theorem told4 {ds : List (D El)} {x : E4} (h : dec4 ds = some x) : ToldL ds (enc4 x) := by
  unfold dec4 at h
  split at h
  · obtain ⟨x0, h0, h⟩ := bind_some'' h; cases h; exact ⟨rdBool_told h0, trivial⟩
  · cases h
theorem told138 {ds : List (D El)} {x : E138} (h : dec138 ds = some x) : ToldL ds (enc138 x) := by
  unfold dec138 at h
  split at h
  · obtain ⟨x0, h0, h⟩ := bind_some'' h; obtain ⟨x1, h1, h⟩ := bind_some'' h; obtain ⟨x2, h2, h⟩ := bind_some'' h; obtain ⟨x3, h3, h⟩ := bind_some'' h; obtain ⟨x4, h4, h⟩ := bind_some'' h; cases h; exact ⟨rdStr_told h0, ⟨rdStr_told h1, ⟨rdInt_told h2, ⟨rdInt_told h3, ⟨rdSl_told h4, trivial⟩⟩⟩⟩⟩
  · cases h
theorem told5 {ds : List (D El)} {x : E5} (h : dec5 ds = some x) : ToldL ds (enc5 x) := by
  unfold dec5 at h
  split at h
  · obtain ⟨x0, h0, h⟩ := bind_some'' h; cases h; exact ⟨rdInt_told h0, trivial⟩
  · cases h
theorem told271 {ds : List (D El)} {x : E271} (h : dec271 ds = some x) : ToldL ds (enc271 x) := by
  unfold dec271 at h
  split at h
  · obtain ⟨x0, h0, h⟩ := bind_some'' h; obtain ⟨x1, h1, h⟩ := bind_some'' h; obtain ⟨x2, h2, h⟩ := bind_some'' h; cases h; exact ⟨rdInt_told h0, ⟨rdInt_told h1, ⟨rdInt_told h2, trivial⟩⟩⟩
  · cases h
theorem told274 {ds : List (D El)} {x : E274} (h : dec274 ds = some x) : ToldL ds (enc274 x) := by
  unfold dec274 at h
  split at h
  · obtain ⟨x0, h0, h⟩ := bind_some'' h; obtain ⟨x1, h1, h⟩ := bind_some'' h; obtain ⟨x2, h2, h⟩ := bind_some'' h; cases h; exact ⟨rdInt_told h0, ⟨rdInt_told h1, ⟨rdInt_told h2, trivial⟩⟩⟩
  · cases h
theorem told157 {ds : List (D El)} {x : E157} (h : dec157 ds = some x) : ToldL ds (enc157 x) := by
  unfold dec157 at h
  split at h
  · obtain ⟨x0, h0, h⟩ := bind_some'' h; obtain ⟨x1, h1, h⟩ := bind_some'' h; cases h; exact ⟨rdInt_told h0, ⟨rdSl_told h1, trivial⟩⟩
  · cases h
theorem toldE : ∀ t ds (x : El t), decE t ds = some x → ToldL ds (encE t x) := by
  intro t ds x h
  revert h
  unfold decE
  split
  · exact fun h => told3 h
  · exact fun h => told58 h
  · exact fun h => told9 h
  · exact fun h => told69 h
  · exact fun h => told53 h
  · exact fun h => told27 h
  · exact fun h => told114 h
  · exact fun h => told30 h
  · exact fun h => told32 h
  · exact fun h => told140 h
  · exact fun h => told144 h
  · exact fun h => told89 h
  · exact fun h => told4 h
  · exact fun h => told138 h
  · exact fun h => told5 h
  · exact fun h => told271 h
  · exact fun h => told274 h
  · exact fun h => told157 h
  · intro h
    have e : El t = Empty := by
      clear h x
      unfold El
      split <;> first | rfl | (exfalso; simp_all; done)
    exact (cast e x).elim
instance : UniOK El where
  dec_len := fun t ds x h => by
    have h1 := (toldE t ds x h).len
    rw [h1]
    exact Uni.enc_len t x
  dec_rel := fun t ds x h j d d' h1 h2 w S β v hv => (toldE t ds x h).get j d d' h1 h2 w S β v hv
def code (f : Func) : Code := f.body.getD .skip
end T
