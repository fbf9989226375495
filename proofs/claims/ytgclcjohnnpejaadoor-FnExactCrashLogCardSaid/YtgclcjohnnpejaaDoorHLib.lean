/- The contracts of the library's functions that this seat's program calls, in the form of the printed ones. -/
import Derived.Test.YtgclcjohnnpejaaDoorShelf
import Derived.Below
import Derived.Test.YtgclcjohnnpejaaDoorWWords
import Derived.Lib.SmallJoins
import Derived.Lib.AppendIntMem
namespace Go.Proofs.YtgclcjohnnpejaaDoor.Pr
open Go.RowKit Go.Proofs.YtgclcjohnnpejaaDoorW.PrintWords

/-- What the printed functions ask of the library's variables. -/
structure Glob (w : World) : Prop where
  max : ∃ m, w.cell? ⟨0, 0, none⟩ = some (.int .i64 m)
  pow : Lib.TabIs Tryd.prog w "internal/strconv.uint64pow10" .u64 Lib.pow10Tab

theorem Glob.below {w w' : World} (h : Glob w) (hb : Below w.heap.size w w') : Glob w' := by
  obtain ⟨⟨m, hm⟩, hp⟩ := h
  refine ⟨⟨m, (hb.cell (World.block_lt_of_cell? w _ hm)).trans hm⟩, ?_⟩
  exact Lib.tabBelow_of_tabIs hp w' hb

/-! ### bytes of a text -/
theorem indexByte_mem : ∀ (l : List UInt8) (c : UInt8), (0 ≤ Lib.indexByte l c) ↔ c ∈ l
  | [], c => by simp [Lib.indexByte]
  | b :: l, c => by
    have ih := indexByte_mem l c
    have hg := Lib.indexByte_ge l c
    unfold Lib.indexByte
    by_cases h : b = c
    · subst h; simp
    · have h1 : (b == c) = false := by simpa using h
      rw [h1]
      by_cases h2 : Lib.indexByte l c = -1
      · have : c ∉ l := fun hc => by have := ih.2 hc; omega
        simp [h2, this, Ne.symm h]
      · have h3 : (Lib.indexByte l c == -1) = false := by simpa using h2
        have : c ∈ l := ih.1 (by omega)
        simp only [h3, this, List.mem_cons, or_true, iff_true]
        simp
        omega

theorem one_byte {b : ByteArray} (h : b.size = 1) : b = ⟨#[b.data.toList.headD 0]⟩ := by
  obtain ⟨⟨l⟩⟩ := b
  have hl : l.length = 1 := h
  match l, hl with
  | [x], _ => rfl

/-- strings.Contains, asked of a text of one byte. -/
def strings_Contains.f (a b : ByteArray) : Option Bool := if b.size = 1 then some (decide (b.data.toList.headD 0 ∈ a.data.toList)) else none
theorem strings_Contains.calls (a b : ByteArray) (r : Bool) (w : World) (h : strings_Contains.f a b = some r) :
    Calls Tryd.prog 71 #[.string a, .string b] w fun e w' => e = .returned (.bool r) ∧ Drawn0 w w' := by
  unfold strings_Contains.f at h
  by_cases h1 : b.size = 1
  · rw [if_pos h1] at h
    have hb := one_byte h1
    generalize b.data.toList.headD 0 = c at h hb
    subst hb
    refine (Tryd.strings_Contains_one a c w).mono ?_
    rintro e w' ⟨rfl, rfl⟩
    refine ⟨?_, ⟨0, rfl⟩⟩
    injection h with h
    rw [← h, decide_eq_decide.2 (indexByte_mem a.data.toList c)]
  · rw [if_neg h1] at h; cases h

/-- strings.Cut at a text of one byte. -/
def cutAt (l : List UInt8) (c : UInt8) : List UInt8 × List UInt8 × Bool :=
  if c ∈ l then (l.takeWhile (· != c), (l.dropWhile (· != c)).tail, true) else (l, [], false)

theorem index_one : ∀ (l : List UInt8) (c : UInt8), Lib.index l [c] = if c ∈ l then ((l.takeWhile (· != c)).length : Int) else -1
  | [], c => by simp [Lib.index]
  | b :: l, c => by
    have ih := index_one l c
    unfold Lib.index
    by_cases h : b = c
    · subst h; simp
    · have h1 : (c == b) = false := by simpa using Ne.symm h
      have h2 : (b != c) = true := by simpa using h
      rw [ih]
      by_cases hm : c ∈ l
      · have h4 : ((((l.takeWhile (· != c)).length : Int)) == -1) = false := by rw [beq_eq_false_iff_ne]; omega
        simp [hm, h1, h2, h4, List.isPrefixOf]
      · simp [hm, h1, Ne.symm h, List.isPrefixOf]

theorem drop_takeWhile : ∀ (l : List UInt8) (p : UInt8 → Bool), l.drop (l.takeWhile p).length = l.dropWhile p
  | [], _ => rfl
  | b :: l, p => by
    by_cases h : p b = true
    · simp [h, drop_takeWhile l p]
    · simp [h]

theorem cut_one (l : List UInt8) (c : UInt8) : Lib.cut l [c] = cutAt l c := by
  unfold Lib.cut cutAt
  rw [index_one]
  by_cases hm : c ∈ l
  · simp only [hm, if_true]
    rw [if_pos (by omega)]
    simp only [Int.toNat_natCast, List.length_singleton]
    rw [← drop_takeWhile l, List.tail_drop]
    congr 1
    exact (List.prefix_iff_eq_take.1 (List.takeWhile_prefix _)).symm
  · simp [hm]

def strings_Cut.f (a b : ByteArray) : Option (ByteArray × ByteArray × Bool) :=
  if b.size = 1 ∧ a.size < 4294967281 then
    some (⟨(cutAt a.data.toList (b.data.toList.headD 0)).1.toArray⟩, ⟨(cutAt a.data.toList (b.data.toList.headD 0)).2.1.toArray⟩, (cutAt a.data.toList (b.data.toList.headD 0)).2.2)
  else none
theorem strings_Cut.calls (a b : ByteArray) (r1 r2 : ByteArray) (r3 : Bool) (w : World) (hgl : Glob w) (h : strings_Cut.f a b = some (r1, r2, r3)) :
    Calls Tryd.prog 108 #[.string a, .string b] w fun e w' => e = .returned (.tuple #[.string r1, .string r2, .bool r3]) ∧ Below w.heap.size w w' := by
  unfold strings_Cut.f at h
  by_cases h1 : b.size = 1 ∧ a.size < 4294967281
  · rw [if_pos h1] at h
    have hb := one_byte h1.1
    generalize b.data.toList.headD 0 = c at h hb
    subst hb
    obtain ⟨m, hm⟩ := hgl.max
    refine (Tryd.strings_Cut a ⟨#[c]⟩ m w h1.2 hm).mono ?_
    rintro e w' ⟨rfl, n, rfl⟩
    refine ⟨?_, pw_below_drewN (Below.refl _ _) n⟩
    have e1 : (⟨#[c]⟩ : ByteArray).data.toList = [c] := rfl
    rw [e1, cut_one]
    injection h with h
    injection h with h1 h2
    injection h2 with h2 h3
    rw [h1, h2, h3]
  · rw [if_neg h1] at h; cases h

/-- strconv.Itoa. -/
def strconv_Itoa.f (n : Int) : Option ByteArray := if -9223372036854775808 ≤ n ∧ n ≤ 9223372036854775807 then some ⟨(Lib.itoa n).toArray⟩ else none
theorem strconv_Itoa.calls (n : Int) (r : ByteArray) (w : World) (hgl : Glob w) (h : strconv_Itoa.f n = some r) :
    Calls Tryd.prog 78 #[.int .i64 n] w fun e w' => e = .returned (.string r) ∧ Below w.heap.size w w' := by
  unfold strconv_Itoa.f at h
  by_cases h1 : -9223372036854775808 ≤ n ∧ n ≤ 9223372036854775807
  · rw [if_pos h1] at h
    refine (Tryd.strconv_Itoa n h1.1 h1.2 w hgl.pow).mono ?_
    rintro e w' ⟨rfl, k, os, rfl⟩
    injection h with h
    exact ⟨by rw [h], Lib.below_grow _ _ (Nat.le_refl _) _ _⟩
  · rw [if_neg h1] at h; cases h
end Go.Proofs.YtgclcjohnnpejaaDoor.Pr
