/- The cursor of the drawn laws: what it draws is within bounds. No program, no memory. -/
import Derived.Test.YtgclcjohnnpejaaDoorPtx1
import Derived.Test.YtgclcjohnnpejaaDoorPtx2
import Derived.Test.YtgclcjohnnpejaaDoorPureT0
import Derived.Lib.Zigzag
import Derived.Lib.VarintBits
namespace Go.Proofs.YtgclcjohnnpejaaDoor.PureL
open Go.RowKit Go.Proofs.YtgclcjohnnpejaaDoor.Pt Go.Proofs.YtgclcjohnnpejaaDoorW.PrintWords Go.Proofs.YtgclcjohnnpejaaDoorW.PrintLast

/-- the bytes of a code -/
def Code (l : List Int) : Prop := ∀ x ∈ l, 0 ≤ x ∧ x ≤ 255

theorem Code.of_wf {l : List Int} (h : ∀ x ∈ l, (Lit.int .u8 x).wf = true) : Code l := fun x hx => by
  have := h x hx
  simp [Lit.wf, IntKind.min, IntKind.max, IntKind.signed, IntKind.bits] at this
  omega

theorem Code.rd_in {l : List Int} (h : Code l) (i : Int) : 0 ≤ rd l i ∧ rd l i ≤ 255 := by
  unfold rd
  rw [List.getD_eq_getElem?_getD]
  cases e : l[i.toNat]? with
  | none => simp
  | some x => exact h x (List.mem_of_getElem? e)

theorem u64_range (x : Int) : 0 ≤ IntKind.u64.wrap x ∧ IntKind.u64.wrap x < 18446744073709551616 := by
  rw [show IntKind.u64.wrap x = x % 18446744073709551616 from IntKind.wrap_u64 x]
  omega

theorem low_byte (x : Int) (h0 : 0 ≤ x) (h1 : x < 18446744073709551616) : 0 ≤ wrap64 (Go.bits .and .u64 (x / 1099511627776) 255) ∧ wrap64 (Go.bits .and .u64 (x / 1099511627776) 255) ≤ 255 := by
  have h := bits_mask .u64 64 (by decide) wraps_u64 8 (by decide) (x / 1099511627776) (by omega) (by omega)
  have h2 : Go.bits .and .u64 (x / 1099511627776) 255 = (x / 1099511627776) % 256 := by simpa using h
  rw [h2, wrap_in (by omega) (by omega)]
  omega

theorem next_ok (l : List Int) (hl : Code l) (a s : Int) (h0 : 0 ≤ a) (h1 : a ≤ 1000000000000000) : ∃ x s', spec_l1Cur_next.f l a s = some (x, a + 1, s') ∧ 0 ≤ x ∧ x ≤ 255 := by
  unfold spec_l1Cur_next.f
  obtain ⟨r0, r1⟩ := hl.rd_in a
  rw [wrap_in (i := a + 1) (by omega) (by omega), wrap_in (i := rd l a) (by omega) (by omega)]
  split
  · split
    · exact ⟨_, _, rfl, r0, r1⟩
    · exact ⟨_, _, rfl, low_byte _ (u64_range _).1 (u64_range _).2⟩
  · split
    · exact ⟨_, _, rfl, by omega, by omega⟩
    · exact ⟨_, _, rfl, low_byte _ (u64_range _).1 (u64_range _).2⟩

theorem pick_ok (l : List Int) (hl : Code l) (a s n : Int) (h0 : 0 ≤ a) (h1 : a ≤ 100000000000000) : ∃ x a' s', spec_l1Cur_pick.f l a s n = some (x, a', s') ∧ 0 ≤ x ∧ (x = 0 ∨ x < n) ∧ a ≤ a' ∧ a' ≤ a + 2 := by
  unfold spec_l1Cur_pick.f
  by_cases hn : n ≤ 1
  · rw [if_pos hn]; exact ⟨_, _, _, rfl, by omega, .inl rfl, by omega, by omega⟩
  · rw [if_neg hn]
    obtain ⟨x, s1, e, x0, x1⟩ := next_ok l hl a s h0 (by omega)
    rw [e, Option.bind_some]
    dsimp only
    by_cases hm : n > 200
    · rw [if_pos hm]
      obtain ⟨y, s2, e2, y0, y1⟩ := next_ok l hl (a + 1) s1 (by omega) (by omega)
      rw [e2, Option.bind_some, if_neg (by omega)]
      dsimp only
      rw [wrap_in (i := x * 256) (by omega) (by omega), wrap_in (by omega) (by omega), Int.tmod_eq_emod_of_nonneg (by omega)]
      exact ⟨_, _, _, rfl, Int.emod_nonneg _ (by omega), .inr (Int.emod_lt_of_pos _ (by omega)), by omega, by omega⟩
    · rw [if_neg hm, if_neg (by omega), Int.tmod_eq_emod_of_nonneg x0]
      exact ⟨_, _, _, rfl, Int.emod_nonneg _ (by omega), .inr (Int.emod_lt_of_pos _ (by omega)), by omega, by omega⟩

theorem of_ok (l : List Int) (hl : Code l) (a s : Int) (t : List ByteArray) (ht : t ≠ []) (h0 : 0 ≤ a) (h1 : a ≤ 100000000000000) : ∃ x a' s', spec_l1Cur_of.f l a s t = some (x, a', s') ∧ x ∈ t ∧ a ≤ a' ∧ a' ≤ a + 2 := by
  unfold spec_l1Cur_of.f
  obtain ⟨x, a', s', e, x0, x1, b0, b1⟩ := pick_ok l hl a s (t.length : Int) h0 h1
  have hp : 0 < t.length := List.length_pos_iff.2 ht
  rw [e, Option.bind_some]
  dsimp only
  rw [if_pos x0, if_pos (by omega)]
  refine ⟨_, _, _, rfl, ?_, b0, b1⟩
  unfold rdOf
  have hx : x.toNat < t.length := by omega
  rw [List.getD_eq_getElem?_getD, List.getElem?_eq_getElem hx]
  exact List.getElem_mem hx

theorem one_ok (l : List Int) (hl : Code l) (a s n : Int) (h0 : 0 ≤ a) (h1 : a ≤ 100000000000000) : ∃ b a' s', spec_l1Cur_one.f l a s n = some (b, a', s') ∧ a ≤ a' ∧ a' ≤ a + 2 := by
  unfold spec_l1Cur_one.f
  obtain ⟨x, a', s', e, x0, x1, b0, b1⟩ := pick_ok l hl a s n h0 h1
  rw [e, Option.bind_some]
  exact ⟨_, _, _, rfl, b0, b1⟩
end Go.Proofs.YtgclcjohnnpejaaDoor.PureL
