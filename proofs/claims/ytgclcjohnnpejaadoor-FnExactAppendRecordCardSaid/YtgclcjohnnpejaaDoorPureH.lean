/- AppendRecord. No program, no memory. -/
import Derived.Test.YtgclcjohnnpejaaDoorPureE
import Derived.Test.YtgclcjohnnpejaaDoorLawFnExactAppendRecord
import Derived.Test.YtgclcjohnnpejaaDoorPrx1
import Derived.Test.YtgclcjohnnpejaaDoorPrx18
import Derived.Test.YtgclcjohnnpejaaDoorPrx19
import Derived.Test.YtgclcjohnnpejaaDoorPrx4
namespace Go.Proofs.YtgclcjohnnpejaaDoor.PureL
open Go.RowKit Go.Proofs.YtgclcjohnnpejaaDoor.Pr Go.Proofs.YtgclcjohnnpejaaDoorW.PrintWords Go.Proofs.YtgclcjohnnpejaaDoorW.PrintLast

theorem valid_count (a b : ByteArray) (n : Int) (ha : a.size ≤ 1048576) (hb : b.size ≤ 1048576) (k : Nat) (hk : 30000000 < k) (h : spec_l12Valid.f k a b n = some true) : 0 ≤ n ∧ n ≤ 60 := by
  by_cases c : a.size + b.size ≤ 30000
  · obtain ⟨l1, n1, hn1, hl1, h1⟩ := read_eq (a ++ b) (by rw [size_app]; omega)
    obtain ⟨l2, n2, hn2, hl2, h2⟩ := read_eq a (by omega)
    obtain ⟨i1, s1⟩ := h1 k (by omega)
    obtain ⟨i2, s2⟩ := h2 k (by omega)
    unfold spec_l12Valid.f at h
    rw [s1, s2, wrap_in (by omega) (by omega), if_neg (by omega), if_pos (by omega), Option.bind_some] at h
    dsimp only at h
    rw [Option.bind_some] at h
    dsimp only at h
    split at h
    · split at h
      · have := of_decide_eq_true (Option.some.inj h)
        omega
      · cases h
    · cases h
  · unfold spec_l12Valid.f at h
    rw [wrap_in (by omega) (by omega), if_pos (by omega)] at h
    cases h

theorem append_eq (a b : ByteArray) (n : Int) (c r : ByteArray) (ha : a.size ≤ 1048576) (hb : b.size ≤ 1048576) (hc : c.size ≤ 1048576) (hr : r.size ≤ 1048576) :
    ∃ p q m e, ∀ k, 50000000 < k → spec_AppendRecord.f k a b n c r = some (p, q, m, e) ∧ impl_AppendRecord.f k a b n c r = some (p, q, m, e) := by
  obtain ⟨v, hv0, hv⟩ := valid_eq a b n ha hb
  have hrec : ∀ k, 1048576 < k → spec_l12Record.f k c r = some (validRec (L c) (L r)) ∧ impl_IsValidRecord.f k c r = some (validRec (L c) (L r)) := fun k hk => ⟨spec_valid c r k (by omega) (by omega) (by omega) (by omega), impl_valid c r k (by omega) (by omega) (by omega) (by omega)⟩
  cases v with
  | false =>
    refine ⟨a, b, n, 1, fun k hk => ?_⟩
    obtain ⟨e1, e2⟩ := hv k (by omega)
    obtain ⟨k, rfl⟩ : ∃ z, k = z + 1 := ⟨k - 1, by omega⟩
    unfold spec_AppendRecord.f impl_AppendRecord.f
    rw [e1, e2, Option.bind_some, Option.bind_some, if_neg (by simp), if_neg (by simp), spec_AppendRecord.j0, impl_AppendRecord.j0, if_pos rfl, if_pos rfl]
    exact ⟨rfl, rfl⟩
  | true =>
    have hS : ∀ k, 50000000 < k → spec_AppendRecord.f k a b n c r = spec_AppendRecord.j0 k (!validRec (L c) (L r)) a b n c r ∧ impl_AppendRecord.f k a b n c r = impl_AppendRecord.j0 k (!validRec (L c) (L r)) a b n c r := fun k hk => by
      obtain ⟨e1, e2⟩ := hv k (by omega)
      obtain ⟨r1, r2⟩ := hrec k (by omega)
      unfold spec_AppendRecord.f impl_AppendRecord.f
      rw [e1, e2, r1, r2]
      exact ⟨rfl, rfl⟩
    have nt : ¬ (!true) = true := by simp
    obtain ⟨n0, n1⟩ := valid_count a b n ha hb 30000001 (by omega) (hv 30000001 (by omega)).1
    cases hw : validRec (L c) (L r) with
    | false =>
      refine ⟨a, b, n, 1, fun k hk => ?_⟩
      rw [(hS k hk).1, (hS k hk).2, hw]
      obtain ⟨k, rfl⟩ : ∃ z, k = z + 1 := ⟨k - 1, by omega⟩
      rw [spec_AppendRecord.j0, impl_AppendRecord.j0]
      exact ⟨rfl, rfl⟩
    | true =>
      by_cases h60 : n = 60
      · refine ⟨a, b, n, 2, fun k hk => ?_⟩
        rw [(hS k hk).1, (hS k hk).2, hw]
        obtain ⟨k, rfl⟩ : ∃ z, k = z + 1 := ⟨k - 1, by omega⟩
        rw [spec_AppendRecord.j0, impl_AppendRecord.j0, if_neg nt, if_neg nt, if_pos h60, if_pos h60]
        exact ⟨rfl, rfl⟩
      · refine ⟨a, b ++ ⟨(encL n (L c) (L r)).toArray⟩, n + 1, 0, fun k hk => ?_⟩
        rw [(hS k hk).1, (hS k hk).2, hw]
        obtain ⟨k, rfl⟩ : ∃ z, k = z + 1 := ⟨k - 1, by omega⟩
        have l1 := spec_line n c r k (by omega) (by omega) (by omega) (by omega) (by omega)
        have l2 := impl_enc n c r k (by omega) (by omega) (by omega)
        have l3 : encR n c r = (⟨(encL n (L c) (L r)).toArray⟩, true) := by
          unfold encR
          rw [if_pos ⟨n0, by omega, hw⟩]
        have hz : (encL n (L c) (L r)).length ≤ 3000000 := by
          have a1 := text_len (n := n) (c := L c) (r := L r) n0 (by omega)
          have a2 := seal_len (textL n (L c) (L r))
          rw [← size_L, ← size_L] at a1
          unfold encL
          rw [List.length_append, List.length_singleton]
          omega
        rw [spec_AppendRecord.j0, impl_AppendRecord.j0, if_neg nt, if_neg nt, if_neg h60, if_neg h60, l1, l2, l3, Option.bind_some, Option.bind_some]
        dsimp only
        have hz2 : (⟨(encL n (L c) (L r)).toArray⟩ : ByteArray).size ≤ 3000000 := by rw [B_size]; exact hz
        rw [if_pos (by omega), wrap_in (by omega) (by omega)]
        exact ⟨rfl, rfl⟩

theorem FnExactAppendRecord (a b : ByteArray) (n : Int) (c r : ByteArray) (ha : a.size ≤ 140737488351232) (hb : b.size ≤ 140737488351232) (hc : c.size ≤ 140737488351232) (hr : r.size ≤ 140737488351232) : ∃ k, laws_FnExactAppendRecord.f k a b n c r = some true := by
  refine ⟨60000000, ?_⟩
  obtain ⟨z, hz, hs⟩ := sz_log a b n ha hb
  unfold laws_FnExactAppendRecord.f
  rw [hz, Option.bind_some]
  by_cases h : z < 0
  · rw [if_pos h]
  · obtain ⟨h1, h2, h3, h4⟩ := hs h
    rw [if_neg h]
    have hy : ∃ y, laws_szLogRecord.f c r z = some y ∧ (¬ y < 0 → c.size ≤ 1048576 ∧ r.size ≤ 1048576) := by
      unfold laws_szLogRecord.f
      rw [wrap_in (by omega) (by omega), wrap_in (by omega) (by omega)]
      by_cases h1 : z - (c.size : Int) < 0
      · rw [if_pos h1]; exact ⟨_, rfl, fun h => absurd (by omega) h⟩
      · rw [if_neg h1]
        by_cases h2 : z - (c.size : Int) - (r.size : Int) < 0
        · rw [if_pos h2]; exact ⟨_, rfl, fun h => absurd (by omega) h⟩
        · rw [if_neg h2]; exact ⟨_, rfl, fun _ => by omega⟩
    obtain ⟨y, hy, hy2⟩ := hy
    rw [hy, Option.bind_some]
    by_cases h' : y < 0
    · rw [if_pos h']
    · obtain ⟨h5, h6⟩ := hy2 h'
      obtain ⟨p, q, m, e, hE⟩ := append_eq a b n c r h1 h2 h5 h6
      obtain ⟨e1, e2⟩ := hE 60000000 (by omega)
      rw [if_neg h']
      unfold laws_toLog.f laws_toLogRecord.f
      rw [Option.bind_some, Option.bind_some]
      dsimp only
      rw [e1, Option.bind_some, Option.bind_some, Option.bind_some]
      dsimp only
      rw [e2, Option.bind_some]
      dsimp only
      rw [eqLog_same, Option.bind_some, if_pos rfl, if_pos rfl]
end Go.Proofs.YtgclcjohnnpejaaDoor.PureL
