/- Valid logs: the program's answer is the reference's. No program, no memory. -/
import Derived.Test.YtgclcjohnnpejaaDoorPureC
import Derived.Test.YtgclcjohnnpejaaDoorPrx14
import Derived.Test.YtgclcjohnnpejaaDoorPrx16
namespace Go.Proofs.YtgclcjohnnpejaaDoor.PureL
open Go.RowKit Go.Proofs.YtgclcjohnnpejaaDoor.Pr Go.Proofs.YtgclcjohnnpejaaDoorW.PrintWords Go.Proofs.YtgclcjohnnpejaaDoorW.PrintLast

theorem size_app (a b : ByteArray) : (a ++ b).size = a.size + b.size := by rw [size_L, L_append, List.length_append, ← size_L, ← size_L]

theorem records_eq (a b : ByteArray) (n : Int) (ha : a.size ≤ 1048576) (hb : b.size ≤ 1048576) : ∃ (l : List S38) (v : Bool), l.length ≤ 60 ∧ (v = true → a.size + b.size ≤ 30000) ∧ ∀ k, 30000000 < k →
    spec_l12Valid.f k a b n = some v ∧ impl_Log_records.f k a b n = some (l, v) ∧ (v = true → ∃ m, spec_l12Open.f k (a ++ b) = some (l, m)) := by
  by_cases h : a.size + b.size ≤ 30000
  · obtain ⟨l1, n1, hn1, hl1, h1⟩ := read_eq (a ++ b) (by rw [size_app]; omega)
    obtain ⟨l2, n2, hn2, hl2, h2⟩ := read_eq a (by omega)
    refine ⟨l1, decide ((n1 : Int) = (a.size : Int) + (b.size : Int)) && decide ((n2 : Int) = (a.size : Int)) && decide ((l1.length : Int) = n), hl1, fun _ => h, fun k hk => ?_⟩
    obtain ⟨i1, s1⟩ := h1 k (by omega)
    obtain ⟨i2, s2⟩ := h2 k (by omega)
    unfold spec_l12Valid.f impl_Log_records.f
    rw [i1, i2, s1, s2, wrap_in (by omega) (by omega), if_neg (by omega), if_pos (by omega), Option.bind_some]
    dsimp only
    rw [Option.bind_some, Option.bind_some]
    dsimp only
    refine ⟨?_, ?_, fun _ => ⟨_, rfl⟩⟩
    · by_cases c1 : (n1 : Int) = (a.size : Int) + (b.size : Int)
      · rw [if_pos c1, decide_eq_true c1]
        by_cases c2 : (n2 : Int) = (a.size : Int)
        · rw [if_pos c2, decide_eq_true c2]; rfl
        · rw [if_neg c2, decide_eq_false c2]; rfl
      · rw [if_neg c1, decide_eq_false c1]; rfl
    · rw [if_neg (by omega), if_pos (by omega), Option.bind_some]
      dsimp only
      by_cases c1 : (n1 : Int) = (a.size : Int) + (b.size : Int)
      · rw [if_pos c1, decide_eq_true c1]
        by_cases c2 : (n2 : Int) = (a.size : Int)
        · rw [if_pos c2, decide_eq_true c2]; rfl
        · rw [if_neg c2, decide_eq_false c2]; rfl
      · rw [if_neg c1, decide_eq_false c1]; rfl
  · refine ⟨[], false, by simp, (fun h => by cases h), fun k hk => ?_⟩
    unfold spec_l12Valid.f impl_Log_records.f
    rw [wrap_in (by omega) (by omega), if_pos (by omega)]
    rw [if_pos (by omega)]
    exact ⟨rfl, rfl, (fun h => by cases h)⟩

/-- what is left of the bound on sizes -/
theorem sz_log (a b : ByteArray) (n : Int) (ha : a.size ≤ 140737488351232) (hb : b.size ≤ 140737488351232) : ∃ r, laws_szLog.f a b n 1048576 = some r ∧ (¬ r < 0 → a.size ≤ 1048576 ∧ b.size ≤ 1048576 ∧ 0 ≤ r ∧ r ≤ 1048576) := by
  unfold laws_szLog.f
  rw [wrap_in (by omega) (by omega), wrap_in (by omega) (by omega)]
  by_cases h1 : (1048576 : Int) - (a.size : Int) < 0
  · rw [if_pos h1]; exact ⟨_, rfl, fun h => absurd (by omega) h⟩
  · rw [if_neg h1]
    by_cases h2 : (1048576 : Int) - (a.size : Int) - (b.size : Int) < 0
    · rw [if_pos h2]; exact ⟨_, rfl, fun h => absurd (by omega) h⟩
    · rw [if_neg h2]; exact ⟨_, rfl, fun _ => by omega⟩

theorem valid_eq (a b : ByteArray) (n : Int) (ha : a.size ≤ 1048576) (hb : b.size ≤ 1048576) : ∃ v, (v = true → a.size + b.size ≤ 30000) ∧ ∀ k, 30000000 < k → spec_l12Valid.f k a b n = some v ∧ impl_IsValidLog.f k a b n = some v := by
  obtain ⟨l, v, _, hv, h⟩ := records_eq a b n ha hb
  refine ⟨v, hv, fun k hk => ?_⟩
  obtain ⟨h1, h2, _⟩ := h k hk
  unfold impl_IsValidLog.f
  rw [h2, Option.bind_some]
  exact ⟨h1, rfl⟩

theorem eqLog_same (x y : ByteArray) (m : Int) : laws_eqLog.f x y m x y m = some true := by unfold laws_eqLog.f; rw [if_pos rfl, if_pos rfl, if_pos rfl]

end Go.Proofs.YtgclcjohnnpejaaDoor.PureL
