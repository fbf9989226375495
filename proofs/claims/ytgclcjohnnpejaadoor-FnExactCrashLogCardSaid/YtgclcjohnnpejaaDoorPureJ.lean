/- CrashLog. No program, no memory. -/
import Derived.Test.YtgclcjohnnpejaaDoorPureE
import Derived.Test.YtgclcjohnnpejaaDoorCrashW
import Derived.Test.YtgclcjohnnpejaaDoorPrx3
import Derived.Test.YtgclcjohnnpejaaDoorPrx33
import Derived.Test.YtgclcjohnnpejaaDoorPrx8
set_option linter.unusedVariables false
set_option linter.unusedSimpArgs false
namespace Go.Proofs.YtgclcjohnnpejaaDoor.PureL
open Go.RowKit Go.Proofs.YtgclcjohnnpejaaDoor.Pr Go.Proofs.YtgclcjohnnpejaaDoorW.PrintWords Go.Proofs.YtgclcjohnnpejaaDoorW.PrintLast

theorem in_eq (x y : Int) : ∃ b, spec_l1In.f x 0 y = some b ∧ impl_in.f x 0 y = some b ∧ (b = true → 0 ≤ x ∧ x ≤ y) := by
  unfold spec_l1In.f impl_in.f
  by_cases h : 0 ≤ x
  · rw [if_pos (by omega)]
    exact ⟨_, rfl, rfl, fun hb => ⟨h, of_decide_eq_true hb⟩⟩
  · rw [if_neg (by omega)]
    exact ⟨_, rfl, rfl, fun hb => by cases hb⟩

theorem bytesOf_L (s : ByteArray) : bytesOf s = (L s).map fun b => (b.toNat : Int) := rfl
theorem L_strOf (l : List Int) : L (Go.strOfNums l) = l.map fun n => UInt8.ofNat n.toNat := Go.strOfNums_data l
theorem strOf_bytes (s : ByteArray) : Go.strOfNums (bytesOf s) = s := by
  apply ext_L
  rw [L_strOf, bytesOf_L, List.map_map]
  have : ∀ l : List UInt8, l.map ((fun n : Int => UInt8.ofNat n.toNat) ∘ fun b : UInt8 => (b.toNat : Int)) = l := by
    intro l
    induction l with
    | nil => rfl
    | cons b l ih => rw [List.map_cons, ih]; simp
  exact this _

theorem bt_append (a s : ByteArray) (i : Nat) (h : i < s.size) : bt (a ++ s) ((a.size + i : Nat) : Int) = bt s (i : Int) := by
  have h1 : a.size + i < (L (a ++ s)).length := by rw [L_append, List.length_append, ← size_L, ← size_L]; omega
  have h2 : i < (L s).length := by rw [← size_L]; exact h
  rw [bt_get _ _ h1, bt_get _ _ h2]
  congr 2
  simp only [L_append]
  rw [List.getElem_append_right (by rw [← size_L]; omega)]
  congr 1
  rw [← size_L]
  omega

theorem crashed_append (a s : ByteArray) (t m : Bool) (h : m = true → 0 < s.size) : crashed (a ++ s) t m = a ++ crashed s t m := by
  unfold crashed
  cases hb : (t && m) with
  | false => simp only [Bool.false_eq_true, if_false]; rw [strOf_bytes, strOf_bytes]
  | true =>
    have hm : m = true := by cases t <;> cases m <;> simp_all
    have hs := h hm
    simp only [if_true]
    unfold tornL
    have hsz : (a ++ s).size = a.size + s.size := by rw [size_L, L_append, List.length_append, ← size_L, ← size_L]
    rw [hsz, show a.size + s.size - 1 = a.size + (s.size - 1) by omega, bt_append a s (s.size - 1) (by omega)]
    apply ext_L
    rw [L_append, L_strOf, L_strOf, bytesOf_L, L_append, List.map_append, List.set_append_right _ _ (by rw [List.length_map, ← size_L]; omega), List.length_map, ← size_L, show a.size + (s.size - 1) - a.size = s.size - 1 by omega, List.map_append]
    congr 1
    have := congrArg L (strOf_bytes a)
    rw [L_strOf, bytesOf_L] at this
    exact this

theorem crashed_size (s : ByteArray) (t m : Bool) : (crashed s t m).size = s.size := by
  unfold crashed tornL
  split
  · rw [Go.strOfNums_size, List.length_set, bytesOf_length]
  · rw [Go.strOfNums_size, bytesOf_length]

theorem crash_eq (a b : ByteArray) (n keep : Int) (t : Bool) (ha : a.size ≤ 1048576) (hb : b.size ≤ 1048576) : ∃ r v, ∀ k, 40000000 < k → spec_CrashLog.f k a b n keep t = some (r, v) ∧ impl_CrashLog.f k a b n keep t = some (r, v) := by
  obtain ⟨v, hv0, hv⟩ := valid_eq a b n ha hb
  obtain ⟨d, d1, d2, d3⟩ := in_eq keep (b.size : Int)
  have hS : ∀ k, 40000000 < k → spec_CrashLog.f k a b n keep t = spec_CrashLog.j0 k keep (!(v && d)) a b n t ∧ impl_CrashLog.f k a b n keep t = impl_CrashLog.j0 k keep (!(v && d)) a b n t := fun k hk => by
    obtain ⟨e1, e2⟩ := hv k (by omega)
    unfold spec_CrashLog.f impl_CrashLog.f
    rw [e1, e2, d1, d2]
    cases v <;> exact ⟨rfl, rfl⟩
  cases hvd : (v && d) with
  | false =>
    refine ⟨⟨#[]⟩, false, fun k hk => ?_⟩
    rw [(hS k hk).1, (hS k hk).2, hvd]
    obtain ⟨k, rfl⟩ : ∃ z, k = z + 1 := ⟨k - 1, by omega⟩
    rw [spec_CrashLog.j0, impl_CrashLog.j0]
    exact ⟨rfl, rfl⟩
  | true =>
    obtain ⟨q0, q1⟩ := d3 (by cases v <;> cases d <;> simp_all)
    have hx : (b.extract 0 keep.toNat).size = keep.toNat := by rw [ByteArray.size_extract]; omega
    have hc : crashed (a ++ b.extract 0 keep.toNat) t (decide (keep > 0)) = a ++ crashed (b.extract 0 keep.toNat) t (decide (keep > 0)) := crashed_append _ _ _ _ (fun h => by have := of_decide_eq_true h; rw [hx]; omega)
    refine ⟨a ++ crashed (b.extract 0 keep.toNat) t (decide (keep > 0)), true, fun k hk => ?_⟩
    rw [(hS k hk).1, (hS k hk).2, hvd]
    obtain ⟨k, rfl⟩ : ∃ z, k = z + 1 := ⟨k - 1, by omega⟩
    rw [spec_CrashLog.j0, impl_CrashLog.j0]
    have nt : ¬ (!true) = true := by simp
    rw [if_neg nt, if_neg nt, if_pos q0, if_pos q0, if_pos q1, if_pos q1, crashed_size, if_pos (by rw [hx]; omega), hc, if_pos (by rw [hx]; omega)]
    exact ⟨rfl, rfl⟩

theorem FnExactCrashLog (a b : ByteArray) (n keep : Int) (t : Bool) (ha : a.size ≤ 140737488351232) (hb : b.size ≤ 140737488351232) : ∃ k, laws_FnExactCrashLog.f k a b n keep t = some true := by
  refine ⟨50000000, ?_⟩
  obtain ⟨z, hz, hs⟩ := sz_log a b n ha hb
  unfold laws_FnExactCrashLog.f
  rw [hz, Option.bind_some]
  by_cases h : z < 0
  · rw [if_pos h]
  · obtain ⟨h1, h2, _⟩ := hs h
    obtain ⟨r, v, hr⟩ := crash_eq a b n keep t h1 h2
    obtain ⟨e1, e2⟩ := hr 50000000 (by omega)
    rw [if_neg h]
    unfold laws_toLog.f
    rw [Option.bind_some]
    dsimp only
    rw [e1, Option.bind_some, Option.bind_some]
    dsimp only
    rw [e2, Option.bind_some]
    simp
end Go.Proofs.YtgclcjohnnpejaaDoor.PureL
