/- SyncLog. No program, no memory. -/
import Derived.Test.YtgclcjohnnpejaaDoorPureE
import Derived.Test.YtgclcjohnnpejaaDoorPrx11
import Derived.Test.YtgclcjohnnpejaaDoorPrx13
import Derived.Test.YtgclcjohnnpejaaDoorPrx14
namespace Go.Proofs.YtgclcjohnnpejaaDoor.PureL
open Go.RowKit Go.Proofs.YtgclcjohnnpejaaDoor.Pr Go.Proofs.YtgclcjohnnpejaaDoorW.PrintWords Go.Proofs.YtgclcjohnnpejaaDoorW.PrintLast

theorem eqLog_same (x y : ByteArray) (m : Int) : laws_eqLog.f x y m x y m = some true := by unfold laws_eqLog.f; rw [if_pos rfl, if_pos rfl, if_pos rfl]

theorem sync_eq (a b : ByteArray) (n : Int) (h1 : a.size ≤ 1048576) (h2 : b.size ≤ 1048576) : ∃ r, ∀ k, 30000000 < k → spec_SyncLog.f k a b n = some r ∧ impl_SyncLog.f k a b n = some r := by
  obtain ⟨v, hv0, hv⟩ := valid_eq a b n h1 h2
  refine ⟨if v = true then (a ++ b, ⟨#[]⟩, n, true) else (⟨#[]⟩, ⟨#[]⟩, 0, false), fun k hk => ?_⟩
  obtain ⟨e1, e2⟩ := hv k hk
  unfold spec_SyncLog.f impl_SyncLog.f
  rw [e1, e2, Option.bind_some]
  cases v with
  | true => rw [if_pos rfl, if_pos (by have := hv0 rfl; omega)]; exact ⟨rfl, rfl⟩
  | false => exact ⟨rfl, rfl⟩

theorem FnExactSyncLog (a b : ByteArray) (n : Int) (ha : a.size ≤ 140737488351232) (hb : b.size ≤ 140737488351232) : ∃ k, laws_FnExactSyncLog.f k a b n = some true := by
  refine ⟨40000000, ?_⟩
  obtain ⟨z, hz, hs⟩ := sz_log a b n ha hb
  unfold laws_FnExactSyncLog.f
  rw [hz, Option.bind_some]
  by_cases h : z < 0
  · rw [if_pos h]
  · obtain ⟨h1, h2, _⟩ := hs h
    obtain ⟨r, hr⟩ := sync_eq a b n h1 h2
    obtain ⟨e1, e2⟩ := hr 40000000 (by omega)
    rw [if_neg h]
    unfold laws_toLog.f
    rw [Option.bind_some]
    dsimp only
    rw [e1, Option.bind_some, Option.bind_some]
    dsimp only
    rw [e2, Option.bind_some, eqLog_same, Option.bind_some, if_pos rfl]
    simp
end Go.Proofs.YtgclcjohnnpejaaDoor.PureL
