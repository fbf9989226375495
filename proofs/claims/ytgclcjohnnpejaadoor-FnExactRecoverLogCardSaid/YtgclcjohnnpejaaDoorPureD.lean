/- The laws on logs: the program's answers are the reference's. No program, no memory. -/
import Derived.Test.YtgclcjohnnpejaaDoorPureC
import Derived.Test.YtgclcjohnnpejaaDoorPrx10
import Derived.Test.YtgclcjohnnpejaaDoorPrx11
import Derived.Test.YtgclcjohnnpejaaDoorPrx12
namespace Go.Proofs.YtgclcjohnnpejaaDoor.PureL
open Go.RowKit Go.Proofs.YtgclcjohnnpejaaDoor.Pr Go.Proofs.YtgclcjohnnpejaaDoorW.PrintWords Go.Proofs.YtgclcjohnnpejaaDoorW.PrintLast

theorem eqLog_self (a b : ByteArray) (n : Int) : laws_eqLog.f a b n a b n = some true := by
  unfold laws_eqLog.f
  rw [if_pos rfl, if_pos rfl, if_pos rfl]

theorem FnExactRecoverLog (a : ByteArray) (_ha : a.size ≤ 140737488351232) : ∃ k, laws_FnExactRecoverLog.f k a = some true := by
  refine ⟨30000000, ?_⟩
  unfold laws_FnExactRecoverLog.f
  by_cases h : (a.size : Int) > 1048576
  · rw [if_pos h]
  · rw [if_neg h]
    obtain ⟨l, n, hn, _, hr⟩ := read_eq a (by omega)
    obtain ⟨h1, h2⟩ := hr 30000000 (by omega)
    unfold spec_RecoverLog.f impl_RecoverLog.f
    rw [h1, h2]
    by_cases h3 : (a.size : Int) > 30000
    · rw [if_pos h3, Option.bind_some, Option.bind_some, eqLog_self, Option.bind_some, if_pos rfl, if_pos rfl]
      simp
    · rw [if_neg h3, Option.bind_some]
      dsimp only
      rw [if_pos (by omega), if_pos (by omega), Option.bind_some, Option.bind_some]
      dsimp only
      rw [eqLog_self, Option.bind_some, if_pos rfl, if_pos rfl]
      simp
end Go.Proofs.YtgclcjohnnpejaaDoor.PureL
