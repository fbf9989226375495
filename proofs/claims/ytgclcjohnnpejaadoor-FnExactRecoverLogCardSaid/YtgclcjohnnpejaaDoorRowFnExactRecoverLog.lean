/- The law FnExactRecoverLog: whatever the input, the call returns true and the input reads as it did. Out of the walk (YtgclcjohnnpejaaDoorPr) and the plain law (PureL.FnExactRecoverLog). -/
import Derived.Test.YtgclcjohnnpejaaDoorDoor
import Derived.Test.YtgclcjohnnpejaaDoorPrx12
import Derived.Test.YtgclcjohnnpejaaDoorPureD
namespace Go.Proofs.YtgclcjohnnpejaaDoor.fnExactRecoverLog
open Go.ChangeShapes Go.WideShapes Go.ChangeAt Go.RowKit Go.Joins Go.Proofs.YtgclcjohnnpejaaDoor.DoorRow
open Go.ChangeMaps (open_string shut_string)
set_option linter.unusedVariables false
set_option linter.unusedSimpArgs false
set_option maxRecDepth 100000 in
theorem lifted (os : Os) (started : os.Started) (H : Type) (enc : TypeId × Value → H) :
    ReturnsInHanded {} Tryd.checked os 5 .any (fun w args => (Rows.fnExactRecoverLogSpec.pre enc Tryd.prog Tryd.f5 [] false w args ∧ laidMetH Tryd.prog laid3 w) ∧ sizedMet enc Tryd.prog Tryd.f5 (OpenSpec.ofChange Rows.fnExactRecoverLogSpec) false w args) (Rows.fnExactRecoverLogSpec.post enc Tryd.prog Tryd.f5 false true false false) := by
  refine handed_and_shaped (C := Tryd.checked) (X := fun w _ => laidMetH Tryd.prog laid3 w) (fun _ _ _ hh h => h.of_heap hh) own started (by kernel_rfl) Tryd.func5
    (ChangeSpec.witness_shaped (enc := enc) (C := Tryd.checked) (os := os) (X := fun w _ => laidMetH Tryd.prog laid3 w) false (World.doorLaid Tryd.prog 4000 os) #[.string ByteArray.empty] 10 rfl (World.shaped_of_RefB (by kernel_rfl) (by kernel_rfl)) (by kernel_rfl) (by kernel_rfl) (by kernel_rfl) (door_met os _)) ?_
  intro W base args ds gs before hval0 hW hsz0 hL hsh
  have hsz : (DataW.weightsEach Tryd.prog (Tryd.f5.params.toList ++ Rows.fnExactRecoverLogSpec.plain.varTypes Tryd.prog) (ds ++ gs)).all (· ≤ reachBytes) = true := hsz0
  have hval : ∀ (j : Nat) t v, Tryd.f5.params[j]? = some t → args[j]? = some v → Value.okWide Tryd.prog W .any base t v := hval0
  have hW' := hW
  obtain ⟨p, q, hA0, hV, rfl, hfz, hnd⟩ := hW
  have hA : DataW.TrodAll enc Tryd.prog W 0 (fun _ => true) true Tryd.f5.params.toList args.toList ds p := hA0
  rw [Tryd.params5] at hA hval hsz
  obtain ⟨v0, vs0, d0, ds0, p0, q0, hargs, rfl, rfl, h0, r0⟩ := trodAll_cons hA
  obtain ⟨rfl, rfl, rfl⟩ := trodAll_nil r0
  obtain rfl : args = #[v0] := by cases args; simp_all
  obtain ⟨rfl, rfl⟩ := trodVars_none hV
  obtain ⟨a0, rfl, rfl, rfl, y0⟩ := open_string Tryd.underlying9 (hval 0 9 v0 rfl rfl) h0
  have hsz2 : (DataW.weightsEach (H := H) Tryd.prog [9] [.lit (.string a0.data.toList)]).all (· ≤ reachBytes) = true := hsz
  have z0 : a0.size ≤ 140737488351232 := by
    have z := of_decide_eq_true (List.all_eq_true.1 hsz2 a0.data.toList.length (by simp [DataW.weightsEach, DataW.weights, Tryd.underlying9]))
    rw [Array.length_toList] at z
    exact z
  clear hA0 hval0 hsz0 hsz hsz2
  obtain ⟨k, hk⟩ := PureL.FnExactRecoverLog a0 z0
  refine (Pr.laws_FnExactRecoverLog.calls k a0 true W (glob_of hsh hL) hk).mono fun e W' ⟨he, bel⟩ => ?_
  subst he
  exact ⟨_, rfl, _, _, _, [], _, [], hW', trodAll_mk1 (shut_bool Tryd.underlying4 _), (trodAll_cons_mk (shut_string Tryd.underlying9 y0) trodAll_mk0), rfl, bel.frame _, fun h => by cases h⟩
theorem over : Rows.fnExactRecoverLogRow.holds Tryd.pinned (OpenSpec.ofChange Rows.fnExactRecoverLogSpec) :=
  OpenClaim.holds_of_wide 5 Tryd.f5 rfl rfl rfl rfl rfl rfl rfl ⟨rfl, rfl, rfl, rfl, rfl⟩ rfl rfl rfl rfl rfl (by kernel_rfl) Tryd.func5 (by kernel_rfl)
    (of_decide_eq_true (by kernel_rfl)) (by unfold Func.isWrapper; first | (rw [if_pos (by decide +kernel)]; kernel_rfl) | (rw [if_neg (by decide +kernel)]; exact ⟨rfl, rfl⟩))
    (fun os started H enc _ => lifted os started H enc)
theorem card : Rows.FnExactRecoverLogCardSaid :=
  Claim7.holds_tied_plain_at .later [] [.data, .data, .data] true (true, "588911c29e3256162f342bbf0a66d064078ea60574c6c59a88f2d70ea25406ed") true
    over (fun _ h => by cases h) (by kernel_rfl) (fun _ h => by cases h) fnExactRecoverLog_row_tie rfl ⟨rfl, rfl⟩ (by kernel_rfl) rfl
    (fun f fn hf hfn => by
      obtain rfl : f = 5 := Option.some.inj ((show Tryd.prog.funcNamed "loop.example/g01183/laws.FnExactRecoverLog" = some 5 by kernel_rfl).symm.trans hf) |>.symm
      obtain rfl : fn = Tryd.f5 := (Option.some.inj (Tryd.func5.symm.trans hfn)).symm
      exact ⟨by kernel_rfl, fun j t ht => by
        rw [Tryd.params5] at ht
        rcases j with _ | j
        · have h3 : t = 9 := by simpa using ht.symm
          subst h3
          exact (show Tryd.prog.wantsStandIn 9 = false by kernel_rfl)
        · simp at ht⟩)
    (by kernel_rfl)
end Go.Proofs.YtgclcjohnnpejaaDoor.fnExactRecoverLog
namespace Go.Proofs.YtgclcjohnnpejaaDoor
theorem fnExactRecoverLog_holds : Rows.FnExactRecoverLogCardSaid := fnExactRecoverLog.card
#print axioms fnExactRecoverLog_holds
end Go.Proofs.YtgclcjohnnpejaaDoor
