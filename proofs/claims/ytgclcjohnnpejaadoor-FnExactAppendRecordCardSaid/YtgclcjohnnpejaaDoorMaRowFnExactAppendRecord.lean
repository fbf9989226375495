/- The law FnExactAppendRecord: whatever the input, the call returns true and the input reads as it did. Out of the walk (YtgclcjohnnpejaaDoorPr) and the plain law (PureL.FnExactAppendRecord). -/
import Derived.Test.YtgclcjohnnpejaaDoorMa2
import Derived.Test.YtgclcjohnnpejaaDoorMa6
namespace Go.Proofs.YtgclcjohnnpejaaDoor.fnExactAppendRecord
open Go.ChangeShapes Go.WideShapes Go.ChangeAt Go.RowKit Go.Joins Go.Proofs.YtgclcjohnnpejaaDoor.DoorRow
open Go.ChangeMaps (open_string shut_string)
set_option linter.unusedVariables false
set_option linter.unusedSimpArgs false
set_option maxRecDepth 100000 in
theorem lifted (os : Os) (started : os.Started) (H : Type) (enc : TypeId × Value → H) :
    ReturnsInHanded {} Tryd.checked os 9 .any (fun w args => (Rows.fnExactAppendRecordSpec.pre enc Tryd.prog Tryd.f9 [] false w args ∧ laidMetH Tryd.prog laid3 w) ∧ sizedMet enc Tryd.prog Tryd.f9 (OpenSpec.ofChange Rows.fnExactAppendRecordSpec) false w args) (Rows.fnExactAppendRecordSpec.post enc Tryd.prog Tryd.f9 false true false false) := by
  refine handed_and_shaped (C := Tryd.checked) (X := fun w _ => laidMetH Tryd.prog laid3 w) (fun _ _ _ hh h => h.of_heap hh) own started (by kernel_rfl) Tryd.func9
    (ChangeSpec.witness_shaped (enc := enc) (C := Tryd.checked) (os := os) (X := fun w _ => laidMetH Tryd.prog laid3 w) false (World.doorLaid Tryd.prog 4000 os) #[.agg #[.string ByteArray.empty, .string ByteArray.empty, .int .i64 0], .agg #[.string ByteArray.empty, .string ByteArray.empty]] 10 rfl (World.shaped_of_RefB (by kernel_rfl) (by kernel_rfl)) (by kernel_rfl) (by kernel_rfl) (by kernel_rfl) (door_met os _)) ?_
  intro W base args ds gs before hval0 hW hsz0 hL hsh
  have hsz : (DataW.weightsEach Tryd.prog (Tryd.f9.params.toList ++ Rows.fnExactAppendRecordSpec.plain.varTypes Tryd.prog) (ds ++ gs)).all (· ≤ reachBytes) = true := hsz0
  have hval : ∀ (j : Nat) t v, Tryd.f9.params[j]? = some t → args[j]? = some v → Value.okWide Tryd.prog W .any base t v := hval0
  have hW' := hW
  obtain ⟨p, q, hA0, hV, rfl, hfz, hnd⟩ := hW
  have hA : DataW.TrodAll enc Tryd.prog W 0 (fun _ => true) true Tryd.f9.params.toList args.toList ds p := hA0
  rw [Tryd.params9] at hA hval hsz
  obtain ⟨v0, vs0, d0, ds0, p0, q0, hargs, rfl, rfl, h0, r0⟩ := trodAll_cons hA
  obtain ⟨v1, vs1, d1, ds1, p1, q1, rfl, rfl, rfl, h1, r1⟩ := trodAll_cons r0
  obtain ⟨rfl, rfl, rfl⟩ := trodAll_nil r1
  obtain rfl : args = #[v0, v1] := by cases args; simp_all
  obtain ⟨rfl, rfl⟩ := trodVars_none hV
  obtain ⟨c0_0, c0_1, c0_2, y0_0, y0_1, y0_2, m0, rfl, rfl, rfl, hy0_0, hy0_1, hy0_2⟩ := open_agg3 Tryd.underlying47 (by kernel_rfl) (by kernel_rfl) (hval 0 47 v0 rfl rfl) h0
  obtain ⟨a0_0, e0_0, rfl, y0_0⟩ := DataW.trod_string Tryd.underlying9 hy0_0
  simp at e0_0
  subst e0_0
  obtain ⟨a0_1, e0_1, rfl, y0_1⟩ := DataW.trod_string Tryd.underlying9 hy0_1
  simp at e0_1
  subst e0_1
  obtain ⟨a0_2, e0_2, rfl, w0_2⟩ := DataW.trod_int Tryd.underlying3 hy0_2
  simp at e0_2
  subst e0_2
  obtain ⟨c1_0, c1_1, y1_0, y1_1, m1, rfl, rfl, rfl, hy1_0, hy1_1⟩ := open_agg2 Tryd.underlying35 (by kernel_rfl) (by kernel_rfl) (hval 1 35 v1 rfl rfl) h1
  obtain ⟨a1_0, e1_0, rfl, y1_0⟩ := DataW.trod_string Tryd.underlying9 hy1_0
  simp at e1_0
  subst e1_0
  obtain ⟨a1_1, e1_1, rfl, y1_1⟩ := DataW.trod_string Tryd.underlying9 hy1_1
  simp at e1_1
  subst e1_1
  have hsz2 : (DataW.weightsEach (H := H) Tryd.prog [47, 35] [.agg [.lit (.string a0_0.data.toList), .lit (.string a0_1.data.toList), .lit (.int .i64 a0_2)], .agg [.lit (.string a1_0.data.toList), .lit (.string a1_1.data.toList)]]).all (· ≤ reachBytes) = true := hsz
  have z0_0 : a0_0.size ≤ 140737488351232 := by
    have z := of_decide_eq_true (List.all_eq_true.1 hsz2 a0_0.data.toList.length (by simp [DataW.weightsEach, DataW.weights, Tryd.underlying3, Tryd.underlying35, Tryd.underlying47, Tryd.underlying9]))
    rw [Array.length_toList] at z
    exact z
  have z0_1 : a0_1.size ≤ 140737488351232 := by
    have z := of_decide_eq_true (List.all_eq_true.1 hsz2 a0_1.data.toList.length (by simp [DataW.weightsEach, DataW.weights, Tryd.underlying3, Tryd.underlying35, Tryd.underlying47, Tryd.underlying9]))
    rw [Array.length_toList] at z
    exact z
  have z1_0 : a1_0.size ≤ 140737488351232 := by
    have z := of_decide_eq_true (List.all_eq_true.1 hsz2 a1_0.data.toList.length (by simp [DataW.weightsEach, DataW.weights, Tryd.underlying3, Tryd.underlying35, Tryd.underlying47, Tryd.underlying9]))
    rw [Array.length_toList] at z
    exact z
  have z1_1 : a1_1.size ≤ 140737488351232 := by
    have z := of_decide_eq_true (List.all_eq_true.1 hsz2 a1_1.data.toList.length (by simp [DataW.weightsEach, DataW.weights, Tryd.underlying3, Tryd.underlying35, Tryd.underlying47, Tryd.underlying9]))
    rw [Array.length_toList] at z
    exact z
  clear hA0 hval0 hsz0 hsz hsz2
  obtain ⟨k, hk⟩ := PureL.FnExactAppendRecord a0_0 a0_1 a0_2 a1_0 a1_1 z0_0 z0_1 z1_0 z1_1
  refine (Pr.laws_FnExactAppendRecord.calls k a0_0 a0_1 a0_2 a1_0 a1_1 true W (glob_of hsh hL) rfl hk).mono fun e W' ⟨he, bel⟩ => ?_
  subst he
  exact ⟨_, rfl, _, _, _, [], _, [], hW', trodAll_mk1 (shut_bool Tryd.underlying4 _), (trodAll_cons_mk (shut_agg3 (y0 := (.lit (.string a0_0.data.toList), [])) (y1 := (.lit (.string a0_1.data.toList), [])) (y2 := (.lit (.int .i64 a0_2), [])) Tryd.underlying47 (by kernel_rfl) (by kernel_rfl) (field_of_Trod (shut_string Tryd.underlying9 y0_0) rfl) (field_of_Trod (shut_string Tryd.underlying9 y0_1) rfl) (field_of_Trod (shut_int Tryd.underlying3 w0_2) rfl)) (trodAll_cons_mk (shut_agg2 (y0 := (.lit (.string a1_0.data.toList), [])) (y1 := (.lit (.string a1_1.data.toList), [])) Tryd.underlying35 (by kernel_rfl) (by kernel_rfl) (field_of_Trod (shut_string Tryd.underlying9 y1_0) rfl) (field_of_Trod (shut_string Tryd.underlying9 y1_1) rfl)) trodAll_mk0)), rfl, bel.frame _, fun h => by cases h⟩
theorem over : Rows.fnExactAppendRecordRow.holds Tryd.pinned (OpenSpec.ofChange Rows.fnExactAppendRecordSpec) :=
  OpenClaim.holds_of_wide 9 Tryd.f9 rfl rfl rfl rfl rfl rfl rfl ⟨rfl, rfl, rfl, rfl, rfl⟩ rfl rfl rfl rfl rfl (by kernel_rfl) Tryd.func9 (by kernel_rfl)
    (of_decide_eq_true (by kernel_rfl)) (by unfold Func.isWrapper; first | (rw [if_pos (by decide +kernel)]; kernel_rfl) | (rw [if_neg (by decide +kernel)]; exact ⟨rfl, rfl⟩))
    (fun os started H enc _ => lifted os started H enc)
theorem card : Rows.FnExactAppendRecordCardSaid :=
  Claim7.holds_tied_plain_at .later [] [.data, .data, .data] true (true, "588911c29e3256162f342bbf0a66d064078ea60574c6c59a88f2d70ea25406ed") true
    over (fun _ h => by cases h) (by kernel_rfl) (fun _ h => by cases h) fnExactAppendRecord_row_tie rfl ⟨rfl, rfl⟩ (by kernel_rfl) rfl
    (fun f fn hf hfn => by
      obtain rfl : f = 9 := Option.some.inj ((show Tryd.prog.funcNamed "loop.example/g01183/laws.FnExactAppendRecord" = some 9 by kernel_rfl).symm.trans hf) |>.symm
      obtain rfl : fn = Tryd.f9 := (Option.some.inj (Tryd.func9.symm.trans hfn)).symm
      exact ⟨by kernel_rfl, fun j t ht => by
        rw [Tryd.params9] at ht
        rcases j with _ | _ | j
        · have h3 : t = 47 := by simpa using ht.symm
          subst h3
          exact (show Tryd.prog.wantsStandIn 47 = false by kernel_rfl)
        · have h3 : t = 35 := by simpa using ht.symm
          subst h3
          exact (show Tryd.prog.wantsStandIn 35 = false by kernel_rfl)
        · simp at ht⟩)
    (by kernel_rfl)
end Go.Proofs.YtgclcjohnnpejaaDoor.fnExactAppendRecord
namespace Go.Proofs.YtgclcjohnnpejaaDoor
theorem fnExactAppendRecord_holds : Rows.FnExactAppendRecordCardSaid := fnExactAppendRecord.card
#print axioms fnExactAppendRecord_holds
end Go.Proofs.YtgclcjohnnpejaaDoor
