/- The law FnExactIsValidConsole: whatever the input, the call returns true and the input reads as it did. Out of the walk (YthdhhpcbagpmgaaDoorPr) and the plain law (PureL.FnExactIsValidConsole). -/
import Derived.Test.YthdhhpcbagpmgaaDoorKc2
import Derived.Test.YthdhhpcbagpmgaaDoorKc7
namespace Go.Proofs.YthdhhpcbagpmgaaDoor.fnExactIsValidConsole
open Go.ChangeShapes Go.WideShapes Go.ChangeAt Go.RowKit Go.Joins Go.Proofs.YthdhhpcbagpmgaaDoor.DoorRow
open Go.ChangeMaps (open_string shut_string)
set_option linter.unusedVariables false
set_option linter.unusedSimpArgs false
def IsRow (k : IntKind) (w : World) (a : Option Addr) (len cap : Nat) (zs : List Int) : Prop :=
  (a = none ∧ len = 0 ∧ cap = 0 ∧ zs = []) ∨
  ∃ x, a = some x ∧ len ≤ cap ∧ cap ≤ maxLen ∧ zs.length = cap ∧ (∀ i, i < zs.length → w.cell? (x.add i) = some (.int k (zs.getD i 0))) ∧ ∀ n ∈ zs, (Lit.int k n).wf = true
theorem laidOut : laidOutB Tryd.prog = true := by kernel_rfl
set_option maxRecDepth 100000 in
theorem lifted (os : Os) (started : os.Started) (H : Type) (enc : TypeId × Value → H) :
    ReturnsInHanded {} Tryd.checked os 3 .any (fun w args => (Rows.fnExactIsValidConsoleSpec.pre enc Tryd.prog Tryd.f3 [] false w args ∧ laidMetH Tryd.prog laid3 w) ∧ sizedMet enc Tryd.prog Tryd.f3 (OpenSpec.ofChange Rows.fnExactIsValidConsoleSpec) false w args) (Rows.fnExactIsValidConsoleSpec.post enc Tryd.prog Tryd.f3 false true false false) := by
  refine handed_and_shaped (C := Tryd.checked) (X := fun w _ => laidMetH Tryd.prog laid3 w) (fun _ _ _ hh h => h.of_heap hh) own started (by kernel_rfl) Tryd.func3
    (ChangeSpec.witness_shaped (enc := enc) (C := Tryd.checked) (os := os) (X := fun w _ => laidMetH Tryd.prog laid3 w) false (World.doorLaid Tryd.prog 4000 os) #[.agg #[.slice none 0 0, .int .i64 0, .int .i64 0, .string ByteArray.empty, .string ByteArray.empty, .int .i64 0]] 10 rfl (World.shaped_of_RefB (by kernel_rfl) (by kernel_rfl)) (by kernel_rfl) (by kernel_rfl) (by kernel_rfl) (door_met os _)) ?_
  intro W base args ds gs before hval0 hW hsz0 hL hsh
  have hsz : (DataW.weightsEach Tryd.prog (Tryd.f3.params.toList ++ Rows.fnExactIsValidConsoleSpec.plain.varTypes Tryd.prog) (ds ++ gs)).all (· ≤ reachBytes) = true := hsz0
  have hval : ∀ (j : Nat) t v, Tryd.f3.params[j]? = some t → args[j]? = some v → Value.okWide Tryd.prog W .any base t v := hval0
  have hW' := hW
  obtain ⟨p, q, hA0, hV, rfl, hfz, hnd⟩ := hW
  have hA : DataW.TrodAll enc Tryd.prog W 0 (fun _ => true) true Tryd.f3.params.toList args.toList ds p := hA0
  rw [Tryd.params3] at hA hval hsz
  obtain ⟨v0, vs0, d0, ds0, p0, q0, hargs, rfl, rfl, h0, r0⟩ := trodAll_cons hA
  obtain ⟨rfl, rfl, rfl⟩ := trodAll_nil r0
  obtain rfl : args = #[v0] := by cases args; simp_all
  obtain ⟨rfl, rfl⟩ := trodVars_none hV
  obtain ⟨cs0, rfl, hn0⟩ := okWide_struct Tryd.underlying30 (hval 0 30 v0 rfl rfl)
  have k0 := h0
  have lt0 : ∀ x ∈ p0, x.block < W.heap.size := by obtain ⟨m, hm⟩ := k0; exact DataW.trod_lt m _ _ _ hm
  obtain ⟨l0, A0, c0, u0, v0_, sa0, sb0, n0, hcs0, hc0, hr0, zl0, zb0, zsa0, zsb0⟩ : ∃ (l : List (List Pr.S99)) (A : Option Addr) (c : Nat) (u v : Int) (a b : ByteArray) (n : Int), cs0 = #[.slice A l.length c, .int .i64 u, .int .i64 v, .string a, .string b, .int .i64 n] ∧ l.length ≤ c ∧ Go.Proofs.YthdhhpcbagpmgaaDoorW.PrintWords.Kd.C (Go.Proofs.YthdhhpcbagpmgaaDoorW.PrintWords.Kd.slice 99 Pr.k99) W A l.length l ∧ l.length ≤ 9223372036854775807 ∧ (∀ b ∈ l, b.length ≤ 9223372036854775807) ∧ a.size ≤ 140737488351232 ∧ b.size ≤ 140737488351232 := by
    obtain ⟨fuel, hf⟩ := h0
    obtain ⟨l, A, c, u, v, a, b, n, xb, hcs, hc, hr, hm, hg, hx⟩ := PureL.open_console hf
    have hx' : d0 = .agg [xb, .agg [.lit (.string a.data.toList), .lit (.string b.data.toList), .lit (.int .i64 n)]] := hx
    subst hx'
    have hsz2 : (DataW.weightsEach (H := H) Tryd.prog [30] [.agg [xb, .agg [.lit (.string a.data.toList), .lit (.string b.data.toList), .lit (.int .i64 n)]]]).all (· ≤ reachBytes) = true := hsz
    have hcs' : cs0.toList = [.slice A l.length c, .int .i64 u, .int .i64 v, .string a, .string b, .int .i64 n] := hcs
    refine ⟨l, A, c, u, v, a, b, n, Array.toList_inj.1 hcs', hc, hr, Nat.le_trans hm (by simp only [maxLen]; decide), fun b hb => Nat.le_trans (hg b hb) (by simp only [maxLen]; decide), ?_, ?_⟩
    · have z := of_decide_eq_true (List.all_eq_true.1 hsz2 a.data.toList.length (by simp [DataW.weightsEach, DataW.weights, Tryd.underlying30, Tryd.underlying26, Tryd.underlying28, Tryd.underlying24, Tryd.underlying3, Tryd.underlying3, Tryd.underlying9, Tryd.underlying9, Tryd.underlying3]))
      rw [Array.length_toList] at z
      exact z
    · have z := of_decide_eq_true (List.all_eq_true.1 hsz2 b.data.toList.length (by simp [DataW.weightsEach, DataW.weights, Tryd.underlying30, Tryd.underlying26, Tryd.underlying28, Tryd.underlying24, Tryd.underlying3, Tryd.underlying3, Tryd.underlying9, Tryd.underlying9, Tryd.underlying3]))
      rw [Array.length_toList] at z
      exact z
  subst hcs0
  clear hA0 hval0 hsz0 hsz
  obtain ⟨k, hk⟩ := PureL.FnExactIsValidConsole l0 u0 v0_ sa0 sb0 n0 zb0 zl0 zsa0 zsb0
  refine (Pr.laws_FnExactIsValidConsole.calls k _ _ l0 u0 v0_ sa0 sb0 n0 true W hr0 hc0 (glob_of hsh hL) hk).mono fun e W' ⟨he, bel⟩ => ?_
  subst he
  exact ⟨_, rfl, _, _, _, [], _, [], hW', trodAll_mk1 (shut_bool Tryd.underlying4 _), (trodAll_cons_mk (Below.trod laidOut (by kernel_rfl) (of_decide_eq_true (by kernel_rfl)) k0 bel lt0) trodAll_mk0), rfl, bel.frame _, fun h => by cases h⟩
theorem over : Rows.fnExactIsValidConsoleRow.holds Tryd.pinned (OpenSpec.ofChange Rows.fnExactIsValidConsoleSpec) :=
  OpenClaim.holds_of_wide 3 Tryd.f3 rfl rfl rfl rfl rfl rfl rfl ⟨rfl, rfl, rfl, rfl, rfl⟩ rfl rfl rfl rfl rfl (by kernel_rfl) Tryd.func3 (by kernel_rfl)
    (of_decide_eq_true (by kernel_rfl)) (by unfold Func.isWrapper; first | (rw [if_pos (by decide +kernel)]; kernel_rfl) | (rw [if_neg (by decide +kernel)]; exact ⟨rfl, rfl⟩))
    (fun os started H enc _ => lifted os started H enc)
theorem card : Rows.FnExactIsValidConsoleCardSaid :=
  Claim7.holds_tied_plain_at .later [] [.data, .data, .data] true (true, "15f0d8af4fe488f7835e0805b3fc0a454d0ddb4cef2946dbb3e14f87afb0a83e") false
    over (fun _ h => by cases h) (by kernel_rfl) (fun _ h => by cases h) fnExactIsValidConsole_row_tie rfl ⟨rfl, rfl⟩ (by kernel_rfl) rfl
    (fun f fn hf hfn => by
      obtain rfl : f = 3 := Option.some.inj ((show Tryd.prog.funcNamed "loop.example/g01183/laws.FnExactIsValidConsole" = some 3 by kernel_rfl).symm.trans hf) |>.symm
      obtain rfl : fn = Tryd.f3 := (Option.some.inj (Tryd.func3.symm.trans hfn)).symm
      exact ⟨by kernel_rfl, fun j t ht => by
        rw [Tryd.params3] at ht
        rcases j with _ | j
        · have h3 : t = 30 := by simpa using ht.symm
          subst h3
          exact (show Tryd.prog.wantsStandIn 30 = false by kernel_rfl)
        · simp at ht⟩)
    (by kernel_rfl)
end Go.Proofs.YthdhhpcbagpmgaaDoor.fnExactIsValidConsole
namespace Go.Proofs.YthdhhpcbagpmgaaDoor
theorem fnExactIsValidConsole_holds : Rows.FnExactIsValidConsoleCardSaid := fnExactIsValidConsole.card
#print axioms fnExactIsValidConsole_holds
end Go.Proofs.YthdhhpcbagpmgaaDoor
