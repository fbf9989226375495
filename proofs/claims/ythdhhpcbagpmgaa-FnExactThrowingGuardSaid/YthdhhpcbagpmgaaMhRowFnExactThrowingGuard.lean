/- The law FnExactThrowingGuard: whatever the input, the call returns true and the input reads as it did. Out of the walk (YthdhhpcbagpmgaaPr) and the plain law (X). -/
import Derived.Test.YthdhhpcbagpmgaaRows
import Derived.Test.YthdhhpcbagpmgaaMh3
import Derived.WalkKit
import Derived.ProofKit
import Derived.OpenShut
import Derived.ShutString
import Derived.ChangeOld
import Derived.Below
import Derived.SizedLaws
import Derived.Lib.SmallJoins
namespace Go.Proofs.Ythdhhpcbagpmgaa.fnExactThrowingGuard
open Go.ChangeShapes Go.WideShapes Go.ChangeAt Go.RowKit Go.Joins
open Go.ChangeMaps (open_string shut_string)
set_option linter.unusedVariables false
set_option linter.unusedSimpArgs false
theorem own : ownKnob Try.prog.godebug = none := by kernel_rfl
def IsRow (k : IntKind) (w : World) (a : Option Addr) (len cap : Nat) (zs : List Int) : Prop :=
  (a = none ∧ len = 0 ∧ cap = 0 ∧ zs = []) ∨
  ∃ x, a = some x ∧ len ≤ cap ∧ cap ≤ maxLen ∧ zs.length = cap ∧ (∀ i, i < zs.length → w.cell? (x.add i) = some (.int k (zs.getD i 0))) ∧ ∀ n ∈ zs, (Lit.int k n).wf = true
theorem laidOut : laidOutB Try.prog = true := by kernel_rfl
set_option maxRecDepth 100000 in
theorem lifted (os : Os) (started : os.Started) (H : Type) (enc : TypeId × Value → H) :
    ReturnsInHanded {} Try.checked os 10 .any (Rows.fnExactThrowingGuardSpec.pre6 enc Try.prog Try.f10 Rows.fnExactThrowingGuardRow.domain false) (Rows.fnExactThrowingGuardSpec.post enc Try.prog Try.f10 false true false false) := by
  refine returnsInHanded_of_change_sized (C := Try.checked) own started (by kernel_rfl) Try.func10
    (ChangeSpec.witness6 (enc := enc) (C := Try.checked) false ⟨#[], #[.agg #[.slice none 0 0], .int .i64 0], []⟩ 8 (by kernel_rfl) (by kernel_rfl) (by kernel_rfl) (by kernel_rfl)) ?_
  intro W base args ds gs before hval0 hW _ hsz0 _
  have hsz : (DataW.weightsEach Try.prog (Try.f10.params.toList ++ Rows.fnExactThrowingGuardSpec.plain.varTypes Try.prog) (ds ++ gs)).all (· ≤ reachBytes) = true := hsz0
  have hval : ∀ (j : Nat) t v, Try.f10.params[j]? = some t → args[j]? = some v → Value.okWide Try.prog W .any base t v := hval0
  have hW' := hW
  obtain ⟨p, q, hA0, hV, rfl, hfz, hnd⟩ := hW
  have hA : DataW.TrodAll enc Try.prog W 0 (fun _ => true) true Try.f10.params.toList args.toList ds p := hA0
  rw [Try.params10] at hA hval hsz
  obtain ⟨v0, vs0, d0, ds0, p0, q0, hargs, rfl, rfl, h0, r0⟩ := trodAll_cons hA
  obtain ⟨v1, vs1, d1, ds1, p1, q1, rfl, rfl, rfl, h1, r1⟩ := trodAll_cons r0
  obtain ⟨rfl, rfl, rfl⟩ := trodAll_nil r1
  obtain rfl : args = #[v0, v1] := by cases args; simp_all
  obtain ⟨rfl, rfl⟩ := trodVars_none hV
  obtain ⟨cs0, rfl, hn0⟩ := okWide_struct Try.underlying24 (hval 0 24 v0 rfl rfl)
  have k0 := h0
  have lt0 : ∀ x ∈ p0, x.block < W.heap.size := by obtain ⟨m, hm⟩ := k0; exact DataW.trod_lt m _ _ _ hm
  obtain ⟨l0, A0, c0, hcs0, hc0, hr0, hm0, hg0⟩ : ∃ (l : List (List Pr.S69)) (A : Option Addr) (c : Nat), cs0 = #[.slice A l.length c] ∧ l.length ≤ c ∧ Go.Proofs.YthdhhpcbagpmgaaW.PrintWords.Kd.C (Go.Proofs.YthdhhpcbagpmgaaW.PrintWords.Kd.slice 69 Pr.k69) W A l.length l ∧ l.length ≤ maxLen ∧ ∀ b ∈ l, b.length ≤ maxLen := by
    obtain ⟨fuel, hf⟩ := h0
    obtain ⟨l, A, c, hcs, hc, hr, hm, hg⟩ := PureL.open_program hf
    refine ⟨l, A, c, ?_, hc, hr, hm, fun b hb => (hg b hb).1⟩
    have hcs' : cs0.toList = [.slice A l.length c] := hcs
    exact Array.toList_inj.1 hcs'
  subst hcs0
  obtain ⟨a1, rfl, rfl, rfl, w1⟩ := open_int Try.underlying3 (hval 1 3 v1 rfl rfl) h1
  clear hA0 hval0 hsz0 hsz
  refine (PureL.FnExactThrowingGuard A0 c0 l0 a1 W hr0 hc0 (fun b hb => Nat.le_trans (hg0 b hb) (by simp only [maxLen]; decide)) (Nat.le_trans hm0 (by simp only [maxLen]; decide))).mono fun e W' ⟨he, bel⟩ => ?_
  subst he
  exact ⟨_, rfl, _, _, _, [], _, [], hW', trodAll_mk1 (shut_bool Try.underlying4 _), (trodAll_cons_mk (Below.trod laidOut (by kernel_rfl) (of_decide_eq_true (by kernel_rfl)) k0 bel lt0) (trodAll_cons_mk (shut_int Try.underlying3 w1) trodAll_mk0)), rfl, bel.frame _, fun h => by cases h⟩
theorem over : Rows.fnExactThrowingGuardRow.holds Try.pinned (OpenSpec.ofChange Rows.fnExactThrowingGuardSpec) :=
  OpenClaim.holds_of_wide 10 Try.f10 rfl rfl rfl rfl rfl rfl rfl ⟨rfl, rfl, rfl, rfl, rfl⟩ rfl rfl rfl rfl rfl (by kernel_rfl) Try.func10 (by kernel_rfl)
    (of_decide_eq_true (by kernel_rfl)) (by unfold Func.isWrapper; first | (rw [if_pos (by decide +kernel)]; kernel_rfl) | (rw [if_neg (by decide +kernel)]; exact ⟨rfl, rfl⟩))
    (fun os started H enc _ => lifted os started H enc)
end Go.Proofs.Ythdhhpcbagpmgaa.fnExactThrowingGuard
namespace Go.Proofs.Ythdhhpcbagpmgaa
theorem fnExactThrowingGuard_holds : Rows.FnExactThrowingGuardSaid := fnExactThrowingGuard.over
#print axioms fnExactThrowingGuard_holds
end Go.Proofs.Ythdhhpcbagpmgaa
