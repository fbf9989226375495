/- The law FnExactRunBench: whatever the input, the call returns true and the input reads as it did. Out of the walk (YteiafboknimgbaaPr) and the plain law (Pr). -/
import Derived.Test.YteiafboknimgbaaRows
import Derived.Test.YteiafboknimgbaaMa24
import Derived.ProofKit
import Derived.OpenShut
import Derived.ShutString
import Derived.ChangeOld
import Derived.SizedLaws
import Derived.Lib.SmallJoins
namespace Go.Proofs.Yteiafboknimgbaa.fnExactRunBench
open Go.ChangeShapes Go.WideShapes Go.ChangeAt Go.RowKit Go.Joins
open Go.ChangeMaps (open_string shut_string)
set_option linter.unusedVariables false
set_option linter.unusedSimpArgs false
theorem own : ownKnob Try.prog.godebug = none := by kernel_rfl
def IsRow (k : IntKind) (w : World) (a : Option Addr) (len cap : Nat) (zs : List Int) : Prop :=
  (a = none ∧ len = 0 ∧ cap = 0 ∧ zs = []) ∨
  ∃ x, a = some x ∧ len ≤ cap ∧ cap ≤ maxLen ∧ zs.length = cap ∧ (∀ i, i < zs.length → w.cell? (x.add i) = some (.int k (zs.getD i 0))) ∧ ∀ n ∈ zs, (Lit.int k n).wf = true
theorem laidOut : laidOutB Try.prog = true := by kernel_rfl
set_option maxRecDepth 100000 in
theorem lifted (os : Os) (started : os.Started) (H : Type) (enc : TypeId × Value → H) :
    ReturnsInHanded {} Try.checked os 3 .any (Rows.fnExactRunBenchSpec.pre6 enc Try.prog Try.f3 Rows.fnExactRunBenchRow.domain false) (Rows.fnExactRunBenchSpec.post enc Try.prog Try.f3 false true false false) := by
  refine returnsInHanded_of_change_sized (C := Try.checked) own started (by kernel_rfl) Try.func3
    (ChangeSpec.witness6 (enc := enc) (C := Try.checked) false ⟨#[], #[.agg #[.slice none 0 0, .int .i64 0, .int .i64 0], .int .i64 0, .int .i64 0], []⟩ 8 (by kernel_rfl) (by kernel_rfl) (by kernel_rfl) (by kernel_rfl)) ?_
  intro W base args ds gs before hval0 hW _ hsz0 _
  have hsz : (DataW.weightsEach Try.prog (Try.f3.params.toList ++ Rows.fnExactRunBenchSpec.plain.varTypes Try.prog) (ds ++ gs)).all (· ≤ reachBytes) = true := hsz0
  have hval : ∀ (j : Nat) t v, Try.f3.params[j]? = some t → args[j]? = some v → Value.okWide Try.prog W .any base t v := hval0
  have hW' := hW
  obtain ⟨p, q, hA0, hV, rfl, hfz, hnd⟩ := hW
  have hA : DataW.TrodAll enc Try.prog W 0 (fun _ => true) true Try.f3.params.toList args.toList ds p := hA0
  rw [Try.params3] at hA hval hsz
  obtain ⟨v0, vs0, d0, ds0, p0, q0, hargs, rfl, rfl, h0, r0⟩ := trodAll_cons hA
  obtain ⟨v1, vs1, d1, ds1, p1, q1, rfl, rfl, rfl, h1, r1⟩ := trodAll_cons r0
  obtain ⟨v2, vs2, d2, ds2, p2, q2, rfl, rfl, rfl, h2, r2⟩ := trodAll_cons r1
  obtain ⟨rfl, rfl, rfl⟩ := trodAll_nil r2
  obtain rfl : args = #[v0, v1, v2] := by cases args; simp_all
  obtain ⟨rfl, rfl⟩ := trodVars_none hV
  obtain ⟨cs0, rfl, hn0⟩ := okWide_struct Try.underlying26 (hval 0 26 v0 rfl rfl)
  have k0 := h0
  have lt0 : ∀ x ∈ p0, x.block < W.heap.size := by obtain ⟨m, hm⟩ := k0; exact DataW.trod_lt m _ _ _ hm
  obtain ⟨l0, A0, c0, u0, v0_, hcs0, hc0, hr0, hm0, hg0⟩ : ∃ (l : List (List Pr.S295)) (A : Option Addr) (c : Nat) (u v : Int), cs0 = #[.slice A l.length c, .int .i64 u, .int .i64 v] ∧ l.length ≤ c ∧ Go.Proofs.W.PrintWords.Kd.C (Go.Proofs.W.PrintWords.Kd.slice 295 Pr.k295) W A l.length l ∧ l.length ≤ maxLen ∧ ∀ b ∈ l, b.length ≤ maxLen := by
    obtain ⟨fuel, hf⟩ := h0
    obtain ⟨l, A, c, u, v, hcs, hc, hr, hm, hg⟩ := PureL.open_bench hf
    refine ⟨l, A, c, u, v, ?_, hc, hr, hm, hg⟩
    have hcs' : cs0.toList = [.slice A l.length c, .int .i64 u, .int .i64 v] := hcs
    exact Array.toList_inj.1 hcs'
  subst hcs0
  obtain ⟨a1, rfl, rfl, rfl, w1⟩ := open_int Try.underlying3 (hval 1 3 v1 rfl rfl) h1
  obtain ⟨a2, rfl, rfl, rfl, w2⟩ := open_int Try.underlying3 (hval 2 3 v2 rfl rfl) h2
  clear hA0 hval0 hsz0 hsz
  refine (PureL.FnExactRunBench A0 c0 l0 u0 v0_ a1 a2 W hr0 hc0 (fun b hb => Nat.le_trans (hg0 b hb) (by simp only [maxLen]; decide)) (Nat.le_trans hm0 (by simp only [maxLen]; decide))).mono fun e W' ⟨he, bel⟩ => ?_
  subst he
  exact ⟨_, rfl, _, _, _, [], _, [], hW', trodAll_mk1 (shut_bool Try.underlying4 _), (trodAll_cons_mk (Below.trod laidOut (by kernel_rfl) (of_decide_eq_true (by kernel_rfl)) k0 bel lt0) (trodAll_cons_mk (shut_int Try.underlying3 w1) (trodAll_cons_mk (shut_int Try.underlying3 w2) trodAll_mk0))), rfl, bel.frame _, fun h => by cases h⟩
theorem and2 {a b : Bool} (ha : a = true) (hb : b = true) : (a && b) = true := by rw [ha, hb]; rfl
theorem c0 : (Rows.fnExactRunBenchRow.wf (OpenSpec.ofChange Rows.fnExactRunBenchSpec)) = true := by kernel_rfl
theorem c1 : (laidOutB Try.prog) = true := by kernel_rfl
theorem c2 : (mapsRowed Try.prog) = true := by kernel_rfl
theorem c3 : (Try.f3.params.all (Try.prog.readableRec ·)) = true := by kernel_rfl
theorem c4 : (namedTie Try.prog Rows.fnExactRunBenchRow.named Rows.fnExactRunBenchSpec.vars) = true := by kernel_rfl
theorem c5 : ((Rows.fnExactRunBenchRow.stops == [])) = true := by kernel_rfl
theorem c6 : ((Try.prog.stops == [])) = true := by kernel_rfl
theorem c7 : ((Rows.fnExactRunBenchRow.knobs == [])) = true := by kernel_rfl
theorem c8 : ((Try.prog.stopKnobs == [])) = true := by kernel_rfl
theorem c9 : ((Rows.fnExactRunBenchRow.inPlace == Try.prog.inPlace 3)) = true := by kernel_rfl
theorem c10 : ((Rows.fnExactRunBenchRow.unfollowed == Try.prog.unfollowed 3)) = true := by kernel_rfl
theorem c11 : ((Rows.fnExactRunBenchRow.recurses == Try.prog.recurses 3)) = true := by kernel_rfl
theorem c12 : ((Rows.fnExactRunBenchRow.named == Try.prog.varsNamed 3)) = true := by kernel_rfl
theorem c13 : ((Rows.fnExactRunBenchRow.maps == (Try.f3.params.toList ++ Rows.fnExactRunBenchSpec.plain.varTypes Try.prog).any (Try.prog.mapsRec ·))) = true := by kernel_rfl
theorem c14 : ((Rows.fnExactRunBenchRow.ifaces == (Try.f3.params.toList ++ Rows.fnExactRunBenchSpec.plain.varTypes Try.prog).any (Try.prog.ifacesRec ·))) = true := by kernel_rfl
theorem c15 : ((Rows.fnExactRunBenchRow.mapsOut == Try.prog.mapsAmong Try.f3.resultTypes.toList)) = true := by kernel_rfl
theorem c16 : ((Rows.fnExactRunBenchRow.loops == (Try.f3.params.toList ++ Rows.fnExactRunBenchSpec.plain.varTypes Try.prog).any (Try.prog.loopsFrom ·))) = true := by kernel_rfl
theorem c17 : ((Rows.fnExactRunBenchRow.wideKeys == (Try.f3.params.toList ++ Rows.fnExactRunBenchSpec.plain.varTypes Try.prog ++ Try.f3.resultTypes.toList).any (Try.prog.wideKeysFrom ·))) = true := by kernel_rfl
theorem c18 : (Rows.fnExactRunBenchSpec.vars.all (Try.prog.varReadable ·)) = true := by kernel_rfl
theorem c19 : (Try.f3.resultTypes.all (fun t => Try.prog.readableRec t && decide (t < Try.prog.types.size))) = true := by kernel_rfl
theorem c20 : ((Rows.fnExactRunBenchRow.ifacesOut == Try.f3.resultTypes.toList.any (Try.prog.ifacesRec ·))) = true := by kernel_rfl
theorem c21 : ((Rows.fnExactRunBenchRow.loopsOut == Try.f3.resultTypes.toList.any (Try.prog.loopsFrom ·))) = true := by kernel_rfl
theorem c22 : ((Rows.fnExactRunBenchRow.plainKeys == Try.prog.plainKeys)) = true := by kernel_rfl
theorem c23 : (Rows.fnExactRunBenchRow.shortTexts.isNone) = true := by kernel_rfl
theorem c24 : (Try.prog.stopsHeard) = true := by kernel_rfl
theorem c25 : (Try.prog.mayEnter) = true := by kernel_rfl
theorem c26 : ((Rows.fnExactRunBenchRow.lifted == Try.prog.liftsFinal)) = true := by kernel_rfl
theorem c27 : ((Try.prog.make == some Rows.fnExactRunBenchRow.make)) = true := by kernel_rfl
theorem c28 : ((Rows.fnExactRunBenchRow.kinds == (if Rows.fnExactRunBenchRow.domain.isEmpty then [] else Try.f3.params.toList.map fun t => match Try.prog.underlying t with | some (.int k) => some k | _ => none))) = true := by kernel_rfl
theorem c29 : ((Rows.fnExactRunBenchRow.pinned == Rows.fnExactRunBenchRow.pinnedBy)) = true := by kernel_rfl
theorem c30 : ((Rows.fnExactRunBenchRow.veiled == (Try.f3.params.toList ++ Rows.fnExactRunBenchSpec.plain.varTypes Try.prog ++ Try.f3.resultTypes.toList).any (Try.prog.veiledRec ·))) = true := by kernel_rfl
theorem c31 : (Rows.fnExactRunBenchRow.veiledFits Try.prog Try.f3.params.toList (Try.f3.params.toList ++ Rows.fnExactRunBenchSpec.plain.varTypes Try.prog ++ Try.f3.resultTypes.toList)) = true := by kernel_rfl
set_option maxRecDepth 100000 in
theorem closed : joinedFacts Try.prog 3 Try.f3 Rows.fnExactRunBenchSpec Rows.fnExactRunBenchRow = true := by
  unfold joinedFacts
  refine and2 ?_ c31
  refine and2 ?_ c30
  refine and2 ?_ c29
  refine and2 ?_ c28
  refine and2 ?_ c27
  refine and2 ?_ c26
  refine and2 ?_ c25
  refine and2 ?_ c24
  refine and2 ?_ c23
  refine and2 ?_ c22
  refine and2 ?_ c21
  refine and2 ?_ c20
  refine and2 ?_ c19
  refine and2 ?_ c18
  refine and2 ?_ c17
  refine and2 ?_ c16
  refine and2 ?_ c15
  refine and2 ?_ c14
  refine and2 ?_ c13
  refine and2 ?_ c12
  refine and2 ?_ c11
  refine and2 ?_ c10
  refine and2 ?_ c9
  refine and2 ?_ c8
  refine and2 ?_ c7
  refine and2 ?_ c6
  refine and2 ?_ c5
  refine and2 ?_ c4
  refine and2 ?_ c3
  refine and2 ?_ c2
  refine and2 ?_ c1
  exact c0
theorem over : Rows.fnExactRunBenchRow.holds Try.pinned (OpenSpec.ofChange Rows.fnExactRunBenchSpec) :=
  OpenClaim.holds_of_wide 3 Try.f3 rfl rfl rfl rfl rfl rfl rfl ⟨rfl, rfl, rfl, rfl, rfl⟩ rfl rfl rfl rfl rfl (by kernel_rfl) Try.func3 closed
    (of_decide_eq_true (by kernel_rfl)) (by unfold Func.isWrapper; first | (rw [if_pos (by decide +kernel)]; kernel_rfl) | (rw [if_neg (by decide +kernel)]; exact ⟨rfl, rfl⟩))
    (fun os started H enc _ => lifted os started H enc)
end Go.Proofs.Yteiafboknimgbaa.fnExactRunBench
namespace Go.Proofs.Yteiafboknimgbaa
theorem fnExactRunBench_holds : Rows.FnExactRunBenchSaid := fnExactRunBench.over
#print axioms fnExactRunBench_holds
end Go.Proofs.Yteiafboknimgbaa
