/-
  No cell of these rows narrows 'for every input' (looked for: loops, veiled, ifaces, maps, wideKeys, modest, calm, conditions, laid).
  DERIVED. THE GIVEN ROWS OF THIS SEAT. 10 by the template 'for every input the law returns true; each argument reads behind the call as it read before'; 0 by the template 'total and deterministic' (their statements: YthdhhpcbagpmgaaTotals.lean).
  GIVEN WITH THE SEED: the statements are not yours to turn. If you find one false, say at which input.
  Laid BY PROGRAM, IN A SANDBOX (cutbox-rows.mjs): the forced cells as the released guide's own fill.sh prints them over the translation c605a40ec96b4161… (all of the seat's roots in one cut). By AI agents, Wed Nov 11 2026. No macro, syntax, notation, axiom, sorry.
-/
import Derived.Test.YthdhhpcbagpmgaaChecked
import GoSem.Claim
import GoSem.ClaimJoined
import GoSem.ClaimMapViews
import Derived.JoinedTies
import Derived.KernelRfl
namespace Go.Proofs.Ythdhhpcbagpmgaa
/- THE CELL 'sum', in the pinned program and in every row, IS THE sha256 OF THE DUMP (.gsa) THAT YthdhhpcbagpmgaaProg.lean LOADS. Nothing in Lean hashes anything: it is a label: what it is worth is what the hold of that sum in a sandbox is worth. -/
noncomputable def Try.pinned : Pinned := { name := "ythdhhpcbagpmgaa", sum := "c605a40ec96b4161cc08d44ebe6c189f2d08cfd8b9ad6e45d2f639e38e9b87cd", checked := Try.checked }
namespace Rows
def none {H : Type} : Left H := { results := [], args := [] }

/-- 'laws.FnExactNewBench': WHATEVER THE INPUT: true; the input reads as it did. -/
def fnExactNewBenchSpec : ChangeSpec := { name := "fnExactNewBench", fn := fun _ => fun
  | [d1, d2] => { results := [.lit (.bool true)], args := [d1, d2] }
  | _ => none }
def fnExactNewBenchRow : OpenClaim := { program := "ythdhhpcbagpmgaa", sum := "c605a40ec96b4161cc08d44ebe6c189f2d08cfd8b9ad6e45d2f639e38e9b87cd", func := "loop.example/g01183/laws.FnExactNewBench", spec := "fnExactNewBench", unfollowed := true, recurses := true, plainKeys := false, apart := false }
def FnExactNewBenchSaid : Prop := fnExactNewBenchRow.holds Try.pinned (OpenSpec.ofChange fnExactNewBenchSpec)

/-- ITS FALSE NEIGHBOUR: 'it returns false'. Refute it at one input. -/
def fnExactNewBenchWrong : ChangeSpec := { name := "fnExactNewBench", fn := fun _ => fun
  | [d1, d2] => { results := [.lit (.bool false)], args := [d1, d2] }
  | _ => none }
def FnExactNewBenchWrongFalsely : Prop := fnExactNewBenchRow.holds Try.pinned (OpenSpec.ofChange fnExactNewBenchWrong)

/-- 'laws.FnExactNewConsole': WHATEVER THE INPUT: true; the input reads as it did. -/
def fnExactNewConsoleSpec : ChangeSpec := { name := "fnExactNewConsole", fn := fun _ => fun
  | [d] => { results := [.lit (.bool true)], args := [d] }
  | _ => none }
def fnExactNewConsoleRow : OpenClaim := { program := "ythdhhpcbagpmgaa", sum := "c605a40ec96b4161cc08d44ebe6c189f2d08cfd8b9ad6e45d2f639e38e9b87cd", func := "loop.example/g01183/laws.FnExactNewConsole", spec := "fnExactNewConsole", unfollowed := true, recurses := true, plainKeys := false, apart := false }
def FnExactNewConsoleSaid : Prop := fnExactNewConsoleRow.holds Try.pinned (OpenSpec.ofChange fnExactNewConsoleSpec)

/-- ITS FALSE NEIGHBOUR: 'it returns false'. Refute it at one input. -/
def fnExactNewConsoleWrong : ChangeSpec := { name := "fnExactNewConsole", fn := fun _ => fun
  | [d] => { results := [.lit (.bool false)], args := [d] }
  | _ => none }
def FnExactNewConsoleWrongFalsely : Prop := fnExactNewConsoleRow.holds Try.pinned (OpenSpec.ofChange fnExactNewConsoleWrong)

/-- 'laws.FnEntries': WHATEVER THE INPUT: true; the input reads as it did. -/
def fnEntriesSpec : ChangeSpec := { name := "fnEntries", fn := fun _ => fun
  | [d] => { results := [.lit (.bool true)], args := [d] }
  | _ => none }
def fnEntriesRow : OpenClaim := { program := "ythdhhpcbagpmgaa", sum := "c605a40ec96b4161cc08d44ebe6c189f2d08cfd8b9ad6e45d2f639e38e9b87cd", func := "loop.example/g01183/laws.FnEntries", spec := "fnEntries", unfollowed := true, recurses := true, plainKeys := false, apart := false }
def FnEntriesSaid : Prop := fnEntriesRow.holds Try.pinned (OpenSpec.ofChange fnEntriesSpec)

/-- ITS FALSE NEIGHBOUR: 'it returns false'. Refute it at one input. -/
def fnEntriesWrong : ChangeSpec := { name := "fnEntries", fn := fun _ => fun
  | [d] => { results := [.lit (.bool false)], args := [d] }
  | _ => none }
def FnEntriesWrongFalsely : Prop := fnEntriesRow.holds Try.pinned (OpenSpec.ofChange fnEntriesWrong)

/-- 'laws.FnExactPutStep': WHATEVER THE INPUT: true; the input reads as it did. -/
def fnExactPutStepSpec : ChangeSpec := { name := "fnExactPutStep", fn := fun _ => fun
  | [d1, d2, d3, d4] => { results := [.lit (.bool true)], args := [d1, d2, d3, d4] }
  | _ => none }
def fnExactPutStepRow : OpenClaim := { program := "ythdhhpcbagpmgaa", sum := "c605a40ec96b4161cc08d44ebe6c189f2d08cfd8b9ad6e45d2f639e38e9b87cd", func := "loop.example/g01183/laws.FnExactPutStep", spec := "fnExactPutStep", inPlace := ["slices.overlaps[loop.example/g01183/impl.Step]"], unfollowed := true, recurses := true, plainKeys := false, apart := false }
def FnExactPutStepSaid : Prop := fnExactPutStepRow.holds Try.pinned (OpenSpec.ofChange fnExactPutStepSpec)

/-- ITS FALSE NEIGHBOUR: 'it returns false'. Refute it at one input. -/
def fnExactPutStepWrong : ChangeSpec := { name := "fnExactPutStep", fn := fun _ => fun
  | [d1, d2, d3, d4] => { results := [.lit (.bool false)], args := [d1, d2, d3, d4] }
  | _ => none }
def FnExactPutStepWrongFalsely : Prop := fnExactPutStepRow.holds Try.pinned (OpenSpec.ofChange fnExactPutStepWrong)

/-- 'laws.FnExactWithDefer': WHATEVER THE INPUT: true; the input reads as it did. -/
def fnExactWithDeferSpec : ChangeSpec := { name := "fnExactWithDefer", fn := fun _ => fun
  | [d1, d2, d3, d4] => { results := [.lit (.bool true)], args := [d1, d2, d3, d4] }
  | _ => none }
def fnExactWithDeferRow : OpenClaim := { program := "ythdhhpcbagpmgaa", sum := "c605a40ec96b4161cc08d44ebe6c189f2d08cfd8b9ad6e45d2f639e38e9b87cd", func := "loop.example/g01183/laws.FnExactWithDefer", spec := "fnExactWithDefer", inPlace := ["slices.overlaps[loop.example/g01183/impl.Step]"], unfollowed := true, recurses := true, plainKeys := false, apart := false }
def FnExactWithDeferSaid : Prop := fnExactWithDeferRow.holds Try.pinned (OpenSpec.ofChange fnExactWithDeferSpec)

/-- ITS FALSE NEIGHBOUR: 'it returns false'. Refute it at one input. -/
def fnExactWithDeferWrong : ChangeSpec := { name := "fnExactWithDefer", fn := fun _ => fun
  | [d1, d2, d3, d4] => { results := [.lit (.bool false)], args := [d1, d2, d3, d4] }
  | _ => none }
def FnExactWithDeferWrongFalsely : Prop := fnExactWithDeferRow.holds Try.pinned (OpenSpec.ofChange fnExactWithDeferWrong)

/-- 'laws.FnExactSwallowingGuard': WHATEVER THE INPUT: true; the input reads as it did. -/
def fnExactSwallowingGuardSpec : ChangeSpec := { name := "fnExactSwallowingGuard", fn := fun _ => fun
  | [d1, d2] => { results := [.lit (.bool true)], args := [d1, d2] }
  | _ => none }
def fnExactSwallowingGuardRow : OpenClaim := { program := "ythdhhpcbagpmgaa", sum := "c605a40ec96b4161cc08d44ebe6c189f2d08cfd8b9ad6e45d2f639e38e9b87cd", func := "loop.example/g01183/laws.FnExactSwallowingGuard", spec := "fnExactSwallowingGuard", inPlace := ["slices.overlaps[loop.example/g01183/impl.Step]"], unfollowed := true, recurses := true, plainKeys := false, apart := false }
def FnExactSwallowingGuardSaid : Prop := fnExactSwallowingGuardRow.holds Try.pinned (OpenSpec.ofChange fnExactSwallowingGuardSpec)

/-- ITS FALSE NEIGHBOUR: 'it returns false'. Refute it at one input. -/
def fnExactSwallowingGuardWrong : ChangeSpec := { name := "fnExactSwallowingGuard", fn := fun _ => fun
  | [d1, d2] => { results := [.lit (.bool false)], args := [d1, d2] }
  | _ => none }
def FnExactSwallowingGuardWrongFalsely : Prop := fnExactSwallowingGuardRow.holds Try.pinned (OpenSpec.ofChange fnExactSwallowingGuardWrong)

/-- 'laws.FnExactTellingGuard': WHATEVER THE INPUT: true; the input reads as it did. -/
def fnExactTellingGuardSpec : ChangeSpec := { name := "fnExactTellingGuard", fn := fun _ => fun
  | [d1, d2] => { results := [.lit (.bool true)], args := [d1, d2] }
  | _ => none }
def fnExactTellingGuardRow : OpenClaim := { program := "ythdhhpcbagpmgaa", sum := "c605a40ec96b4161cc08d44ebe6c189f2d08cfd8b9ad6e45d2f639e38e9b87cd", func := "loop.example/g01183/laws.FnExactTellingGuard", spec := "fnExactTellingGuard", inPlace := ["slices.overlaps[loop.example/g01183/impl.Step]"], unfollowed := true, recurses := true, plainKeys := false, apart := false }
def FnExactTellingGuardSaid : Prop := fnExactTellingGuardRow.holds Try.pinned (OpenSpec.ofChange fnExactTellingGuardSpec)

/-- ITS FALSE NEIGHBOUR: 'it returns false'. Refute it at one input. -/
def fnExactTellingGuardWrong : ChangeSpec := { name := "fnExactTellingGuard", fn := fun _ => fun
  | [d1, d2] => { results := [.lit (.bool false)], args := [d1, d2] }
  | _ => none }
def FnExactTellingGuardWrongFalsely : Prop := fnExactTellingGuardRow.holds Try.pinned (OpenSpec.ofChange fnExactTellingGuardWrong)

/-- 'laws.FnExactThrowingGuard': WHATEVER THE INPUT: true; the input reads as it did. -/
def fnExactThrowingGuardSpec : ChangeSpec := { name := "fnExactThrowingGuard", fn := fun _ => fun
  | [d1, d2] => { results := [.lit (.bool true)], args := [d1, d2] }
  | _ => none }
def fnExactThrowingGuardRow : OpenClaim := { program := "ythdhhpcbagpmgaa", sum := "c605a40ec96b4161cc08d44ebe6c189f2d08cfd8b9ad6e45d2f639e38e9b87cd", func := "loop.example/g01183/laws.FnExactThrowingGuard", spec := "fnExactThrowingGuard", inPlace := ["slices.overlaps[loop.example/g01183/impl.Step]"], unfollowed := true, recurses := true, plainKeys := false, apart := false }
def FnExactThrowingGuardSaid : Prop := fnExactThrowingGuardRow.holds Try.pinned (OpenSpec.ofChange fnExactThrowingGuardSpec)

/-- ITS FALSE NEIGHBOUR: 'it returns false'. Refute it at one input. -/
def fnExactThrowingGuardWrong : ChangeSpec := { name := "fnExactThrowingGuard", fn := fun _ => fun
  | [d1, d2] => { results := [.lit (.bool false)], args := [d1, d2] }
  | _ => none }
def FnExactThrowingGuardWrongFalsely : Prop := fnExactThrowingGuardRow.holds Try.pinned (OpenSpec.ofChange fnExactThrowingGuardWrong)

/-- 'laws.FnExactDropUnreached': WHATEVER THE INPUT: true; the input reads as it did. -/
def fnExactDropUnreachedSpec : ChangeSpec := { name := "fnExactDropUnreached", fn := fun _ => fun
  | [d1, d2] => { results := [.lit (.bool true)], args := [d1, d2] }
  | _ => none }
def fnExactDropUnreachedRow : OpenClaim := { program := "ythdhhpcbagpmgaa", sum := "c605a40ec96b4161cc08d44ebe6c189f2d08cfd8b9ad6e45d2f639e38e9b87cd", func := "loop.example/g01183/laws.FnExactDropUnreached", spec := "fnExactDropUnreached", unfollowed := true, recurses := true, plainKeys := false, apart := false }
def FnExactDropUnreachedSaid : Prop := fnExactDropUnreachedRow.holds Try.pinned (OpenSpec.ofChange fnExactDropUnreachedSpec)

/-- ITS FALSE NEIGHBOUR: 'it returns false'. Refute it at one input. -/
def fnExactDropUnreachedWrong : ChangeSpec := { name := "fnExactDropUnreached", fn := fun _ => fun
  | [d1, d2] => { results := [.lit (.bool false)], args := [d1, d2] }
  | _ => none }
def FnExactDropUnreachedWrongFalsely : Prop := fnExactDropUnreachedRow.holds Try.pinned (OpenSpec.ofChange fnExactDropUnreachedWrong)

/-- 'laws.FnExactGuardPoints': WHATEVER THE INPUT: true; the input reads as it did. -/
def fnExactGuardPointsSpec : ChangeSpec := { name := "fnExactGuardPoints", fn := fun _ => fun
  | [d1, d2, d3, d4] => { results := [.lit (.bool true)], args := [d1, d2, d3, d4] }
  | _ => none }
def fnExactGuardPointsRow : OpenClaim := { program := "ythdhhpcbagpmgaa", sum := "c605a40ec96b4161cc08d44ebe6c189f2d08cfd8b9ad6e45d2f639e38e9b87cd", func := "loop.example/g01183/laws.FnExactGuardPoints", spec := "fnExactGuardPoints", inPlace := ["slices.overlaps[loop.example/g01183/impl.Step]"], unfollowed := true, recurses := true, plainKeys := false, apart := false }
def FnExactGuardPointsSaid : Prop := fnExactGuardPointsRow.holds Try.pinned (OpenSpec.ofChange fnExactGuardPointsSpec)

/-- ITS FALSE NEIGHBOUR: 'it returns false'. Refute it at one input. -/
def fnExactGuardPointsWrong : ChangeSpec := { name := "fnExactGuardPoints", fn := fun _ => fun
  | [d1, d2, d3, d4] => { results := [.lit (.bool false)], args := [d1, d2, d3, d4] }
  | _ => none }
def FnExactGuardPointsWrongFalsely : Prop := fnExactGuardPointsRow.holds Try.pinned (OpenSpec.ofChange fnExactGuardPointsWrong)

/- THE SECOND FORM. 'bulk': how many values and letters a reading holds, each counted each time it is reached (what is shared counts as often as it is met; a slice's spare places count too). A statement '..UptoSaid' is the law's where the arguments, and the package variables that the reading takes, are together of bulk at most 1048576: NARROWER than '..Said'. Prove '..Said' where nothing that the law and all that it calls make is longer than what came in: it says more and counts as full. Else prove '..UptoSaid'. A law counts once. -/
mutual
def uptoBulk {H : Type} : DataW H → Nat
  | .lit (.string bytes) => bytes.length + 1
  | .lit _ => 1
  | .nil => 1
  | .ptr d => uptoBulk d + 1
  | .slice elems spare => uptoBulkAll elems + uptoBulkAll spare + 1
  | .agg parts => uptoBulkAll parts + 1
  | .iface _ d => uptoBulk d + 1
  | .map entries => uptoBulkEntries entries + 1
  | .held _ => 1
def uptoBulkAll {H : Type} : List (DataW H) → Nat
  | [] => 0
  | d :: r => uptoBulk d + uptoBulkAll r
def uptoBulkEntries {H : Type} : List (Lit × DataW H) → Nat
  | [] => 0
  | x :: r => uptoBulkEntry x + uptoBulkEntries r
def uptoBulkEntry {H : Type} : Lit × DataW H → Nat
  | (.string bytes, d) => bytes.length + uptoBulk d + 1
  | (_, d) => uptoBulk d + 1
 end
def uptoSmall : (H : Type) → List (DataW H) → Bool := fun _ ds => decide (uptoBulkAll ds ≤ 1048576)
def OpenSpec.upto (s : _root_.Go.ChangeSpec) : _root_.Go.OpenSpec := { _root_.Go.OpenSpec.ofChange s with cond := some uptoSmall }

/-- 'laws.FnExactNewBench', WHERE WHAT IT READS IS OF BULK AT MOST 1048576: true; the input reads as it did. -/
def fnExactNewBenchUptoRow : OpenClaim := { program := "ythdhhpcbagpmgaa", sum := "c605a40ec96b4161cc08d44ebe6c189f2d08cfd8b9ad6e45d2f639e38e9b87cd", func := "loop.example/g01183/laws.FnExactNewBench", spec := "fnExactNewBench", unfollowed := true, recurses := true, plainKeys := false, apart := false, narrowed := true }
def FnExactNewBenchUptoSaid : Prop := fnExactNewBenchUptoRow.holds Try.pinned (OpenSpec.upto fnExactNewBenchSpec)

/-- 'laws.FnExactNewConsole', WHERE WHAT IT READS IS OF BULK AT MOST 1048576: true; the input reads as it did. -/
def fnExactNewConsoleUptoRow : OpenClaim := { program := "ythdhhpcbagpmgaa", sum := "c605a40ec96b4161cc08d44ebe6c189f2d08cfd8b9ad6e45d2f639e38e9b87cd", func := "loop.example/g01183/laws.FnExactNewConsole", spec := "fnExactNewConsole", unfollowed := true, recurses := true, plainKeys := false, apart := false, narrowed := true }
def FnExactNewConsoleUptoSaid : Prop := fnExactNewConsoleUptoRow.holds Try.pinned (OpenSpec.upto fnExactNewConsoleSpec)

/-- 'laws.FnEntries', WHERE WHAT IT READS IS OF BULK AT MOST 1048576: true; the input reads as it did. -/
def fnEntriesUptoRow : OpenClaim := { program := "ythdhhpcbagpmgaa", sum := "c605a40ec96b4161cc08d44ebe6c189f2d08cfd8b9ad6e45d2f639e38e9b87cd", func := "loop.example/g01183/laws.FnEntries", spec := "fnEntries", unfollowed := true, recurses := true, plainKeys := false, apart := false, narrowed := true }
def FnEntriesUptoSaid : Prop := fnEntriesUptoRow.holds Try.pinned (OpenSpec.upto fnEntriesSpec)

/-- 'laws.FnExactPutStep', WHERE WHAT IT READS IS OF BULK AT MOST 1048576: true; the input reads as it did. -/
def fnExactPutStepUptoRow : OpenClaim := { program := "ythdhhpcbagpmgaa", sum := "c605a40ec96b4161cc08d44ebe6c189f2d08cfd8b9ad6e45d2f639e38e9b87cd", func := "loop.example/g01183/laws.FnExactPutStep", spec := "fnExactPutStep", inPlace := ["slices.overlaps[loop.example/g01183/impl.Step]"], unfollowed := true, recurses := true, plainKeys := false, apart := false, narrowed := true }
def FnExactPutStepUptoSaid : Prop := fnExactPutStepUptoRow.holds Try.pinned (OpenSpec.upto fnExactPutStepSpec)

/-- 'laws.FnExactWithDefer', WHERE WHAT IT READS IS OF BULK AT MOST 1048576: true; the input reads as it did. -/
def fnExactWithDeferUptoRow : OpenClaim := { program := "ythdhhpcbagpmgaa", sum := "c605a40ec96b4161cc08d44ebe6c189f2d08cfd8b9ad6e45d2f639e38e9b87cd", func := "loop.example/g01183/laws.FnExactWithDefer", spec := "fnExactWithDefer", inPlace := ["slices.overlaps[loop.example/g01183/impl.Step]"], unfollowed := true, recurses := true, plainKeys := false, apart := false, narrowed := true }
def FnExactWithDeferUptoSaid : Prop := fnExactWithDeferUptoRow.holds Try.pinned (OpenSpec.upto fnExactWithDeferSpec)

/-- 'laws.FnExactSwallowingGuard', WHERE WHAT IT READS IS OF BULK AT MOST 1048576: true; the input reads as it did. -/
def fnExactSwallowingGuardUptoRow : OpenClaim := { program := "ythdhhpcbagpmgaa", sum := "c605a40ec96b4161cc08d44ebe6c189f2d08cfd8b9ad6e45d2f639e38e9b87cd", func := "loop.example/g01183/laws.FnExactSwallowingGuard", spec := "fnExactSwallowingGuard", inPlace := ["slices.overlaps[loop.example/g01183/impl.Step]"], unfollowed := true, recurses := true, plainKeys := false, apart := false, narrowed := true }
def FnExactSwallowingGuardUptoSaid : Prop := fnExactSwallowingGuardUptoRow.holds Try.pinned (OpenSpec.upto fnExactSwallowingGuardSpec)

/-- 'laws.FnExactTellingGuard', WHERE WHAT IT READS IS OF BULK AT MOST 1048576: true; the input reads as it did. -/
def fnExactTellingGuardUptoRow : OpenClaim := { program := "ythdhhpcbagpmgaa", sum := "c605a40ec96b4161cc08d44ebe6c189f2d08cfd8b9ad6e45d2f639e38e9b87cd", func := "loop.example/g01183/laws.FnExactTellingGuard", spec := "fnExactTellingGuard", inPlace := ["slices.overlaps[loop.example/g01183/impl.Step]"], unfollowed := true, recurses := true, plainKeys := false, apart := false, narrowed := true }
def FnExactTellingGuardUptoSaid : Prop := fnExactTellingGuardUptoRow.holds Try.pinned (OpenSpec.upto fnExactTellingGuardSpec)

/-- 'laws.FnExactThrowingGuard', WHERE WHAT IT READS IS OF BULK AT MOST 1048576: true; the input reads as it did. -/
def fnExactThrowingGuardUptoRow : OpenClaim := { program := "ythdhhpcbagpmgaa", sum := "c605a40ec96b4161cc08d44ebe6c189f2d08cfd8b9ad6e45d2f639e38e9b87cd", func := "loop.example/g01183/laws.FnExactThrowingGuard", spec := "fnExactThrowingGuard", inPlace := ["slices.overlaps[loop.example/g01183/impl.Step]"], unfollowed := true, recurses := true, plainKeys := false, apart := false, narrowed := true }
def FnExactThrowingGuardUptoSaid : Prop := fnExactThrowingGuardUptoRow.holds Try.pinned (OpenSpec.upto fnExactThrowingGuardSpec)

/-- 'laws.FnExactDropUnreached', WHERE WHAT IT READS IS OF BULK AT MOST 1048576: true; the input reads as it did. -/
def fnExactDropUnreachedUptoRow : OpenClaim := { program := "ythdhhpcbagpmgaa", sum := "c605a40ec96b4161cc08d44ebe6c189f2d08cfd8b9ad6e45d2f639e38e9b87cd", func := "loop.example/g01183/laws.FnExactDropUnreached", spec := "fnExactDropUnreached", unfollowed := true, recurses := true, plainKeys := false, apart := false, narrowed := true }
def FnExactDropUnreachedUptoSaid : Prop := fnExactDropUnreachedUptoRow.holds Try.pinned (OpenSpec.upto fnExactDropUnreachedSpec)

/-- 'laws.FnExactGuardPoints', WHERE WHAT IT READS IS OF BULK AT MOST 1048576: true; the input reads as it did. -/
def fnExactGuardPointsUptoRow : OpenClaim := { program := "ythdhhpcbagpmgaa", sum := "c605a40ec96b4161cc08d44ebe6c189f2d08cfd8b9ad6e45d2f639e38e9b87cd", func := "loop.example/g01183/laws.FnExactGuardPoints", spec := "fnExactGuardPoints", inPlace := ["slices.overlaps[loop.example/g01183/impl.Step]"], unfollowed := true, recurses := true, plainKeys := false, apart := false, narrowed := true }
def FnExactGuardPointsUptoSaid : Prop := fnExactGuardPointsUptoRow.holds Try.pinned (OpenSpec.upto fnExactGuardPointsSpec)

end Rows
end Go.Proofs.Ythdhhpcbagpmgaa
