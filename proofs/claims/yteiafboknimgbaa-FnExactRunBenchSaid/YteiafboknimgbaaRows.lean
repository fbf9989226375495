/-
  No cell of these rows narrows 'for every input' (looked for: loops, veiled, ifaces, maps, wideKeys, modest, calm, conditions, laid).
  DERIVED. THE GIVEN ROWS OF THIS SEAT. 12 by the template 'for every input the law returns true; each argument reads behind the call as it read before'; 0 by the template 'total and deterministic' (their statements: YteiafboknimgbaaTotals.lean).
  GIVEN WITH THE SEED: the statements are not yours to turn. If you find one false, say at which input.
  Laid BY PROGRAM, IN A SANDBOX (cutbox-rows.mjs): the forced cells as the released guide's own fill.sh prints them over the translation 55de8ef702ff99e1… (all of the seat's roots in one cut). By AI agents, Wed Nov 11 2026. No macro, syntax, notation, axiom, sorry.
-/
import Derived.Test.YteiafboknimgbaaChecked
import GoSem.Claim
import GoSem.ClaimJoined
import GoSem.ClaimMapViews
import Derived.JoinedTies
import Derived.KernelRfl
namespace Go.Proofs.Yteiafboknimgbaa
/- THE CELL 'sum', in the pinned program and in every row, IS THE sha256 OF THE DUMP (.gsa) THAT YteiafboknimgbaaProg.lean LOADS. Nothing in Lean hashes anything: it is a label: what it is worth is what the hold of that sum in a sandbox is worth. -/
noncomputable def Try.pinned : Pinned := { name := "yteiafboknimgbaa", sum := "55de8ef702ff99e19bac2c51f20e01e5bc0ccf9fa83bf9006aa59a7233baa64c", checked := Try.checked }
namespace Rows
def none {H : Type} : Left H := { results := [], args := [] }

/-- 'laws.FnExactRunBench': WHATEVER THE INPUT: true; the input reads as it did. -/
def fnExactRunBenchSpec : ChangeSpec := { name := "fnExactRunBench", fn := fun _ => fun
  | [d1, d2, d3] => { results := [.lit (.bool true)], args := [d1, d2, d3] }
  | _ => none }
def fnExactRunBenchRow : OpenClaim := { program := "yteiafboknimgbaa", sum := "55de8ef702ff99e19bac2c51f20e01e5bc0ccf9fa83bf9006aa59a7233baa64c", func := "loop.example/g01183/laws.FnExactRunBench", spec := "fnExactRunBench", unfollowed := true, recurses := true, plainKeys := false, apart := false }
def FnExactRunBenchSaid : Prop := fnExactRunBenchRow.holds Try.pinned (OpenSpec.ofChange fnExactRunBenchSpec)

/-- ITS FALSE NEIGHBOUR: 'it returns false'. Refute it at one input. -/
def fnExactRunBenchWrong : ChangeSpec := { name := "fnExactRunBench", fn := fun _ => fun
  | [d1, d2, d3] => { results := [.lit (.bool false)], args := [d1, d2, d3] }
  | _ => none }
def FnExactRunBenchWrongFalsely : Prop := fnExactRunBenchRow.holds Try.pinned (OpenSpec.ofChange fnExactRunBenchWrong)

/-- 'laws.FnExactGuardPoints': WHATEVER THE INPUT: true; the input reads as it did. -/
def fnExactGuardPointsSpec : ChangeSpec := { name := "fnExactGuardPoints", fn := fun _ => fun
  | [d1, d2, d3, d4] => { results := [.lit (.bool true)], args := [d1, d2, d3, d4] }
  | _ => none }
def fnExactGuardPointsRow : OpenClaim := { program := "yteiafboknimgbaa", sum := "55de8ef702ff99e19bac2c51f20e01e5bc0ccf9fa83bf9006aa59a7233baa64c", func := "loop.example/g01183/laws.FnExactGuardPoints", spec := "fnExactGuardPoints", inPlace := ["slices.overlaps[loop.example/g01183/impl.Step]"], unfollowed := true, recurses := true, plainKeys := false, apart := false }
def FnExactGuardPointsSaid : Prop := fnExactGuardPointsRow.holds Try.pinned (OpenSpec.ofChange fnExactGuardPointsSpec)

/-- ITS FALSE NEIGHBOUR: 'it returns false'. Refute it at one input. -/
def fnExactGuardPointsWrong : ChangeSpec := { name := "fnExactGuardPoints", fn := fun _ => fun
  | [d1, d2, d3, d4] => { results := [.lit (.bool false)], args := [d1, d2, d3, d4] }
  | _ => none }
def FnExactGuardPointsWrongFalsely : Prop := fnExactGuardPointsRow.holds Try.pinned (OpenSpec.ofChange fnExactGuardPointsWrong)

/-- 'laws.FnRuns': WHATEVER THE INPUT: true; the input reads as it did. -/
def fnRunsSpec : ChangeSpec := { name := "fnRuns", fn := fun _ => fun
  | [d] => { results := [.lit (.bool true)], args := [d] }
  | _ => none }
def fnRunsRow : OpenClaim := { program := "yteiafboknimgbaa", sum := "55de8ef702ff99e19bac2c51f20e01e5bc0ccf9fa83bf9006aa59a7233baa64c", func := "loop.example/g01183/laws.FnRuns", spec := "fnRuns", unfollowed := true, recurses := true, plainKeys := false, apart := false }
def FnRunsSaid : Prop := fnRunsRow.holds Try.pinned (OpenSpec.ofChange fnRunsSpec)

/-- ITS FALSE NEIGHBOUR: 'it returns false'. Refute it at one input. -/
def fnRunsWrong : ChangeSpec := { name := "fnRuns", fn := fun _ => fun
  | [d] => { results := [.lit (.bool false)], args := [d] }
  | _ => none }
def FnRunsWrongFalsely : Prop := fnRunsRow.holds Try.pinned (OpenSpec.ofChange fnRunsWrong)

/-- 'laws.FnExits': WHATEVER THE INPUT: true; the input reads as it did. -/
def fnExitsSpec : ChangeSpec := { name := "fnExits", fn := fun _ => fun
  | [d] => { results := [.lit (.bool true)], args := [d] }
  | _ => none }
def fnExitsRow : OpenClaim := { program := "yteiafboknimgbaa", sum := "55de8ef702ff99e19bac2c51f20e01e5bc0ccf9fa83bf9006aa59a7233baa64c", func := "loop.example/g01183/laws.FnExits", spec := "fnExits", unfollowed := true, recurses := true, plainKeys := false, apart := false }
def FnExitsSaid : Prop := fnExitsRow.holds Try.pinned (OpenSpec.ofChange fnExitsSpec)

/-- ITS FALSE NEIGHBOUR: 'it returns false'. Refute it at one input. -/
def fnExitsWrong : ChangeSpec := { name := "fnExits", fn := fun _ => fun
  | [d] => { results := [.lit (.bool false)], args := [d] }
  | _ => none }
def FnExitsWrongFalsely : Prop := fnExitsRow.holds Try.pinned (OpenSpec.ofChange fnExitsWrong)

/-- 'laws.FnDeferred': WHATEVER THE INPUT: true; the input reads as it did. -/
def fnDeferredSpec : ChangeSpec := { name := "fnDeferred", fn := fun _ => fun
  | [d] => { results := [.lit (.bool true)], args := [d] }
  | _ => none }
def fnDeferredRow : OpenClaim := { program := "yteiafboknimgbaa", sum := "55de8ef702ff99e19bac2c51f20e01e5bc0ccf9fa83bf9006aa59a7233baa64c", func := "loop.example/g01183/laws.FnDeferred", spec := "fnDeferred", unfollowed := true, recurses := true, plainKeys := false, apart := false }
def FnDeferredSaid : Prop := fnDeferredRow.holds Try.pinned (OpenSpec.ofChange fnDeferredSpec)

/-- ITS FALSE NEIGHBOUR: 'it returns false'. Refute it at one input. -/
def fnDeferredWrong : ChangeSpec := { name := "fnDeferred", fn := fun _ => fun
  | [d] => { results := [.lit (.bool false)], args := [d] }
  | _ => none }
def FnDeferredWrongFalsely : Prop := fnDeferredRow.holds Try.pinned (OpenSpec.ofChange fnDeferredWrong)

/-- 'laws.FnCallTrees': WHATEVER THE INPUT: true; the input reads as it did. -/
def fnCallTreesSpec : ChangeSpec := { name := "fnCallTrees", fn := fun _ => fun
  | [d] => { results := [.lit (.bool true)], args := [d] }
  | _ => none }
def fnCallTreesRow : OpenClaim := { program := "yteiafboknimgbaa", sum := "55de8ef702ff99e19bac2c51f20e01e5bc0ccf9fa83bf9006aa59a7233baa64c", func := "loop.example/g01183/laws.FnCallTrees", spec := "fnCallTrees", unfollowed := true, recurses := true, plainKeys := false, apart := false }
def FnCallTreesSaid : Prop := fnCallTreesRow.holds Try.pinned (OpenSpec.ofChange fnCallTreesSpec)

/-- ITS FALSE NEIGHBOUR: 'it returns false'. Refute it at one input. -/
def fnCallTreesWrong : ChangeSpec := { name := "fnCallTrees", fn := fun _ => fun
  | [d] => { results := [.lit (.bool false)], args := [d] }
  | _ => none }
def FnCallTreesWrongFalsely : Prop := fnCallTreesRow.holds Try.pinned (OpenSpec.ofChange fnCallTreesWrong)

/-- 'laws.FnDeeds': WHATEVER THE INPUT: true; the input reads as it did. -/
def fnDeedsSpec : ChangeSpec := { name := "fnDeeds", fn := fun _ => fun
  | [d] => { results := [.lit (.bool true)], args := [d] }
  | _ => none }
def fnDeedsRow : OpenClaim := { program := "yteiafboknimgbaa", sum := "55de8ef702ff99e19bac2c51f20e01e5bc0ccf9fa83bf9006aa59a7233baa64c", func := "loop.example/g01183/laws.FnDeeds", spec := "fnDeeds", unfollowed := true, recurses := true, plainKeys := false, apart := false }
def FnDeedsSaid : Prop := fnDeedsRow.holds Try.pinned (OpenSpec.ofChange fnDeedsSpec)

/-- ITS FALSE NEIGHBOUR: 'it returns false'. Refute it at one input. -/
def fnDeedsWrong : ChangeSpec := { name := "fnDeeds", fn := fun _ => fun
  | [d] => { results := [.lit (.bool false)], args := [d] }
  | _ => none }
def FnDeedsWrongFalsely : Prop := fnDeedsRow.holds Try.pinned (OpenSpec.ofChange fnDeedsWrong)

/-- 'laws.FnKeeping': WHATEVER THE INPUT: true; the input reads as it did. -/
def fnKeepingSpec : ChangeSpec := { name := "fnKeeping", fn := fun _ => fun
  | [d] => { results := [.lit (.bool true)], args := [d] }
  | _ => none }
def fnKeepingRow : OpenClaim := { program := "yteiafboknimgbaa", sum := "55de8ef702ff99e19bac2c51f20e01e5bc0ccf9fa83bf9006aa59a7233baa64c", func := "loop.example/g01183/laws.FnKeeping", spec := "fnKeeping", unfollowed := true, recurses := true, plainKeys := false, apart := false }
def FnKeepingSaid : Prop := fnKeepingRow.holds Try.pinned (OpenSpec.ofChange fnKeepingSpec)

/-- ITS FALSE NEIGHBOUR: 'it returns false'. Refute it at one input. -/
def fnKeepingWrong : ChangeSpec := { name := "fnKeeping", fn := fun _ => fun
  | [d] => { results := [.lit (.bool false)], args := [d] }
  | _ => none }
def FnKeepingWrongFalsely : Prop := fnKeepingRow.holds Try.pinned (OpenSpec.ofChange fnKeepingWrong)

/-- 'laws.FnRetries': WHATEVER THE INPUT: true; the input reads as it did. -/
def fnRetriesSpec : ChangeSpec := { name := "fnRetries", fn := fun _ => fun
  | [d] => { results := [.lit (.bool true)], args := [d] }
  | _ => none }
def fnRetriesRow : OpenClaim := { program := "yteiafboknimgbaa", sum := "55de8ef702ff99e19bac2c51f20e01e5bc0ccf9fa83bf9006aa59a7233baa64c", func := "loop.example/g01183/laws.FnRetries", spec := "fnRetries", unfollowed := true, recurses := true, plainKeys := false, apart := false }
def FnRetriesSaid : Prop := fnRetriesRow.holds Try.pinned (OpenSpec.ofChange fnRetriesSpec)

/-- ITS FALSE NEIGHBOUR: 'it returns false'. Refute it at one input. -/
def fnRetriesWrong : ChangeSpec := { name := "fnRetries", fn := fun _ => fun
  | [d] => { results := [.lit (.bool false)], args := [d] }
  | _ => none }
def FnRetriesWrongFalsely : Prop := fnRetriesRow.holds Try.pinned (OpenSpec.ofChange fnRetriesWrong)

/-- 'laws.FnSameRuns': WHATEVER THE INPUT: true; the input reads as it did. -/
def fnSameRunsSpec : ChangeSpec := { name := "fnSameRuns", fn := fun _ => fun
  | [d] => { results := [.lit (.bool true)], args := [d] }
  | _ => none }
def fnSameRunsRow : OpenClaim := { program := "yteiafboknimgbaa", sum := "55de8ef702ff99e19bac2c51f20e01e5bc0ccf9fa83bf9006aa59a7233baa64c", func := "loop.example/g01183/laws.FnSameRuns", spec := "fnSameRuns", unfollowed := true, recurses := true, plainKeys := false, apart := false }
def FnSameRunsSaid : Prop := fnSameRunsRow.holds Try.pinned (OpenSpec.ofChange fnSameRunsSpec)

/-- ITS FALSE NEIGHBOUR: 'it returns false'. Refute it at one input. -/
def fnSameRunsWrong : ChangeSpec := { name := "fnSameRuns", fn := fun _ => fun
  | [d] => { results := [.lit (.bool false)], args := [d] }
  | _ => none }
def FnSameRunsWrongFalsely : Prop := fnSameRunsRow.holds Try.pinned (OpenSpec.ofChange fnSameRunsWrong)

/-- 'laws.FnFates': WHATEVER THE INPUT: true; the input reads as it did. -/
def fnFatesSpec : ChangeSpec := { name := "fnFates", fn := fun _ => fun
  | [d] => { results := [.lit (.bool true)], args := [d] }
  | _ => none }
def fnFatesRow : OpenClaim := { program := "yteiafboknimgbaa", sum := "55de8ef702ff99e19bac2c51f20e01e5bc0ccf9fa83bf9006aa59a7233baa64c", func := "loop.example/g01183/laws.FnFates", spec := "fnFates", unfollowed := true, recurses := true, plainKeys := false, apart := false }
def FnFatesSaid : Prop := fnFatesRow.holds Try.pinned (OpenSpec.ofChange fnFatesSpec)

/-- ITS FALSE NEIGHBOUR: 'it returns false'. Refute it at one input. -/
def fnFatesWrong : ChangeSpec := { name := "fnFates", fn := fun _ => fun
  | [d] => { results := [.lit (.bool false)], args := [d] }
  | _ => none }
def FnFatesWrongFalsely : Prop := fnFatesRow.holds Try.pinned (OpenSpec.ofChange fnFatesWrong)

/-- 'laws.FnSessions': WHATEVER THE INPUT: true; the input reads as it did. -/
def fnSessionsSpec : ChangeSpec := { name := "fnSessions", fn := fun _ => fun
  | [d] => { results := [.lit (.bool true)], args := [d] }
  | _ => none }
def fnSessionsRow : OpenClaim := { program := "yteiafboknimgbaa", sum := "55de8ef702ff99e19bac2c51f20e01e5bc0ccf9fa83bf9006aa59a7233baa64c", func := "loop.example/g01183/laws.FnSessions", spec := "fnSessions", unfollowed := true, recurses := true, plainKeys := false, apart := false }
def FnSessionsSaid : Prop := fnSessionsRow.holds Try.pinned (OpenSpec.ofChange fnSessionsSpec)

/-- ITS FALSE NEIGHBOUR: 'it returns false'. Refute it at one input. -/
def fnSessionsWrong : ChangeSpec := { name := "fnSessions", fn := fun _ => fun
  | [d] => { results := [.lit (.bool false)], args := [d] }
  | _ => none }
def FnSessionsWrongFalsely : Prop := fnSessionsRow.holds Try.pinned (OpenSpec.ofChange fnSessionsWrong)

/- THE SECOND FORM. 'bulk': how many values and letters a reading holds, each counted each time it is reached (what is shared counts as often as it is met; a slice's spare places count too). A statement '..UptoSaid' is the law's where the arguments, and the package variables that the reading takes, are together of bulk at most 1048576: NARROWER than '..Said'. Prove '..Said' where nothing that the law and all that it calls make is longer than what came in: it says more and counts as full. Else prove '..UptoSaid'. A law counts once. -/
mutual
def uptoBulk {H : Type} : DataW H → Nat
  | .lit (.string bytes) => bytes.length + 1
  | .lit _ => 1
  | .nil => 1
  | .ptr d => uptoBulk d + 1
  | .slice elems spare => uptoBulkAll elems + uptoBulkAll spare + 1
  | .agg parts => uptoBulkAll parts + 1
  | .iface _ d => uptoBulk d + 1
  | .map entries => uptoBulkEntries entries + 1
  | .held _ => 1
def uptoBulkAll {H : Type} : List (DataW H) → Nat
  | [] => 0
  | d :: r => uptoBulk d + uptoBulkAll r
def uptoBulkEntries {H : Type} : List (Lit × DataW H) → Nat
  | [] => 0
  | x :: r => uptoBulkEntry x + uptoBulkEntries r
def uptoBulkEntry {H : Type} : Lit × DataW H → Nat
  | (.string bytes, d) => bytes.length + uptoBulk d + 1
  | (_, d) => uptoBulk d + 1
 end
def uptoSmall : (H : Type) → List (DataW H) → Bool := fun _ ds => decide (uptoBulkAll ds ≤ 1048576)
def OpenSpec.upto (s : _root_.Go.ChangeSpec) : _root_.Go.OpenSpec := { _root_.Go.OpenSpec.ofChange s with cond := some uptoSmall }

/-- 'laws.FnExactRunBench', WHERE WHAT IT READS IS OF BULK AT MOST 1048576: true; the input reads as it did. -/
def fnExactRunBenchUptoRow : OpenClaim := { program := "yteiafboknimgbaa", sum := "55de8ef702ff99e19bac2c51f20e01e5bc0ccf9fa83bf9006aa59a7233baa64c", func := "loop.example/g01183/laws.FnExactRunBench", spec := "fnExactRunBench", unfollowed := true, recurses := true, plainKeys := false, apart := false, narrowed := true }
def FnExactRunBenchUptoSaid : Prop := fnExactRunBenchUptoRow.holds Try.pinned (OpenSpec.upto fnExactRunBenchSpec)

/-- 'laws.FnExactGuardPoints', WHERE WHAT IT READS IS OF BULK AT MOST 1048576: true; the input reads as it did. -/
def fnExactGuardPointsUptoRow : OpenClaim := { program := "yteiafboknimgbaa", sum := "55de8ef702ff99e19bac2c51f20e01e5bc0ccf9fa83bf9006aa59a7233baa64c", func := "loop.example/g01183/laws.FnExactGuardPoints", spec := "fnExactGuardPoints", inPlace := ["slices.overlaps[loop.example/g01183/impl.Step]"], unfollowed := true, recurses := true, plainKeys := false, apart := false, narrowed := true }
def FnExactGuardPointsUptoSaid : Prop := fnExactGuardPointsUptoRow.holds Try.pinned (OpenSpec.upto fnExactGuardPointsSpec)

/-- 'laws.FnRuns', WHERE WHAT IT READS IS OF BULK AT MOST 1048576: true; the input reads as it did. -/
def fnRunsUptoRow : OpenClaim := { program := "yteiafboknimgbaa", sum := "55de8ef702ff99e19bac2c51f20e01e5bc0ccf9fa83bf9006aa59a7233baa64c", func := "loop.example/g01183/laws.FnRuns", spec := "fnRuns", unfollowed := true, recurses := true, plainKeys := false, apart := false, narrowed := true }
def FnRunsUptoSaid : Prop := fnRunsUptoRow.holds Try.pinned (OpenSpec.upto fnRunsSpec)

/-- 'laws.FnExits', WHERE WHAT IT READS IS OF BULK AT MOST 1048576: true; the input reads as it did. -/
def fnExitsUptoRow : OpenClaim := { program := "yteiafboknimgbaa", sum := "55de8ef702ff99e19bac2c51f20e01e5bc0ccf9fa83bf9006aa59a7233baa64c", func := "loop.example/g01183/laws.FnExits", spec := "fnExits", unfollowed := true, recurses := true, plainKeys := false, apart := false, narrowed := true }
def FnExitsUptoSaid : Prop := fnExitsUptoRow.holds Try.pinned (OpenSpec.upto fnExitsSpec)

/-- 'laws.FnDeferred', WHERE WHAT IT READS IS OF BULK AT MOST 1048576: true; the input reads as it did. -/
def fnDeferredUptoRow : OpenClaim := { program := "yteiafboknimgbaa", sum := "55de8ef702ff99e19bac2c51f20e01e5bc0ccf9fa83bf9006aa59a7233baa64c", func := "loop.example/g01183/laws.FnDeferred", spec := "fnDeferred", unfollowed := true, recurses := true, plainKeys := false, apart := false, narrowed := true }
def FnDeferredUptoSaid : Prop := fnDeferredUptoRow.holds Try.pinned (OpenSpec.upto fnDeferredSpec)

/-- 'laws.FnCallTrees', WHERE WHAT IT READS IS OF BULK AT MOST 1048576: true; the input reads as it did. -/
def fnCallTreesUptoRow : OpenClaim := { program := "yteiafboknimgbaa", sum := "55de8ef702ff99e19bac2c51f20e01e5bc0ccf9fa83bf9006aa59a7233baa64c", func := "loop.example/g01183/laws.FnCallTrees", spec := "fnCallTrees", unfollowed := true, recurses := true, plainKeys := false, apart := false, narrowed := true }
def FnCallTreesUptoSaid : Prop := fnCallTreesUptoRow.holds Try.pinned (OpenSpec.upto fnCallTreesSpec)

/-- 'laws.FnDeeds', WHERE WHAT IT READS IS OF BULK AT MOST 1048576: true; the input reads as it did. -/
def fnDeedsUptoRow : OpenClaim := { program := "yteiafboknimgbaa", sum := "55de8ef702ff99e19bac2c51f20e01e5bc0ccf9fa83bf9006aa59a7233baa64c", func := "loop.example/g01183/laws.FnDeeds", spec := "fnDeeds", unfollowed := true, recurses := true, plainKeys := false, apart := false, narrowed := true }
def FnDeedsUptoSaid : Prop := fnDeedsUptoRow.holds Try.pinned (OpenSpec.upto fnDeedsSpec)

/-- 'laws.FnKeeping', WHERE WHAT IT READS IS OF BULK AT MOST 1048576: true; the input reads as it did. -/
def fnKeepingUptoRow : OpenClaim := { program := "yteiafboknimgbaa", sum := "55de8ef702ff99e19bac2c51f20e01e5bc0ccf9fa83bf9006aa59a7233baa64c", func := "loop.example/g01183/laws.FnKeeping", spec := "fnKeeping", unfollowed := true, recurses := true, plainKeys := false, apart := false, narrowed := true }
def FnKeepingUptoSaid : Prop := fnKeepingUptoRow.holds Try.pinned (OpenSpec.upto fnKeepingSpec)

/-- 'laws.FnRetries', WHERE WHAT IT READS IS OF BULK AT MOST 1048576: true; the input reads as it did. -/
def fnRetriesUptoRow : OpenClaim := { program := "yteiafboknimgbaa", sum := "55de8ef702ff99e19bac2c51f20e01e5bc0ccf9fa83bf9006aa59a7233baa64c", func := "loop.example/g01183/laws.FnRetries", spec := "fnRetries", unfollowed := true, recurses := true, plainKeys := false, apart := false, narrowed := true }
def FnRetriesUptoSaid : Prop := fnRetriesUptoRow.holds Try.pinned (OpenSpec.upto fnRetriesSpec)

/-- 'laws.FnSameRuns', WHERE WHAT IT READS IS OF BULK AT MOST 1048576: true; the input reads as it did. -/
def fnSameRunsUptoRow : OpenClaim := { program := "yteiafboknimgbaa", sum := "55de8ef702ff99e19bac2c51f20e01e5bc0ccf9fa83bf9006aa59a7233baa64c", func := "loop.example/g01183/laws.FnSameRuns", spec := "fnSameRuns", unfollowed := true, recurses := true, plainKeys := false, apart := false, narrowed := true }
def FnSameRunsUptoSaid : Prop := fnSameRunsUptoRow.holds Try.pinned (OpenSpec.upto fnSameRunsSpec)

/-- 'laws.FnFates', WHERE WHAT IT READS IS OF BULK AT MOST 1048576: true; the input reads as it did. -/
def fnFatesUptoRow : OpenClaim := { program := "yteiafboknimgbaa", sum := "55de8ef702ff99e19bac2c51f20e01e5bc0ccf9fa83bf9006aa59a7233baa64c", func := "loop.example/g01183/laws.FnFates", spec := "fnFates", unfollowed := true, recurses := true, plainKeys := false, apart := false, narrowed := true }
def FnFatesUptoSaid : Prop := fnFatesUptoRow.holds Try.pinned (OpenSpec.upto fnFatesSpec)

/-- 'laws.FnSessions', WHERE WHAT IT READS IS OF BULK AT MOST 1048576: true; the input reads as it did. -/
def fnSessionsUptoRow : OpenClaim := { program := "yteiafboknimgbaa", sum := "55de8ef702ff99e19bac2c51f20e01e5bc0ccf9fa83bf9006aa59a7233baa64c", func := "loop.example/g01183/laws.FnSessions", spec := "fnSessions", unfollowed := true, recurses := true, plainKeys := false, apart := false, narrowed := true }
def FnSessionsUptoSaid : Prop := fnSessionsUptoRow.holds Try.pinned (OpenSpec.upto fnSessionsSpec)

end Rows
end Go.Proofs.Yteiafboknimgbaa
