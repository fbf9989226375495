-- texts of this session, and of the kit's print, cut to what the claim leans on
import Derived.Test.YthdhhpcbagpmgaaDoorKc0
import Derived.Below
import Derived.Test.YthdhhpcbagpmgaaDoorKc1
import Derived.Lib.SmallJoins
import Derived.Lib.AppendIntMem
import Derived.Test.YthdhhpcbagpmgaaDoorRows
import Derived.Test.YthdhhpcbagpmgaaDoorCards
import Derived.Test.YthdhhpcbagpmgaaDoorTie
import Derived.WalkKit
import Derived.ProofKit
import Derived.OpenShut
import Derived.ShutString
import Derived.ChangeOld
import Derived.SizedLaws
import Derived.HandedShaped
import Derived.LaidMore
import Derived.LaidLaws
import Derived.Stop.LaidErr
import Derived.Lib.LaidTab
import Derived.SevenTiedAt
section
namespace Go.Proofs.YthdhhpcbagpmgaaDoor.Pr
open Go.RowKit Go.Proofs.YthdhhpcbagpmgaaDoorW.PrintWords
structure Glob (w : World) : Prop where
 max : ∃ m, w.cell? ⟨0, 0, none⟩ = some (.int .i64 m)
 pow : Lib.TabIs Tryd.prog w "internal/strconv.uint64pow10" .u64 Lib.pow10Tab
theorem Glob.below {w w' : World} (h : Glob w) (hb : Below w.heap.size w w') : Glob w' := by
 obtain ⟨⟨m, hm⟩, hp⟩ := h
 refine ⟨⟨m, (hb.cell (World.block_lt_of_cell? w _ hm)).trans hm⟩, ?_⟩
 exact Lib.tabBelow_of_tabIs hp w' hb
theorem indexByte_mem : ∀ (l : List UInt8) (c : UInt8), (0 ≤ Lib.indexByte l c) ↔ c ∈ l
 | [], c => by simp [Lib.indexByte]
 | b :: l, c => by
  have ih := indexByte_mem l c
  have hg := Lib.indexByte_ge l c
  unfold Lib.indexByte
  by_cases h : b = c
  ·subst h; simp
  ·have h1 : (b == c) = false := by simpa using h
   rw [h1]
   by_cases h2 : Lib.indexByte l c = -1
   ·have : c ∉ l := fun hc => by have := ih.2 hc; omega
    simp [h2, this, Ne.symm h]
   ·have h3 : (Lib.indexByte l c == -1) = false := by simpa using h2
    have : c ∈ l := ih.1 (by omega)
    simp only [h3, this, List.mem_cons, or_true, iff_true]
    simp
    omega
theorem one_byte {b : ByteArray} (h : b.size = 1) : b = ⟨#[b.data.toList.headD 0]⟩ := by
 obtain ⟨⟨l⟩⟩ := b
 have hl : l.length = 1 := h
 match l, hl with
 | [x], _ => rfl
def strings_Contains.f (a b : ByteArray) : Option Bool := if b.size = 1 then some (decide (b.data.toList.headD 0 ∈ a.data.toList)) else none
theorem strings_Contains.calls (a b : ByteArray) (r : Bool) (w : World) (h : strings_Contains.f a b = some r) :
  Calls Tryd.prog 69 #[.string a, .string b] w fun e w' => e = .returned (.bool r) ∧ Drawn0 w w' := by
 unfold strings_Contains.f at h
 by_cases h1 : b.size = 1
 ·rw [if_pos h1] at h
  have hb := one_byte h1
  generalize b.data.toList.headD 0 = c at h hb
  subst hb
  refine (Tryd.strings_Contains_one a c w).mono ?_
  rintro e w' ⟨rfl, rfl⟩
  refine ⟨?_, ⟨0, rfl⟩⟩
  injection h with h
  rw [← h, decide_eq_decide.2 (indexByte_mem a.data.toList c)]
 ·rw [if_neg h1] at h; cases h
def cutAt (l : List UInt8) (c : UInt8) : List UInt8 × List UInt8 × Bool :=
 if c ∈ l then (l.takeWhile (· != c), (l.dropWhile (· != c)).tail, true) else (l, [], false)
theorem index_one : ∀ (l : List UInt8) (c : UInt8), Lib.index l [c] = if c ∈ l then ((l.takeWhile (· != c)).length : Int) else -1
 | [], c => by simp [Lib.index]
 | b :: l, c => by
  have ih := index_one l c
  unfold Lib.index
  by_cases h : b = c
  ·subst h; simp
  ·have h1 : (c == b) = false := by simpa using Ne.symm h
   have h2 : (b != c) = true := by simpa using h
   rw [ih]
   by_cases hm : c ∈ l
   ·have h4 : ((((l.takeWhile (· != c)).length : Int)) == -1) = false := by rw [beq_eq_false_iff_ne]; omega
    simp [hm, h1, h2, h4, List.isPrefixOf]
   ·simp [hm, h1, Ne.symm h, List.isPrefixOf]
theorem drop_takeWhile : ∀ (l : List UInt8) (p : UInt8 → Bool), l.drop (l.takeWhile p).length = l.dropWhile p
 | [], _ => rfl
 | b :: l, p => by
  by_cases h : p b = true
  ·simp [h, drop_takeWhile l p]
  ·simp [h]
theorem cut_one (l : List UInt8) (c : UInt8) : Lib.cut l [c] = cutAt l c := by
 unfold Lib.cut cutAt
 rw [index_one]
 by_cases hm : c ∈ l
 ·simp only [hm, if_true]
  rw [if_pos (by omega)]
  simp only [Int.toNat_natCast, List.length_singleton]
  rw [← drop_takeWhile l, List.tail_drop]
  congr 1
  exact (List.prefix_iff_eq_take.1 (List.takeWhile_prefix _)).symm
 ·simp [hm]
def strings_Cut.f (a b : ByteArray) : Option (ByteArray × ByteArray × Bool) :=
 if b.size = 1 ∧ a.size < 4294967281 then
  some (⟨(cutAt a.data.toList (b.data.toList.headD 0)).1.toArray⟩, ⟨(cutAt a.data.toList (b.data.toList.headD 0)).2.1.toArray⟩, (cutAt a.data.toList (b.data.toList.headD 0)).2.2)
 else none
theorem strings_Cut.calls (a b : ByteArray) (r1 r2 : ByteArray) (r3 : Bool) (w : World) (hgl : Glob w) (h : strings_Cut.f a b = some (r1, r2, r3)) :
  Calls Tryd.prog 52 #[.string a, .string b] w fun e w' => e = .returned (.tuple #[.string r1, .string r2, .bool r3]) ∧ Below w.heap.size w w' := by
 unfold strings_Cut.f at h
 by_cases h1 : b.size = 1 ∧ a.size < 4294967281
 ·rw [if_pos h1] at h
  have hb := one_byte h1.1
  generalize b.data.toList.headD 0 = c at h hb
  subst hb
  obtain ⟨m, hm⟩ := hgl.max
  refine (Tryd.strings_Cut a ⟨#[c]⟩ m w h1.2 hm).mono ?_
  rintro e w' ⟨rfl, n, rfl⟩
  refine ⟨?_, pw_below_drewN (Below.refl _ _) n⟩
  have e1 : (⟨#[c]⟩ : ByteArray).data.toList = [c] := rfl
  rw [e1, cut_one]
  injection h with h
  injection h with h1 h2
  injection h2 with h2 h3
  rw [h1, h2, h3]
 ·rw [if_neg h1] at h; cases h
def strconv_Itoa.f (n : Int) : Option ByteArray := if -9223372036854775808 ≤ n ∧ n ≤ 9223372036854775807 then some ⟨(Lib.itoa n).toArray⟩ else none
theorem strconv_Itoa.calls (n : Int) (r : ByteArray) (w : World) (hgl : Glob w) (h : strconv_Itoa.f n = some r) :
  Calls Tryd.prog 62 #[.int .i64 n] w fun e w' => e = .returned (.string r) ∧ Below w.heap.size w w' := by
 unfold strconv_Itoa.f at h
 by_cases h1 : -9223372036854775808 ≤ n ∧ n ≤ 9223372036854775807
 ·rw [if_pos h1] at h
  refine (Tryd.strconv_Itoa n h1.1 h1.2 w hgl.pow).mono ?_
  rintro e w' ⟨rfl, k, os, rfl⟩
  injection h with h
  exact ⟨by rw [h], Lib.below_grow _ _ (Nat.le_refl _) _ _⟩
 ·rw [if_neg h1] at h; cases h
end Go.Proofs.YthdhhpcbagpmgaaDoor.Pr
end

section
namespace Go.Proofs.YthdhhpcbagpmgaaDoor.DoorRow
open Go.ChangeShapes Go.WideShapes Go.ChangeAt Go.RowKit Go.Joins
theorem handed_and_shaped {H : Type} {enc : TypeId × Value → H} {a : Assume} {C : Checked} {os : Os} {f : FuncId} {fn : Func} {s : ChangeSpec} {conds : List PathCond} {apart fresh handsOn again : Bool} {X : World → Array Value → Prop}
  (hX : ∀ (w w' : World) (args : Array Value), w.heap = w'.heap → X w args → X w' args)
  (own : ownKnob C.prog.godebug = none) (started : os.Started) (noInit : C.prog.inits.idxOf? f = none) (hfn : C.prog.funcs[f]? = some fn)
  (witness : ∃ (w : World) (tape : Tape) (i : Input), w.os = os ∧ (w.forCall tape i).Shaped C.prog ∧ i.vars = [] ∧ Input.okWide C.prog (w.forCall tape i) .any w.heap.size f i ∧
   ((s.pre enc C.prog fn conds apart (w.forCall tape i).memory i.args ∧ X (w.forCall tape i).memory i.args) ∧ sizedMet enc C.prog fn (OpenSpec.ofChange s) apart (w.forCall tape i).memory i.args) ∧ a.holds C.prog (lone (Frame.enter C.prog f i.args .normal) [] (w.forCall tape i)))
  (contract : ∀ (W : World) (base : Nat) (args : Array Value) (ds gs : List (DataW H)) (before : List MemPlace),
   (∀ (j : Nat) t v, fn.params[j]? = some t → args[j]? = some v → Value.okWide C.prog W .any base t v) →
   DataW.Whole enc C.prog fn.params.toList s.vars apart W args.toList ds gs before →
   (DataW.weightsEach C.prog (fn.params.toList ++ s.plain.varTypes C.prog) (ds ++ gs)).all (· ≤ reachBytes) = true → X W args →
   W.ShapedOpen C.prog →
   Calls C.prog f args W fun e W' => ∃ v, e = .returned v ∧ s.post enc C.prog fn apart fresh handsOn again W args v W') :
  ReturnsInHanded a C os f .any (fun w args => (s.pre enc C.prog fn conds apart w args ∧ X w args) ∧ sizedMet enc C.prog fn (OpenSpec.ofChange s) apart w args) (s.post enc C.prog fn apart fresh handsOn again) := by
 refine returnsInHanded_of_calls own started noInit witness ?_
 intro w tape i _ hsh _ hok hpre _
 obtain ⟨_, _, _, fn', hfn', _, _, _, _, hval⟩ := hok
 have e : fn' = fn := Option.some.inj (hfn'.symm.trans hfn)
 subst e
 obtain ⟨⟨⟨ds, gs, before, hw, _⟩, hx⟩, hz⟩ := hpre
 have hw' := DataW.Whole.of_heap (w' := w.forCall tape i) (by rfl) hw
 refine (contract (w.forCall tape i) w.heap.size i.args ds gs before hval hw' (hz.weights hw) (hX _ _ _ (by rfl) hx) hsh).mono fun e W' ⟨v, he, hp⟩ => ?_
 subst he
 exact ChangeSpec.post_blind hp
theorem own : ownKnob Tryd.prog.godebug = none := by kernel_rfl
abbrev laid3 : List (String × DataW Unit) := [("math/bits.deBruijn32tab", Rows.laid_math_bits_deBruijn32tab), ("math/bits.deBruijn64tab", Rows.laid_math_bits_deBruijn64tab), ("internal/strconv.uint64pow10", Rows.laid_internal_strconv_uint64pow10)]
theorem door_met (os : Os) (args : Array Value) : laidMetH Tryd.prog laid3 ((World.doorLaid Tryd.prog 4000 os).forCall (fun _ _ => 0) ⟨#[], args, []⟩).memory :=
 laidMetH_of_parts3 (fuel := 10) (laidMet_of_run' 10 (by kernel_rfl) (by kernel_rfl)) (by kernel_rfl) (by kernel_rfl)
theorem gPow : Tryd.prog.globalNamed "internal/strconv.uint64pow10" = some 1 := by kernel_rfl
theorem tPow : (Tryd.prog.globals[1]?).map (·.type) = some 123 := by kernel_rfl
theorem cPow : Tryd.prog.cellsOf 123 = 20 := by kernel_rfl
theorem cU64 : Tryd.prog.cellsOf 116 = 1 := by kernel_rfl
theorem glob_of {W : World} (hsh : W.ShapedOpen Tryd.prog) (hL : laidMetH Tryd.prog laid3 W) : Pr.Glob W := by
 refine ⟨Tryd.laysM145.s1_3 W hsh, ?_⟩
 rw [MakeChecks.laidMetH_plain _ _ _ (by kernel_rfl)] at hL
 exact Lib.tabIs_of_head gPow tPow Tryd.underlying123 Tryd.underlying116 cU64 cPow (show laidMet Tryd.prog [("internal/strconv.uint64pow10", Lib.tabData .u64 Lib.pow10Tab)] W from hL.tail.tail)
end Go.Proofs.YthdhhpcbagpmgaaDoor.DoorRow
end
