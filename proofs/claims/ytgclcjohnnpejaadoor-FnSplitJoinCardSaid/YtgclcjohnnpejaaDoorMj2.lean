-- texts of this session, and of the kit's print, cut to what the claim leans on
import Derived.Test.YtgclcjohnnpejaaDoorMj0
import Derived.Below
import Derived.Test.YtgclcjohnnpejaaDoorMj1
import Derived.Lib.SmallJoins
import Derived.Lib.AppendIntMem
import Derived.Test.YtgclcjohnnpejaaDoorRows
import Derived.Test.YtgclcjohnnpejaaDoorCards
import Derived.Test.YtgclcjohnnpejaaDoorTie
import Derived.WalkKit
import Derived.ProofKit
import Derived.OpenShut
import Derived.ShutString
import Derived.ChangeOld
import Derived.SizedLaws
import Derived.HandedShaped
import Derived.LaidMore
import Derived.LaidLaws
import Derived.Stop.LaidErr
import Derived.Lib.LaidTab
import Derived.SevenTiedAt
import Derived.Lay
section
namespace Go.Proofs.YtgclcjohnnpejaaDoor.Pt
open Go.RowKit Go.Proofs.YtgclcjohnnpejaaDoorW.PrintWords
structure Glob (w : World) : Prop where
  max : ∃ m, w.cell? ⟨0, 0, none⟩ = some (.int .i64 m)
theorem Glob.below {w w' : World} (h : Glob w) (hb : Below w.heap.size w w') : Glob w' := by
  obtain ⟨m, hm⟩ := h
  exact ⟨m, (hb.cell (World.block_lt_of_cell? w _ hm)).trans hm⟩
theorem indexByte_mem : ∀ (l : List UInt8) (c : UInt8), (0 ≤ Lib.indexByte l c) ↔ c ∈ l
  | [], c => by simp [Lib.indexByte]
  | b :: l, c => by
    have ih := indexByte_mem l c
    have hg := Lib.indexByte_ge l c
    unfold Lib.indexByte
    by_cases h : b = c
    · subst h; simp
    · have h1 : (b == c) = false := by simpa using h
      rw [h1]
      by_cases h2 : Lib.indexByte l c = -1
      · have : c ∉ l := fun hc => by have := ih.2 hc; omega
        simp [h2, this, Ne.symm h]
      · have h3 : (Lib.indexByte l c == -1) = false := by simpa using h2
        have : c ∈ l := ih.1 (by omega)
        simp only [h3, this, List.mem_cons, or_true, iff_true]
        simp
        omega
theorem one_byte {b : ByteArray} (h : b.size = 1) : b = ⟨#[b.data.toList.headD 0]⟩ := by
  obtain ⟨⟨l⟩⟩ := b
  have hl : l.length = 1 := h
  match l, hl with
  | [x], _ => rfl
def strings_Contains.f (a b : ByteArray) : Option Bool := if b.size = 1 then some (decide (b.data.toList.headD 0 ∈ a.data.toList)) else none
theorem strings_Contains.calls (a b : ByteArray) (r : Bool) (w : World) (h : strings_Contains.f a b = some r) :
    Calls Tryd.prog 71 #[.string a, .string b] w fun e w' => e = .returned (.bool r) ∧ Drawn0 w w' := by
  unfold strings_Contains.f at h
  by_cases h1 : b.size = 1
  · rw [if_pos h1] at h
    have hb := one_byte h1
    generalize b.data.toList.headD 0 = c at h hb
    subst hb
    refine (Tryd.strings_Contains_one a c w).mono ?_
    rintro e w' ⟨rfl, rfl⟩
    refine ⟨?_, ⟨0, rfl⟩⟩
    injection h with h
    rw [← h, decide_eq_decide.2 (indexByte_mem a.data.toList c)]
  · rw [if_neg h1] at h; cases h
def strings_Split.f (a b : ByteArray) : Option (List ByteArray) := if b.size = 1 ∧ a.size < 4294967281 then some (Lib.splitB b 0 (Lib.countB a b) a) else none
theorem strings_Split.calls (a b : ByteArray) (r : List ByteArray) (w : World) (hgl : Glob w) (h : strings_Split.f a b = some r) :
    Calls Tryd.prog 68 #[.string a, .string b] w fun e w' => ∃ v0_ : Value, e = .returned (v0_) ∧ Kd.R Kd.string 9 w' w.heap.size (fun _ => True) v0_ r ∧ Below w.heap.size w w' := by
  unfold strings_Split.f at h
  by_cases h1 : b.size = 1 ∧ a.size < 4294967281
  · rw [if_pos h1] at h
    obtain ⟨m, hm⟩ := hgl.max
    have hl := Lib.splitB_all b (by omega) 0 _ a rfl
    have hc := Lib.countB_le b (by omega) a.size a (Nat.le_refl _)
    have hr := Option.some.inj h
    refine (Tryd.strings_Split a b m w h1.2 hm (by omega)).mono ?_
    rintro e w' ⟨rfl, rfl⟩
    refine ⟨_, rfl, ?_, below_alloc (Below.refl _ _) _⟩
    subst hr
    refine Kd.R_of_own ⟨?_, .inr ⟨w.heap.size, _, _, ?_, Nat.le_refl _, heap_alloc_new w _, Nat.le_refl _, ?_, ?_, ?_⟩⟩ (fun _ _ => trivial)
    · simp [encs]
    · rw [hl]
    · rw [hl]; simp only [maxLen]; omega
    · simp
    · rw [List.take_of_length_le (by simp)]; rfl
  · rw [if_neg h1] at h; cases h
def strings_Join.f (l : List ByteArray) (s : ByteArray) : Option ByteArray := if l.length ≤ 140737488355328 ∧ (Lib.join (l.map (·.data.toList)) s.data.toList).length ≤ 140737488355328 then some ⟨(Lib.join (l.map (·.data.toList)) s.data.toList).toArray⟩ else none
theorem strings_Join.calls (A0 : Option Addr) (c0 : Nat) (l0 : List ByteArray) (a1 : ByteArray) (r : ByteArray) (w : World) (hr0 : Kd.C Kd.string w A0 l0.length l0) (hc0 : l0.length ≤ c0) (h : strings_Join.f l0 a1 = some r) :
    Calls Tryd.prog 72 #[.slice A0 l0.length c0, .string a1] w fun e w' => e = .returned (.string r) ∧ Below w.heap.size w w' := by
  unfold strings_Join.f at h
  by_cases h1 : l0.length ≤ 140737488355328 ∧ (Lib.join (l0.map (·.data.toList)) a1.data.toList).length ≤ 140737488355328
  · rw [if_pos h1] at h
    have hr := Option.some.inj h
    subst hr
    cases l0 with
    | nil =>
      refine (Tryd.strings_Join_none A0 c0 a1 w).mono ?_
      rintro e w' ⟨rfl, rfl⟩
      exact ⟨rfl, Below.refl _ _⟩
    | cons x l =>
      obtain ⟨ad, rfl, hc⟩ := hr0.2.2 (by simp)
      have cell : ∀ (j : Nat) y, (x :: l)[j]? = some y → w.cell? (ad.add j) = some (.string y) := by
        intro j y hj
        obtain ⟨c, hcl, hk, hcell⟩ := hc j y hj
        have hk' : c = [.string y] := hk
        subst hk'
        have := hcell 0 _ rfl
        rwa [show j * Kd.string.sz + 0 = j from by show j * 1 + 0 = j; omega] at this
      obtain ⟨bk, o, sp⟩ := ad
      have h0 := cell 0 x rfl
      have hsp : sp = none := by
        cases sp with
        | none => rfl
        | some z =>
          exfalso
          rw [show (⟨bk, o, some z⟩ : Addr).add 0 = ⟨bk, o, some z⟩ from rfl] at h0
          unfold World.cell? at h0
          split at h0 <;> simp at h0
      subst hsp
      refine (Tryd.strings_Join bk o c0 (x :: l) a1 w (fun j y hj => ?_) (World.block_lt_of_cell? w _ h0) h1.1 hc0 h1.2).mono ?_
      · have := cell j y hj
        rwa [show (⟨bk, o, none⟩ : Addr).add j = ⟨bk, o + j, none⟩ from by unfold Addr.add; split <;> simp_all] at this
      · rintro e w' ⟨rfl, hb⟩
        exact ⟨rfl, hb⟩
  · rw [if_neg h1] at h; cases h
end Go.Proofs.YtgclcjohnnpejaaDoor.Pt
end

section
set_option linter.unusedVariables false
namespace Go.Proofs.YtgclcjohnnpejaaDoor.DoorRow
open Go.ChangeShapes Go.WideShapes Go.ChangeAt Go.RowKit Go.Joins
theorem handed_and_shaped {H : Type} {enc : TypeId × Value → H} {a : Assume} {C : Checked} {os : Os} {f : FuncId} {fn : Func} {s : ChangeSpec} {conds : List PathCond} {apart fresh handsOn again : Bool} {X : World → Array Value → Prop}
    (hX : ∀ (w w' : World) (args : Array Value), w.heap = w'.heap → X w args → X w' args)
    (own : ownKnob C.prog.godebug = none) (started : os.Started) (noInit : C.prog.inits.idxOf? f = none) (hfn : C.prog.funcs[f]? = some fn)
    (witness : ∃ (w : World) (tape : Tape) (i : Input), w.os = os ∧ (w.forCall tape i).Shaped C.prog ∧ i.vars = [] ∧ Input.okWide C.prog (w.forCall tape i) .any w.heap.size f i ∧
      ((s.pre enc C.prog fn conds apart (w.forCall tape i).memory i.args ∧ X (w.forCall tape i).memory i.args) ∧ sizedMet enc C.prog fn (OpenSpec.ofChange s) apart (w.forCall tape i).memory i.args) ∧ a.holds C.prog (lone (Frame.enter C.prog f i.args .normal) [] (w.forCall tape i)))
    (contract : ∀ (W : World) (base : Nat) (args : Array Value) (ds gs : List (DataW H)) (before : List MemPlace),
      (∀ (j : Nat) t v, fn.params[j]? = some t → args[j]? = some v → Value.okWide C.prog W .any base t v) →
      DataW.Whole enc C.prog fn.params.toList s.vars apart W args.toList ds gs before →
      (DataW.weightsEach C.prog (fn.params.toList ++ s.plain.varTypes C.prog) (ds ++ gs)).all (· ≤ reachBytes) = true → X W args →
      W.ShapedOpen C.prog →
      Calls C.prog f args W fun e W' => ∃ v, e = .returned v ∧ s.post enc C.prog fn apart fresh handsOn again W args v W') :
    ReturnsInHanded a C os f .any (fun w args => (s.pre enc C.prog fn conds apart w args ∧ X w args) ∧ sizedMet enc C.prog fn (OpenSpec.ofChange s) apart w args) (s.post enc C.prog fn apart fresh handsOn again) := by
  refine returnsInHanded_of_calls own started noInit witness ?_
  intro w tape i _ hsh _ hok hpre _
  obtain ⟨_, _, _, fn', hfn', _, _, _, _, hval⟩ := hok
  have e : fn' = fn := Option.some.inj (hfn'.symm.trans hfn)
  subst e
  obtain ⟨⟨⟨ds, gs, before, hw, _⟩, hx⟩, hz⟩ := hpre
  have hw' := DataW.Whole.of_heap (w' := w.forCall tape i) (by rfl) hw
  refine (contract (w.forCall tape i) w.heap.size i.args ds gs before hval hw' (hz.weights hw) (hX _ _ _ (by rfl) hx) hsh).mono fun e W' ⟨v, he, hp⟩ => ?_
  subst he
  exact ChangeSpec.post_blind hp
theorem own : ownKnob Tryd.prog.godebug = none := by kernel_rfl
abbrev laid3 : List (String × DataW Unit) := [("unicode/utf8.acceptRanges", Rows.laid_unicode_utf8_acceptRanges), ("unicode/utf8.first", Rows.laid_unicode_utf8_first)]
theorem door_met (os : Os) (args : Array Value) : laidMetH Tryd.prog laid3 ((World.laidAll Tryd.prog os laid3).forCall (fun _ _ => 0) ⟨#[], args, []⟩).memory := by
  rw [MakeChecks.laidMetH_plain _ _ _ (by kernel_rfl)]
  exact laidMet_laidAll args (by kernel_rfl) (by kernel_rfl)
theorem glob_of {W : World} (hsh : W.ShapedOpen Tryd.prog) (hL : laidMetH Tryd.prog laid3 W) : Pt.Glob W := ⟨Tryd.laysM145.s1_3 W hsh⟩
end Go.Proofs.YtgclcjohnnpejaaDoor.DoorRow
end
