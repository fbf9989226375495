-- texts of this session, and of the kit's print, cut to what the claim leans on
import Derived.Test.YtgclcjohnnpejaaDoorMc4
import Derived.Test.YtgclcjohnnpejaaDoorMc5
import Derived.Test.YtgclcjohnnpejaaDoorMc6
import Derived.Test.YtgclcjohnnpejaaDoorMc2
section
namespace Go.Proofs.YtgclcjohnnpejaaDoor.Pr
open Go.RowKit Go.Proofs.YtgclcjohnnpejaaDoorW.PrintWords Go.Proofs.YtgclcjohnnpejaaDoorW.PrintLast Go.Proofs.YtgclcjohnnpejaaDoorW.PrintMore
attribute [local go_sem] max2_int min2_int max_two min_two max_three min_three max_four min_four
set_option linter.unusedVariables false
set_option linter.unusedSimpArgs false
theorem z36_0 {P : Prop} (h : P := by repeat (first | (with_reducible first | exact HK.out | apply KeepBut.set_ | apply keep_drewN | apply keep_drew | apply keep_alloc) | exact HK.out)) : P := h
theorem z36_1 {P : Prop} (h : P := by (try simp only [List.map_toArray, List.map_cons, List.map_nil]); first | done | rfl | (simp only [List.length_drop, List.length_take]; rfl)) : P := h
theorem z36_2 {P : Prop} (h : P := by repeat (first | (with_reducible first | exact HB.out | apply below_alloc | apply pw_below_drewN | apply below_drew1 | refine below_set ?_ (IsS83.ge HI0.out)) | exact HB.out)) : P := h
theorem z36_3 {P : Prop} (h : P := by repeat (first | (with_reducible first | exact HI0.out | apply IsS83.alloc | apply IsS83.drewN | apply IsS83.drew | apply IsS83.set_1 | apply IsS83.set_2) | exact HI0.out)) : P := h
theorem z36_4 {P : Prop} (h : P := by kernel_rfl) : P := h
def spec_l1Cur_spoilt.f (s0_0 : List Int) (s0_1 : Int) (s0_2 : Int) (a1 : ByteArray) (a2 : ByteArray) : Option (ByteArray × Int × Int) := if a1.toList = ([] : List UInt8) then (if 0 ≤ 1 then (if 1 ≤ (a2.size : Int) then (some (a2.extract 0 1, s0_1, s0_2)) else (none)) else (none)) else ((spec_l1Cur_pick.f s0_0 s0_1 s0_2 (a1.size : Int)).bind fun bt593 => ((spec_l1Cur_pick.f s0_0 bt593.2.1 bt593.2.2 (a2.size : Int)).bind fun bt596 => (if 0 ≤ bt596.1 then (if bt596.1 ≤ (a2.size : Int) then (if 0 ≤ 1 then (if 1 ≤ ((a2.size - (bt596.1 : Int).toNat) : Int) then ((spec_l1Cur_pick.f s0_0 bt596.2.1 bt596.2.2 3).bind fun bt599 => (if bt599.1 = 0 then (if 0 ≤ bt593.1 then (if bt593.1 ≤ (a1.size : Int) then (if (a1.extract 0 (bt593.1 : Int).toNat).size + ((a2.extract (bt596.1 : Int).toNat a2.size).extract 0 1).size ≤ 9223372036854775807 then (if ((a1.extract 0 (bt593.1 : Int).toNat).size + ((a2.extract (bt596.1 : Int).toNat a2.size).extract 0 1).size) + (a1.size - (bt593.1 : Int).toNat) ≤ 9223372036854775807 then (some (((a1.extract 0 (bt593.1 : Int).toNat) ++ ((a2.extract (bt596.1 : Int).toNat a2.size).extract 0 1)) ++ (a1.extract (bt593.1 : Int).toNat a1.size), bt599.2.1, bt599.2.2)) else (none)) else (none)) else (none)) else (none)) else (if bt599.1 = 1 then (if 0 ≤ bt593.1 then (if bt593.1 ≤ (a1.size : Int) then (if (a1.extract 0 (bt593.1 : Int).toNat).size + ((a2.extract (bt596.1 : Int).toNat a2.size).extract 0 1).size ≤ 9223372036854775807 then (if 0 ≤ (wrap64 (bt593.1 + 1)) then (if (wrap64 (bt593.1 + 1)) ≤ (a1.size : Int) then (if ((a1.extract 0 (bt593.1 : Int).toNat).size + ((a2.extract (bt596.1 : Int).toNat a2.size).extract 0 1).size) + (a1.size - ((wrap64 (bt593.1 + 1)) : Int).toNat) ≤ 9223372036854775807 then (some (((a1.extract 0 (bt593.1 : Int).toNat) ++ ((a2.extract (bt596.1 : Int).toNat a2.size).extract 0 1)) ++ (a1.extract ((wrap64 (bt593.1 + 1)) : Int).toNat a1.size), bt599.2.1, bt599.2.2)) else (none)) else (none)) else (none)) else (none)) else (none)) else (none)) else (if 0 ≤ bt593.1 then (if bt593.1 ≤ (a1.size : Int) then (if 0 ≤ (wrap64 (bt593.1 + 1)) then (if (wrap64 (bt593.1 + 1)) ≤ (a1.size : Int) then (if (a1.extract 0 (bt593.1 : Int).toNat).size + (a1.size - ((wrap64 (bt593.1 + 1)) : Int).toNat) ≤ 9223372036854775807 then (some ((a1.extract 0 (bt593.1 : Int).toNat) ++ (a1.extract ((wrap64 (bt593.1 + 1)) : Int).toNat a1.size), bt599.2.1, bt599.2.2)) else (none)) else (none)) else (none)) else (none)) else (none))))) else (none)) else (none)) else (none)) else (none))))
def spec_l1Cur_spoilt.T7 : Bool × List (List Nat × List Nat) := (true, [([], []), ([], []), ([0, 1], [0, 1]), ([], []), ([2, 3], [2, 3]), ([], []), ([], []), ([5, 6], [5, 6]), ([4, 7], [4, 7]), ([8, 0, 1, 2, 3, 4, 5, 6, 7, 8], [8])])
def spec_l1Cur_spoilt.B7 : List Nat := [0, 0, 3, 0, 15, 0, 0, 96, 255, 511]
theorem spec_l1Cur_spoilt.tab7 : rtab .any (opsOf Tryd.f91 7) = spec_l1Cur_spoilt.T7 := by kernel_rfl
theorem spec_l1Cur_spoilt.bits7 : waitsOk spec_l1Cur_spoilt.T7.2 spec_l1Cur_spoilt.B7 = true := by kernel_rfl
def spec_l1Cur_spoilt.T9 : Bool × List (List Nat × List Nat) := (true, [([], []), ([], []), ([0, 1], [0, 1]), ([], []), ([2, 3], [2, 3]), ([], []), ([], []), ([6], [6]), ([5, 7], [5, 7]), ([4, 8], [4, 8]), ([9, 0, 1, 2, 3, 4, 5, 6, 7, 8, 9], [9])])
def spec_l1Cur_spoilt.B9 : List Nat := [0, 0, 3, 0, 15, 0, 0, 64, 224, 511, 1023]
theorem spec_l1Cur_spoilt.tab9 : rtab .any (opsOf Tryd.f91 9) = spec_l1Cur_spoilt.T9 := by kernel_rfl
theorem spec_l1Cur_spoilt.bits9 : waitsOk spec_l1Cur_spoilt.T9.2 spec_l1Cur_spoilt.B9 = true := by kernel_rfl
def spec_l1Cur_spoilt.T10 : Bool × List (List Nat × List Nat) := (true, [([], []), ([], []), ([0, 1], [0, 1]), ([], []), ([], []), ([4], [4]), ([3, 5], [3, 5]), ([2, 6], [2, 6]), ([7, 0, 1, 2, 3, 4, 5, 6, 7], [7])])
def spec_l1Cur_spoilt.B10 : List Nat := [0, 0, 3, 0, 0, 16, 56, 127, 255]
theorem spec_l1Cur_spoilt.tab10 : rtab .any (opsOf Tryd.f91 10) = spec_l1Cur_spoilt.T10 := by kernel_rfl
theorem spec_l1Cur_spoilt.bits10 : waitsOk spec_l1Cur_spoilt.T10.2 spec_l1Cur_spoilt.B10 = true := by kernel_rfl
set_option maxHeartbeats 8000000 in
set_option maxRecDepth 100000 in
theorem spec_l1Cur_spoilt.calls (g : Nat) (s0_0 : List Int) (s0_1 : Int) (s0_2 : Int) (a1 : ByteArray) (a2 : ByteArray) (r1 : ByteArray) (r2 : Int) (r3 : Int) (w0 w : World) (hI : IsS83 w0 w g s0_0 s0_1 s0_2) (hB : Below w0.heap.size w0 w) (h : spec_l1Cur_spoilt.f s0_0 s0_1 s0_2 a1 a2 = some (r1, r2, r3)) :
    Calls Tryd.prog 91 #[.pointer (some ⟨g, 0, none⟩), .string a1, .string a2] w fun e w' => e = .returned (.string r1) ∧ IsS83 w0 w' g s0_0 r2 r3 ∧ Below w0.heap.size w0 w' ∧ KeepBut w w' g none := by
  have HI0 := Aside0.mk hI
  have HK := Aside0.mk (KeepBut.refl w g none)
  have HL := Aside0.mk hB.size
  clear hI
  have HW0 := Aside0.mk hB.size
  have HB := Aside0.mk hB
  clear hB
  have H : (if a1.toList = ([] : List UInt8) then (if 0 ≤ 1 then (if 1 ≤ (a2.size : Int) then (some (a2.extract 0 1, s0_1, s0_2)) else (none)) else (none)) else ((spec_l1Cur_pick.f s0_0 s0_1 s0_2 (a1.size : Int)).bind fun bt593 => ((spec_l1Cur_pick.f s0_0 bt593.2.1 bt593.2.2 (a2.size : Int)).bind fun bt596 => (if 0 ≤ bt596.1 then (if bt596.1 ≤ (a2.size : Int) then (if 0 ≤ 1 then (if 1 ≤ ((a2.size - (bt596.1 : Int).toNat) : Int) then ((spec_l1Cur_pick.f s0_0 bt596.2.1 bt596.2.2 3).bind fun bt599 => (if bt599.1 = 0 then (if 0 ≤ bt593.1 then (if bt593.1 ≤ (a1.size : Int) then (if (a1.extract 0 (bt593.1 : Int).toNat).size + ((a2.extract (bt596.1 : Int).toNat a2.size).extract 0 1).size ≤ 9223372036854775807 then (if ((a1.extract 0 (bt593.1 : Int).toNat).size + ((a2.extract (bt596.1 : Int).toNat a2.size).extract 0 1).size) + (a1.size - (bt593.1 : Int).toNat) ≤ 9223372036854775807 then (some (((a1.extract 0 (bt593.1 : Int).toNat) ++ ((a2.extract (bt596.1 : Int).toNat a2.size).extract 0 1)) ++ (a1.extract (bt593.1 : Int).toNat a1.size), bt599.2.1, bt599.2.2)) else (none)) else (none)) else (none)) else (none)) else (if bt599.1 = 1 then (if 0 ≤ bt593.1 then (if bt593.1 ≤ (a1.size : Int) then (if (a1.extract 0 (bt593.1 : Int).toNat).size + ((a2.extract (bt596.1 : Int).toNat a2.size).extract 0 1).size ≤ 9223372036854775807 then (if 0 ≤ (wrap64 (bt593.1 + 1)) then (if (wrap64 (bt593.1 + 1)) ≤ (a1.size : Int) then (if ((a1.extract 0 (bt593.1 : Int).toNat).size + ((a2.extract (bt596.1 : Int).toNat a2.size).extract 0 1).size) + (a1.size - ((wrap64 (bt593.1 + 1)) : Int).toNat) ≤ 9223372036854775807 then (some (((a1.extract 0 (bt593.1 : Int).toNat) ++ ((a2.extract (bt596.1 : Int).toNat a2.size).extract 0 1)) ++ (a1.extract ((wrap64 (bt593.1 + 1)) : Int).toNat a1.size), bt599.2.1, bt599.2.2)) else (none)) else (none)) else (none)) else (none)) else (none)) else (none)) else (if 0 ≤ bt593.1 then (if bt593.1 ≤ (a1.size : Int) then (if 0 ≤ (wrap64 (bt593.1 + 1)) then (if (wrap64 (bt593.1 + 1)) ≤ (a1.size : Int) then (if (a1.extract 0 (bt593.1 : Int).toNat).size + (a1.size - ((wrap64 (bt593.1 + 1)) : Int).toNat) ≤ 9223372036854775807 then (some ((a1.extract 0 (bt593.1 : Int).toNat) ++ (a1.extract ((wrap64 (bt593.1 + 1)) : Int).toNat a1.size), bt599.2.1, bt599.2.2)) else (none)) else (none)) else (none)) else (none)) else (none))))) else (none)) else (none)) else (none)) else (none))))) = some (r1, r2, r3) := h
  clear h
  by_cases c4 : a1.toList = ([] : List UInt8)
  · rw [if_pos c4] at H
    have c4b0 : (a1.toList == ([] : List UInt8)) = true := beq_iff_eq.mpr c4
    have c4b1 : (a1.toList != ([] : List UInt8)) = false := bne_eq_false_iff_eq.mpr c4
    clear c4
    by_cases c5 : 0 ≤ 1
    · rw [if_pos c5] at H
      have c5b0 := eq_true c5
      have c5b1 : decide (0 ≤ 1) = true := decide_eq_true c5
      clear c5
      by_cases c6 : 1 ≤ (a2.size : Int)
      · rw [if_pos c6] at H
        have c6b0 := eq_true c6
        have c6b1 : decide (1 ≤ (a2.size : Int)) = true := decide_eq_true c6
        clear c6
        simp only [Option.some.injEq, Prod.mk.injEq] at H
        obtain ⟨rfl, rfl, rfl⟩ := H
        go_enter Tryd.func91, Tryd.ntmps91
        go_wp2
        go_ret
        exact ⟨by first | rfl | (simp [errW_none, errW_some] <;> rfl) | (simp [*, errW_none, errW_some] <;> rfl), z36_3, z36_2, z36_0⟩
      · rw [if_neg c6] at H
        exact absurd H (by simp)
    · rw [if_neg c5] at H
      exact absurd H (by simp)
  · rw [if_neg c4] at H
    have c4b0 : (a1.toList == ([] : List UInt8)) = false := beq_eq_false_iff_ne.mpr c4
    have c4b1 : (a1.toList != ([] : List UInt8)) = true := bne_iff_ne.mpr c4
    replace H := Option.bind_eq_some_iff.mp H
    obtain ⟨⟨t593, t594, t595⟩, A70, H⟩ := H
    replace H : ((spec_l1Cur_pick.f s0_0 t594 t595 (a2.size : Int)).bind fun bt596 => (if 0 ≤ bt596.1 then (if bt596.1 ≤ (a2.size : Int) then (if 0 ≤ 1 then (if 1 ≤ ((a2.size - (bt596.1 : Int).toNat) : Int) then ((spec_l1Cur_pick.f s0_0 bt596.2.1 bt596.2.2 3).bind fun bt599 => (if bt599.1 = 0 then (if 0 ≤ t593 then (if t593 ≤ (a1.size : Int) then (if (a1.extract 0 (t593 : Int).toNat).size + ((a2.extract (bt596.1 : Int).toNat a2.size).extract 0 1).size ≤ 9223372036854775807 then (if ((a1.extract 0 (t593 : Int).toNat).size + ((a2.extract (bt596.1 : Int).toNat a2.size).extract 0 1).size) + (a1.size - (t593 : Int).toNat) ≤ 9223372036854775807 then (some (((a1.extract 0 (t593 : Int).toNat) ++ ((a2.extract (bt596.1 : Int).toNat a2.size).extract 0 1)) ++ (a1.extract (t593 : Int).toNat a1.size), bt599.2.1, bt599.2.2)) else (none)) else (none)) else (none)) else (none)) else (if bt599.1 = 1 then (if 0 ≤ t593 then (if t593 ≤ (a1.size : Int) then (if (a1.extract 0 (t593 : Int).toNat).size + ((a2.extract (bt596.1 : Int).toNat a2.size).extract 0 1).size ≤ 9223372036854775807 then (if 0 ≤ (wrap64 (t593 + 1)) then (if (wrap64 (t593 + 1)) ≤ (a1.size : Int) then (if ((a1.extract 0 (t593 : Int).toNat).size + ((a2.extract (bt596.1 : Int).toNat a2.size).extract 0 1).size) + (a1.size - ((wrap64 (t593 + 1)) : Int).toNat) ≤ 9223372036854775807 then (some (((a1.extract 0 (t593 : Int).toNat) ++ ((a2.extract (bt596.1 : Int).toNat a2.size).extract 0 1)) ++ (a1.extract ((wrap64 (t593 + 1)) : Int).toNat a1.size), bt599.2.1, bt599.2.2)) else (none)) else (none)) else (none)) else (none)) else (none)) else (none)) else (if 0 ≤ t593 then (if t593 ≤ (a1.size : Int) then (if 0 ≤ (wrap64 (t593 + 1)) then (if (wrap64 (t593 + 1)) ≤ (a1.size : Int) then (if (a1.extract 0 (t593 : Int).toNat).size + (a1.size - ((wrap64 (t593 + 1)) : Int).toNat) ≤ 9223372036854775807 then (some ((a1.extract 0 (t593 : Int).toNat) ++ (a1.extract ((wrap64 (t593 + 1)) : Int).toNat a1.size), bt599.2.1, bt599.2.2)) else (none)) else (none)) else (none)) else (none)) else (none))))) else (none)) else (none)) else (none)) else (none))) = some (r1, r2, r3) := H
    have A7 := Aside0.mk A70
    clear A70
    replace H := Option.bind_eq_some_iff.mp H
    obtain ⟨⟨t596, t597, t598⟩, A80, H⟩ := H
    replace H : (if 0 ≤ t596 then (if t596 ≤ (a2.size : Int) then (if 0 ≤ 1 then (if 1 ≤ ((a2.size - (t596 : Int).toNat) : Int) then ((spec_l1Cur_pick.f s0_0 t597 t598 3).bind fun bt599 => (if bt599.1 = 0 then (if 0 ≤ t593 then (if t593 ≤ (a1.size : Int) then (if (a1.extract 0 (t593 : Int).toNat).size + ((a2.extract (t596 : Int).toNat a2.size).extract 0 1).size ≤ 9223372036854775807 then (if ((a1.extract 0 (t593 : Int).toNat).size + ((a2.extract (t596 : Int).toNat a2.size).extract 0 1).size) + (a1.size - (t593 : Int).toNat) ≤ 9223372036854775807 then (some (((a1.extract 0 (t593 : Int).toNat) ++ ((a2.extract (t596 : Int).toNat a2.size).extract 0 1)) ++ (a1.extract (t593 : Int).toNat a1.size), bt599.2.1, bt599.2.2)) else (none)) else (none)) else (none)) else (none)) else (if bt599.1 = 1 then (if 0 ≤ t593 then (if t593 ≤ (a1.size : Int) then (if (a1.extract 0 (t593 : Int).toNat).size + ((a2.extract (t596 : Int).toNat a2.size).extract 0 1).size ≤ 9223372036854775807 then (if 0 ≤ (wrap64 (t593 + 1)) then (if (wrap64 (t593 + 1)) ≤ (a1.size : Int) then (if ((a1.extract 0 (t593 : Int).toNat).size + ((a2.extract (t596 : Int).toNat a2.size).extract 0 1).size) + (a1.size - ((wrap64 (t593 + 1)) : Int).toNat) ≤ 9223372036854775807 then (some (((a1.extract 0 (t593 : Int).toNat) ++ ((a2.extract (t596 : Int).toNat a2.size).extract 0 1)) ++ (a1.extract ((wrap64 (t593 + 1)) : Int).toNat a1.size), bt599.2.1, bt599.2.2)) else (none)) else (none)) else (none)) else (none)) else (none)) else (none)) else (if 0 ≤ t593 then (if t593 ≤ (a1.size : Int) then (if 0 ≤ (wrap64 (t593 + 1)) then (if (wrap64 (t593 + 1)) ≤ (a1.size : Int) then (if (a1.extract 0 (t593 : Int).toNat).size + (a1.size - ((wrap64 (t593 + 1)) : Int).toNat) ≤ 9223372036854775807 then (some ((a1.extract 0 (t593 : Int).toNat) ++ (a1.extract ((wrap64 (t593 + 1)) : Int).toNat a1.size), bt599.2.1, bt599.2.2)) else (none)) else (none)) else (none)) else (none)) else (none))))) else (none)) else (none)) else (none)) else (none)) = some (r1, r2, r3) := H
    have A8 := Aside0.mk A80
    clear A80
    by_cases c9 : 0 ≤ t596
    · rw [if_pos c9] at H
      have c9b0 := eq_true c9
      have c9b1 : decide (0 ≤ t596) = true := decide_eq_true c9
      clear c9
      by_cases c10 : t596 ≤ (a2.size : Int)
      · rw [if_pos c10] at H
        have c10b0 := eq_true c10
        have c10b1 : decide (t596 ≤ (a2.size : Int)) = true := decide_eq_true c10
        clear c10
        by_cases c11 : 0 ≤ 1
        · rw [if_pos c11] at H
          have c11b0 := eq_true c11
          have c11b1 : decide (0 ≤ 1) = true := decide_eq_true c11
          clear c11
          by_cases c12 : 1 ≤ ((a2.size - (t596 : Int).toNat) : Int)
          · rw [if_pos c12] at H
            have c12n : 1 ≤ a2.size - (t596 : Int).toNat := by omega
            have c12m : (1 : Int) ≤ ((a2.size - (t596 : Int).toNat : Nat) : Int) := by omega
            have c12nb : decide (1 ≤ a2.size - (t596 : Int).toNat) = true := decide_eq_true c12n
            have c12mb : decide ((1 : Int) ≤ ((a2.size - (t596 : Int).toNat : Nat) : Int)) = true := decide_eq_true c12m
            have c12b0 := eq_true c12
            try (have c12b0z := c12b0; simp only [ByteArray.size_extract, Nat.min_self, Int.toNat_natCast, Nat.sub_zero] at c12b0z)
            have c12b1 : decide (1 ≤ ((a2.size - (t596 : Int).toNat) : Int)) = true := decide_eq_true c12
            try (have c12b1z := c12b1; simp only [ByteArray.size_extract, Nat.min_self, Int.toNat_natCast, Nat.sub_zero] at c12b1z)
            clear c12
            replace H := Option.bind_eq_some_iff.mp H
            obtain ⟨⟨t599, t600, t601⟩, A130, H⟩ := H
            replace H : (if t599 = 0 then (if 0 ≤ t593 then (if t593 ≤ (a1.size : Int) then (if (a1.extract 0 (t593 : Int).toNat).size + ((a2.extract (t596 : Int).toNat a2.size).extract 0 1).size ≤ 9223372036854775807 then (if ((a1.extract 0 (t593 : Int).toNat).size + ((a2.extract (t596 : Int).toNat a2.size).extract 0 1).size) + (a1.size - (t593 : Int).toNat) ≤ 9223372036854775807 then (some (((a1.extract 0 (t593 : Int).toNat) ++ ((a2.extract (t596 : Int).toNat a2.size).extract 0 1)) ++ (a1.extract (t593 : Int).toNat a1.size), t600, t601)) else (none)) else (none)) else (none)) else (none)) else (if t599 = 1 then (if 0 ≤ t593 then (if t593 ≤ (a1.size : Int) then (if (a1.extract 0 (t593 : Int).toNat).size + ((a2.extract (t596 : Int).toNat a2.size).extract 0 1).size ≤ 9223372036854775807 then (if 0 ≤ (wrap64 (t593 + 1)) then (if (wrap64 (t593 + 1)) ≤ (a1.size : Int) then (if ((a1.extract 0 (t593 : Int).toNat).size + ((a2.extract (t596 : Int).toNat a2.size).extract 0 1).size) + (a1.size - ((wrap64 (t593 + 1)) : Int).toNat) ≤ 9223372036854775807 then (some (((a1.extract 0 (t593 : Int).toNat) ++ ((a2.extract (t596 : Int).toNat a2.size).extract 0 1)) ++ (a1.extract ((wrap64 (t593 + 1)) : Int).toNat a1.size), t600, t601)) else (none)) else (none)) else (none)) else (none)) else (none)) else (none)) else (if 0 ≤ t593 then (if t593 ≤ (a1.size : Int) then (if 0 ≤ (wrap64 (t593 + 1)) then (if (wrap64 (t593 + 1)) ≤ (a1.size : Int) then (if (a1.extract 0 (t593 : Int).toNat).size + (a1.size - ((wrap64 (t593 + 1)) : Int).toNat) ≤ 9223372036854775807 then (some ((a1.extract 0 (t593 : Int).toNat) ++ (a1.extract ((wrap64 (t593 + 1)) : Int).toNat a1.size), t600, t601)) else (none)) else (none)) else (none)) else (none)) else (none)))) = some (r1, r2, r3) := H
            have A13 := Aside0.mk A130
            clear A130
            by_cases c14 : t599 = 0
            · rw [if_pos c14] at H
              have c14b0 : (t599 == 0) = true := beq_iff_eq.mpr c14
              have c14b1 : (t599 != 0) = false := bne_eq_false_iff_eq.mpr c14
              clear c14
              by_cases c15 : 0 ≤ t593
              · rw [if_pos c15] at H
                have c15b0 := eq_true c15
                have c15b1 : decide (0 ≤ t593) = true := decide_eq_true c15
                clear c15
                by_cases c16 : t593 ≤ (a1.size : Int)
                · rw [if_pos c16] at H
                  have c16b0 := eq_true c16
                  have c16b1 : decide (t593 ≤ (a1.size : Int)) = true := decide_eq_true c16
                  clear c16
                  by_cases c17 : (a1.extract 0 (t593 : Int).toNat).size + ((a2.extract (t596 : Int).toNat a2.size).extract 0 1).size ≤ 9223372036854775807
                  · rw [if_pos c17] at H
                    have c17b0 := eq_true c17
                    try (have c17b0z := c17b0; simp only [ByteArray.size_extract, Nat.min_self, Int.toNat_natCast, Nat.sub_zero] at c17b0z)
                    have c17b1 : decide ((a1.extract 0 (t593 : Int).toNat).size + ((a2.extract (t596 : Int).toNat a2.size).extract 0 1).size ≤ 9223372036854775807) = true := decide_eq_true c17
                    try (have c17q : (9223372036854775807 < (t593 : Int).toNat + 1) = False := eq_false (by simp only [decide_eq_true_eq, ByteArray.size_extract] at *; omega))
                    try (have c17b1z := c17b1; simp only [ByteArray.size_extract, Nat.min_self, Int.toNat_natCast, Nat.sub_zero] at c17b1z)
                    try have c17b2 : (9223372036854775807 < (a1.extract 0 (t593 : Int).toNat).size + ((a2.extract (t596 : Int).toNat a2.size).extract 0 1).size) = False := eq_false (Nat.not_lt.2 c17)
                    try (have c17b3 := c17; simp only [ByteArray.size_extract, Nat.min_self] at c17b3; (repeat rw [Nat.min_eq_left (by omega)] at c17b3); replace c17b3 : (9223372036854775807 < _) = False := eq_false (Nat.not_lt.2 c17b3))
                    try (have c17b2z := c17b2; simp only [ByteArray.size_extract, Nat.min_self, Int.toNat_natCast, Nat.sub_zero] at c17b2z)
                    have c18b0 := eq_true (of_decide_eq_true (by first | (with_reducible assumption) | assumption) : 0 ≤ t593)
                    have c19b0 := eq_true (of_decide_eq_true (by first | (with_reducible assumption) | assumption) : t593 ≤ (a1.size : Int))
                    by_cases c20 : ((a1.extract 0 (t593 : Int).toNat).size + ((a2.extract (t596 : Int).toNat a2.size).extract 0 1).size) + (a1.size - (t593 : Int).toNat) ≤ 9223372036854775807
                    · rw [if_pos c20] at H
                      have c20b0 := eq_true c20
                      try (have c20b0z := c20b0; simp only [ByteArray.size_extract, Nat.min_self, Int.toNat_natCast, Nat.sub_zero] at c20b0z)
                      have c20b1 : decide (((a1.extract 0 (t593 : Int).toNat).size + ((a2.extract (t596 : Int).toNat a2.size).extract 0 1).size) + (a1.size - (t593 : Int).toNat) ≤ 9223372036854775807) = true := decide_eq_true c20
                      try (have c20q : (9223372036854775807 < ((t593 : Int).toNat + 1) + (a1.size - (t593 : Int).toNat)) = False := eq_false (by simp only [decide_eq_true_eq, ByteArray.size_extract] at *; omega))
                      try (have c20b1z := c20b1; simp only [ByteArray.size_extract, Nat.min_self, Int.toNat_natCast, Nat.sub_zero] at c20b1z)
                      try have c20b2 : (9223372036854775807 < ((a1.extract 0 (t593 : Int).toNat).size + ((a2.extract (t596 : Int).toNat a2.size).extract 0 1).size) + (a1.size - (t593 : Int).toNat)) = False := eq_false (Nat.not_lt.2 c20)
                      try (have c20b3 := c20; simp only [ByteArray.size_extract, Nat.min_self] at c20b3; (repeat rw [Nat.min_eq_left (by omega)] at c20b3); replace c20b3 : (9223372036854775807 < _) = False := eq_false (Nat.not_lt.2 c20b3))
                      try (have c20b2z := c20b2; simp only [ByteArray.size_extract, Nat.min_self, Int.toNat_natCast, Nat.sub_zero] at c20b2z)
                      simp only [Option.some.injEq, Prod.mk.injEq] at H
                      obtain ⟨rfl, rfl, rfl⟩ := H
                      go_enter Tryd.func91, Tryd.ntmps91
                      try go_wp2_with (first | ((with_reducible refine gate_callee (f := 69) rfl ?_); refine goesL_ (some 16) rfl rfl Tryd.func69 z36_4 rfl #[.pointer (some ⟨g, 0, none⟩), .int .i64 (a1.size : Int)] rfl z36_1 ?_; (with_reducible refine (spec_l1Cur_pick.calls g s0_0 s0_1 s0_2 (a1.size : Int) t593 t594 t595 w0 _ ?side1 ?side2 A7.out).mono ?_); (case side1 => repeat (first | (with_reducible first | exact HI0.out | apply IsS83.alloc | apply IsS83.drewN | apply IsS83.drew | apply IsS83.set_1 | apply IsS83.set_2) | exact HI0.out)); (case side2 => repeat (first | (with_reducible first | exact HB.out | apply below_alloc | apply pw_below_drewN | apply below_drew1 | refine below_set ?_ (IsS83.ge HI0.out)) | exact HB.out)); rintro e w21 ⟨rfl, hi, hb, hk⟩; refine ⟨_, rfl, ?_⟩; have n0_ := Aside0.mk (KeepBut.trans z36_0 hk (.inl rfl)); have n1_ := Aside0.mk (hb); have n2_ := Aside0.mk (hi); clear HK; clear HB; clear HI0; have HK := n0_; have HB := n1_; have HI0 := n2_; clear n0_ n1_ n2_; (try clear hb); (try clear hb2); (try clear hk); (try clear hi)) | ((with_reducible refine gate_callee (f := 69) rfl ?_); refine goesL_ (some 21) rfl rfl Tryd.func69 z36_4 rfl #[.pointer (some ⟨g, 0, none⟩), .int .i64 (a2.size : Int)] rfl z36_1 ?_; (with_reducible refine (spec_l1Cur_pick.calls g s0_0 t594 t595 (a2.size : Int) t596 t597 t598 w0 _ ?side1 ?side2 A8.out).mono ?_); (case side1 => repeat (first | (with_reducible first | exact HI0.out | apply IsS83.alloc | apply IsS83.drewN | apply IsS83.drew | apply IsS83.set_1 | apply IsS83.set_2) | exact HI0.out)); (case side2 => repeat (first | (with_reducible first | exact HB.out | apply below_alloc | apply pw_below_drewN | apply below_drew1 | refine below_set ?_ (IsS83.ge HI0.out)) | exact HB.out)); rintro e w22 ⟨rfl, hi, hb, hk⟩; refine ⟨_, rfl, ?_⟩; have n0_ := Aside0.mk (KeepBut.trans z36_0 hk (.inl rfl)); have n1_ := Aside0.mk (hb); have n2_ := Aside0.mk (hi); clear HK; clear HB; clear HI0; have HK := n0_; have HB := n1_; have HI0 := n2_; clear n0_ n1_ n2_; (try clear hb); (try clear hb2); (try clear hk); (try clear hi)) | ((with_reducible refine gate_callee (f := 69) rfl ?_); refine goesL_ (some 25) rfl rfl Tryd.func69 z36_4 rfl #[.pointer (some ⟨g, 0, none⟩), .int .i64 3] rfl z36_1 ?_; (with_reducible refine (spec_l1Cur_pick.calls g s0_0 t597 t598 3 t599 t600 t601 w0 _ ?side1 ?side2 A13.out).mono ?_); (case side1 => repeat (first | (with_reducible first | exact HI0.out | apply IsS83.alloc | apply IsS83.drewN | apply IsS83.drew | apply IsS83.set_1 | apply IsS83.set_2) | exact HI0.out)); (case side2 => repeat (first | (with_reducible first | exact HB.out | apply below_alloc | apply pw_below_drewN | apply below_drew1 | refine below_set ?_ (IsS83.ge HI0.out)) | exact HB.out)); rintro e w23 ⟨rfl, hi, hb, hk⟩; refine ⟨_, rfl, ?_⟩; have n0_ := Aside0.mk (KeepBut.trans z36_0 hk (.inl rfl)); have n1_ := Aside0.mk (hb); have n2_ := Aside0.mk (hi); clear HK; clear HB; clear HI0; have HK := n0_; have HB := n1_; have HI0 := n2_; clear n0_ n1_ n2_; (try clear hb); (try clear hb2); (try clear hk); (try clear hi)))
                      have n0_ := Aside0.mk (IsS83.drew HI0.out)
                      have n1_ := Aside0.mk (keep_drew HK.out)
                      have n2_ := Aside0.mk (below_drew1 HB.out)
                      clear HI0
                      clear HK
                      clear HB
                      have HI0 := n0_
                      have HK := n1_
                      have HB := n2_
                      clear n0_ n1_ n2_
                      refine start_ (n := 10) (S := fun w' => True) (ds := []) #[false, false, false, false, false, false, false, false, false, false] z36_4 rfl rfl trivial (fun hHeld => ?_); refine with_tabW spec_l1Cur_spoilt.tab7 spec_l1Cur_spoilt.bits7 (fun HT_ HW_ => ?_)
                      generalize w23.drew = w24 at HI0 HK HB hHeld ⊢
                      refine pure_ (i := 0) (N := some 28) (v := ?_) (a' := ?_) #[true, false, false, false, false, false, false, false, false, false] rfl rfl (any_of HT_.out z36_4) (fun _ _ _ h => h) (Or.inl ⟨by rfl, ?_⟩) ?_ ?_
                      rotate_left
                      · intro w'
                        go_simp
                        with_reducible rfl
                      rotate_left
                      · simp only [Act.put, List.setIfInBounds_toArray, List.set_cons_zero, List.set_cons_succ, i64_w, i32_w]
                        rfl
                      refine pure_ (i := 1) (N := some 29) (v := ?_) (a' := ?_) #[true, true, false, false, false, false, false, false, false, false] rfl rfl (any_of HT_.out z36_4) (fun _ _ _ h => h) (Or.inl ⟨by rfl, ?_⟩) ?_ ?_
                      rotate_left
                      · intro w'
                        go_simp
                        with_reducible rfl
                      rotate_left
                      · simp only [Act.put, List.setIfInBounds_toArray, List.set_cons_zero, List.set_cons_succ, i64_w, i32_w]
                        rfl
                      refine pure_ (i := 2) (N := some 30) (v := ?_) (a' := ?_) #[true, true, true, false, false, false, false, false, false, false] rfl rfl (any_of HT_.out z36_4) (fun _ _ _ h => h) (Or.inl ⟨by rfl, ?_⟩) ?_ ?_
                      rotate_left
                      · intro w'
                        go_simp
                        with_reducible rfl
                      rotate_left
                      · simp only [Act.put, List.setIfInBounds_toArray, List.set_cons_zero, List.set_cons_succ, i64_w, i32_w]
                        rfl
                      refine pure_ (i := 3) (N := some 31) (v := ?_) (a' := ?_) #[true, true, true, true, false, false, false, false, false, false] rfl rfl (any_of HT_.out z36_4) (fun _ _ _ h => h) (Or.inl ⟨by rfl, ?_⟩) ?_ ?_
                      rotate_left
                      · intro w'
                        go_simp
                        with_reducible rfl
                      rotate_left
                      · simp only [Act.put, List.setIfInBounds_toArray, List.set_cons_zero, List.set_cons_succ, i64_w, i32_w]
                        rfl
                      refine pure_ (i := 4) (N := some 32) (v := ?_) (a' := ?_) #[true, true, true, true, true, false, false, false, false, false] rfl rfl (any_of HT_.out z36_4) (fun _ _ _ h => h) (Or.inl ⟨by rfl, ?_⟩) ?_ ?_
                      rotate_left
                      · intro w'
                        go_simp
                        with_reducible rfl
                      rotate_left
                      · simp only [Act.put, List.setIfInBounds_toArray, List.set_cons_zero, List.set_cons_succ, i64_w, i32_w]
                        rfl
                      refine pure_ (i := 5) (N := some 33) (v := ?_) (a' := ?_) #[true, true, true, true, true, true, false, false, false, false] rfl rfl (any_of HT_.out z36_4) (fun _ _ _ h => h) (Or.inl ⟨by rfl, ?_⟩) ?_ ?_
                      rotate_left
                      · intro w'
                        go_simp
                        with_reducible rfl
                      rotate_left
                      · simp only [Act.put, List.setIfInBounds_toArray, List.set_cons_zero, List.set_cons_succ, i64_w, i32_w]
                        rfl
                      refine pure_ (i := 6) (N := some 34) (v := ?_) (a' := ?_) #[true, true, true, true, true, true, true, false, false, false] rfl rfl (any_of HT_.out z36_4) (fun _ _ _ h => h) (Or.inl ⟨by rfl, ?_⟩) ?_ ?_
                      rotate_left
                      · intro w'
                        go_simp
                        with_reducible rfl
                      rotate_left
                      · simp only [Act.put, List.setIfInBounds_toArray, List.set_cons_zero, List.set_cons_succ, i64_w, i32_w]
                        rfl
                      refine pure_ (i := 7) (N := some 35) (v := ?_) (a' := ?_) #[true, true, true, true, true, true, true, true, false, false] rfl rfl (any_of HT_.out z36_4) (fun _ _ _ h => h) (Or.inl ⟨by rfl, ?_⟩) ?_ ?_
                      rotate_left
                      · intro w'
                        go_simp
                        with_reducible rfl
                      rotate_left
                      · simp only [Act.put, List.setIfInBounds_toArray, List.set_cons_zero, List.set_cons_succ, i64_w, i32_w]
                        rfl
                      refine pure_ (i := 8) (N := some 36) (v := ?_) (a' := ?_) #[true, true, true, true, true, true, true, true, true, false] rfl rfl (any_of HT_.out z36_4) (fun _ _ _ h => h) (Or.inl ⟨by rfl, ?_⟩) ?_ ?_
                      rotate_left
                      · intro w'
                        go_simp
                        with_reducible rfl
                      rotate_left
                      · simp only [Act.put, List.setIfInBounds_toArray, List.set_cons_zero, List.set_cons_succ, i64_w, i32_w]
                        rfl
                      refine pure_ (i := 9) (N := some 6) (v := ?_) (a' := ?_) #[true, true, true, true, true, true, true, true, true, true] rfl rfl (any_of HT_.out z36_4) (fun _ _ _ h => h) (Or.inl ⟨by rfl, ?_⟩) ?_ ?_
                      rotate_left
                      · intro w'
                        go_simp
                        with_reducible rfl
                      rotate_left
                      · simp only [Act.put, List.setIfInBounds_toArray, List.set_cons_zero, List.set_cons_succ, i64_w, i32_w]
                        rfl
                      refine done_ (done_of HT_.out z36_4) ?_
                      try go_wp2
                      go_ret
                      exact ⟨by first | rfl | (simp [errW_none, errW_some] <;> rfl) | (simp [*, errW_none, errW_some] <;> rfl), z36_3, z36_2, z36_0⟩
                    · rw [if_neg c20] at H
                      exact absurd H (by simp)
                  · rw [if_neg c17] at H
                    exact absurd H (by simp)
                · rw [if_neg c16] at H
                  exact absurd H (by simp)
              · rw [if_neg c15] at H
                exact absurd H (by simp)
            · rw [if_neg c14] at H
              have c14b0 : (t599 == 0) = false := beq_eq_false_iff_ne.mpr c14
              have c14b1 : (t599 != 0) = true := bne_iff_ne.mpr c14
              by_cases c25 : t599 = 1
              · rw [if_pos c25] at H
                have c25b0 : (t599 == 1) = true := beq_iff_eq.mpr c25
                have c25b1 : (t599 != 1) = false := bne_eq_false_iff_eq.mpr c25
                clear c25
                by_cases c26 : 0 ≤ t593
                · rw [if_pos c26] at H
                  have c26b0 := eq_true c26
                  have c26b1 : decide (0 ≤ t593) = true := decide_eq_true c26
                  clear c26
                  by_cases c27 : t593 ≤ (a1.size : Int)
                  · rw [if_pos c27] at H
                    have c27b0 := eq_true c27
                    have c27b1 : decide (t593 ≤ (a1.size : Int)) = true := decide_eq_true c27
                    clear c27
                    by_cases c28 : (a1.extract 0 (t593 : Int).toNat).size + ((a2.extract (t596 : Int).toNat a2.size).extract 0 1).size ≤ 9223372036854775807
                    · rw [if_pos c28] at H
                      have c28b0 := eq_true c28
                      try (have c28b0z := c28b0; simp only [ByteArray.size_extract, Nat.min_self, Int.toNat_natCast, Nat.sub_zero] at c28b0z)
                      have c28b1 : decide ((a1.extract 0 (t593 : Int).toNat).size + ((a2.extract (t596 : Int).toNat a2.size).extract 0 1).size ≤ 9223372036854775807) = true := decide_eq_true c28
                      try (have c28q : (9223372036854775807 < (t593 : Int).toNat + 1) = False := eq_false (by simp only [decide_eq_true_eq, ByteArray.size_extract] at *; omega))
                      try (have c28b1z := c28b1; simp only [ByteArray.size_extract, Nat.min_self, Int.toNat_natCast, Nat.sub_zero] at c28b1z)
                      try have c28b2 : (9223372036854775807 < (a1.extract 0 (t593 : Int).toNat).size + ((a2.extract (t596 : Int).toNat a2.size).extract 0 1).size) = False := eq_false (Nat.not_lt.2 c28)
                      try (have c28b3 := c28; simp only [ByteArray.size_extract, Nat.min_self] at c28b3; (repeat rw [Nat.min_eq_left (by omega)] at c28b3); replace c28b3 : (9223372036854775807 < _) = False := eq_false (Nat.not_lt.2 c28b3))
                      try (have c28b2z := c28b2; simp only [ByteArray.size_extract, Nat.min_self, Int.toNat_natCast, Nat.sub_zero] at c28b2z)
                      obtain ⟨ji29, hji29⟩ : ∃ j_ : Int, (wrap64 (t593 + 1)) = j_ := ⟨_, rfl⟩
                      replace H : (if 0 ≤ (ji29) then (if (ji29) ≤ (a1.size : Int) then (if ((a1.extract 0 (t593 : Int).toNat).size + ((a2.extract (t596 : Int).toNat a2.size).extract 0 1).size) + (a1.size - ((ji29) : Int).toNat) ≤ 9223372036854775807 then (some (((a1.extract 0 (t593 : Int).toNat) ++ ((a2.extract (t596 : Int).toNat a2.size).extract 0 1)) ++ (a1.extract ((ji29) : Int).toNat a1.size), t600, t601)) else (none)) else (none)) else (none)) = some (r1, r2, r3) := by first | (rw [hji29] at H; exact H) | (simp only [hji29] at H ⊢; exact H)
                      (try rw [hji29] at A7)
                      (try rw [hji29] at A8)
                      (try rw [hji29] at A13)
                      have hji29w : (IntKind.i64.wrap (t593 + 1)) = ji29 := (i64_w _).trans hji29
                      by_cases c30 : 0 ≤ (ji29)
                      · rw [if_pos c30] at H
                        have c30b0 := eq_true c30
                        have c30b1 : decide (0 ≤ (ji29)) = true := decide_eq_true c30
                        clear c30
                        by_cases c31 : (ji29) ≤ (a1.size : Int)
                        · rw [if_pos c31] at H
                          have c31b0 := eq_true c31
                          have c31b1 : decide ((ji29) ≤ (a1.size : Int)) = true := decide_eq_true c31
                          clear c31
                          by_cases c32 : ((a1.extract 0 (t593 : Int).toNat).size + ((a2.extract (t596 : Int).toNat a2.size).extract 0 1).size) + (a1.size - ((ji29) : Int).toNat) ≤ 9223372036854775807
                          · rw [if_pos c32] at H
                            have c32b0 := eq_true c32
                            try (have c32b0z := c32b0; simp only [ByteArray.size_extract, Nat.min_self, Int.toNat_natCast, Nat.sub_zero] at c32b0z)
                            have c32b1 : decide (((a1.extract 0 (t593 : Int).toNat).size + ((a2.extract (t596 : Int).toNat a2.size).extract 0 1).size) + (a1.size - ((ji29) : Int).toNat) ≤ 9223372036854775807) = true := decide_eq_true c32
                            try (have c32q : (9223372036854775807 < ((t593 : Int).toNat + 1) + (a1.size - ((ji29) : Int).toNat)) = False := eq_false (by simp only [decide_eq_true_eq, ByteArray.size_extract] at *; omega))
                            try (have c32b1z := c32b1; simp only [ByteArray.size_extract, Nat.min_self, Int.toNat_natCast, Nat.sub_zero] at c32b1z)
                            try have c32b2 : (9223372036854775807 < ((a1.extract 0 (t593 : Int).toNat).size + ((a2.extract (t596 : Int).toNat a2.size).extract 0 1).size) + (a1.size - ((ji29) : Int).toNat)) = False := eq_false (Nat.not_lt.2 c32)
                            try (have c32b3 := c32; simp only [ByteArray.size_extract, Nat.min_self] at c32b3; (repeat rw [Nat.min_eq_left (by omega)] at c32b3); replace c32b3 : (9223372036854775807 < _) = False := eq_false (Nat.not_lt.2 c32b3))
                            try (have c32b2z := c32b2; simp only [ByteArray.size_extract, Nat.min_self, Int.toNat_natCast, Nat.sub_zero] at c32b2z)
                            simp only [Option.some.injEq, Prod.mk.injEq] at H
                            obtain ⟨rfl, rfl, rfl⟩ := H
                            go_enter Tryd.func91, Tryd.ntmps91
                            try go_wp2_with (first | ((with_reducible refine gate_callee (f := 69) rfl ?_); refine goesL_ (some 16) rfl rfl Tryd.func69 z36_4 rfl #[.pointer (some ⟨g, 0, none⟩), .int .i64 (a1.size : Int)] rfl z36_1 ?_; (with_reducible refine (spec_l1Cur_pick.calls g s0_0 s0_1 s0_2 (a1.size : Int) t593 t594 t595 w0 _ ?side1 ?side2 A7.out).mono ?_); (case side1 => repeat (first | (with_reducible first | exact HI0.out | apply IsS83.alloc | apply IsS83.drewN | apply IsS83.drew | apply IsS83.set_1 | apply IsS83.set_2) | exact HI0.out)); (case side2 => repeat (first | (with_reducible first | exact HB.out | apply below_alloc | apply pw_below_drewN | apply below_drew1 | refine below_set ?_ (IsS83.ge HI0.out)) | exact HB.out)); rintro e w33 ⟨rfl, hi, hb, hk⟩; refine ⟨_, rfl, ?_⟩; have n0_ := Aside0.mk (KeepBut.trans z36_0 hk (.inl rfl)); have n1_ := Aside0.mk (hb); have n2_ := Aside0.mk (hi); clear HK; clear HB; clear HI0; have HK := n0_; have HB := n1_; have HI0 := n2_; clear n0_ n1_ n2_; (try clear hb); (try clear hb2); (try clear hk); (try clear hi)) | ((with_reducible refine gate_callee (f := 69) rfl ?_); refine goesL_ (some 21) rfl rfl Tryd.func69 z36_4 rfl #[.pointer (some ⟨g, 0, none⟩), .int .i64 (a2.size : Int)] rfl z36_1 ?_; (with_reducible refine (spec_l1Cur_pick.calls g s0_0 t594 t595 (a2.size : Int) t596 t597 t598 w0 _ ?side1 ?side2 A8.out).mono ?_); (case side1 => repeat (first | (with_reducible first | exact HI0.out | apply IsS83.alloc | apply IsS83.drewN | apply IsS83.drew | apply IsS83.set_1 | apply IsS83.set_2) | exact HI0.out)); (case side2 => repeat (first | (with_reducible first | exact HB.out | apply below_alloc | apply pw_below_drewN | apply below_drew1 | refine below_set ?_ (IsS83.ge HI0.out)) | exact HB.out)); rintro e w34 ⟨rfl, hi, hb, hk⟩; refine ⟨_, rfl, ?_⟩; have n0_ := Aside0.mk (KeepBut.trans z36_0 hk (.inl rfl)); have n1_ := Aside0.mk (hb); have n2_ := Aside0.mk (hi); clear HK; clear HB; clear HI0; have HK := n0_; have HB := n1_; have HI0 := n2_; clear n0_ n1_ n2_; (try clear hb); (try clear hb2); (try clear hk); (try clear hi)) | ((with_reducible refine gate_callee (f := 69) rfl ?_); refine goesL_ (some 25) rfl rfl Tryd.func69 z36_4 rfl #[.pointer (some ⟨g, 0, none⟩), .int .i64 3] rfl z36_1 ?_; (with_reducible refine (spec_l1Cur_pick.calls g s0_0 t597 t598 3 t599 t600 t601 w0 _ ?side1 ?side2 A13.out).mono ?_); (case side1 => repeat (first | (with_reducible first | exact HI0.out | apply IsS83.alloc | apply IsS83.drewN | apply IsS83.drew | apply IsS83.set_1 | apply IsS83.set_2) | exact HI0.out)); (case side2 => repeat (first | (with_reducible first | exact HB.out | apply below_alloc | apply pw_below_drewN | apply below_drew1 | refine below_set ?_ (IsS83.ge HI0.out)) | exact HB.out)); rintro e w35 ⟨rfl, hi, hb, hk⟩; refine ⟨_, rfl, ?_⟩; have n0_ := Aside0.mk (KeepBut.trans z36_0 hk (.inl rfl)); have n1_ := Aside0.mk (hb); have n2_ := Aside0.mk (hi); clear HK; clear HB; clear HI0; have HK := n0_; have HB := n1_; have HI0 := n2_; clear n0_ n1_ n2_; (try clear hb); (try clear hb2); (try clear hk); (try clear hi)))
                            have n0_ := Aside0.mk (IsS83.drew HI0.out)
                            have n1_ := Aside0.mk (keep_drew HK.out)
                            have n2_ := Aside0.mk (below_drew1 HB.out)
                            clear HI0
                            clear HK
                            clear HB
                            have HI0 := n0_
                            have HK := n1_
                            have HB := n2_
                            clear n0_ n1_ n2_
                            refine start_ (n := 11) (S := fun w' => True) (ds := []) #[false, false, false, false, false, false, false, false, false, false, false] z36_4 rfl rfl trivial (fun hHeld => ?_); refine with_tabW spec_l1Cur_spoilt.tab9 spec_l1Cur_spoilt.bits9 (fun HT_ HW_ => ?_)
                            generalize w35.drew = w36 at HI0 HK HB hHeld ⊢
                            refine pure_ (i := 0) (N := some 39) (v := ?_) (a' := ?_) #[true, false, false, false, false, false, false, false, false, false, false] rfl rfl (any_of HT_.out z36_4) (fun _ _ _ h => h) (Or.inl ⟨by rfl, ?_⟩) ?_ ?_
                            rotate_left
                            · intro w'
                              go_simp
                              with_reducible rfl
                            rotate_left
                            · simp only [Act.put, List.setIfInBounds_toArray, List.set_cons_zero, List.set_cons_succ, i64_w, i32_w]
                              rfl
                            refine pure_ (i := 1) (N := some 40) (v := ?_) (a' := ?_) #[true, true, false, false, false, false, false, false, false, false, false] rfl rfl (any_of HT_.out z36_4) (fun _ _ _ h => h) (Or.inl ⟨by rfl, ?_⟩) ?_ ?_
                            rotate_left
                            · intro w'
                              go_simp
                              with_reducible rfl
                            rotate_left
                            · simp only [Act.put, List.setIfInBounds_toArray, List.set_cons_zero, List.set_cons_succ, i64_w, i32_w]
                              rfl
                            refine pure_ (i := 2) (N := some 41) (v := ?_) (a' := ?_) #[true, true, true, false, false, false, false, false, false, false, false] rfl rfl (any_of HT_.out z36_4) (fun _ _ _ h => h) (Or.inl ⟨by rfl, ?_⟩) ?_ ?_
                            rotate_left
                            · intro w'
                              go_simp
                              with_reducible rfl
                            rotate_left
                            · simp only [Act.put, List.setIfInBounds_toArray, List.set_cons_zero, List.set_cons_succ, i64_w, i32_w]
                              rfl
                            refine pure_ (i := 3) (N := some 42) (v := ?_) (a' := ?_) #[true, true, true, true, false, false, false, false, false, false, false] rfl rfl (any_of HT_.out z36_4) (fun _ _ _ h => h) (Or.inl ⟨by rfl, ?_⟩) ?_ ?_
                            rotate_left
                            · intro w'
                              go_simp
                              with_reducible rfl
                            rotate_left
                            · simp only [Act.put, List.setIfInBounds_toArray, List.set_cons_zero, List.set_cons_succ, i64_w, i32_w]
                              rfl
                            refine pure_ (i := 4) (N := some 43) (v := ?_) (a' := ?_) #[true, true, true, true, true, false, false, false, false, false, false] rfl rfl (any_of HT_.out z36_4) (fun _ _ _ h => h) (Or.inl ⟨by rfl, ?_⟩) ?_ ?_
                            rotate_left
                            · intro w'
                              go_simp
                              with_reducible rfl
                            rotate_left
                            · simp only [Act.put, List.setIfInBounds_toArray, List.set_cons_zero, List.set_cons_succ, i64_w, i32_w]
                              rfl
                            refine pure_ (i := 5) (N := some 44) (v := ?_) (a' := ?_) #[true, true, true, true, true, true, false, false, false, false, false] rfl rfl (any_of HT_.out z36_4) (fun _ _ _ h => h) (Or.inl ⟨by rfl, ?_⟩) ?_ ?_
                            rotate_left
                            · intro w'
                              go_simp
                              with_reducible rfl
                            rotate_left
                            · simp only [Act.put, List.setIfInBounds_toArray, List.set_cons_zero, List.set_cons_succ, i64_w, i32_w]
                              rfl
                            refine pure_ (i := 6) (N := some 45) (v := ?_) (a' := ?_) #[true, true, true, true, true, true, true, false, false, false, false] rfl rfl (any_of HT_.out z36_4) (fun _ _ _ h => h) (Or.inl ⟨by rfl, ?_⟩) ?_ ?_
                            rotate_left
                            · intro w'
                              go_simp
                              with_reducible rfl
                            rotate_left
                            · simp only [Act.put, List.setIfInBounds_toArray, List.set_cons_zero, List.set_cons_succ, i64_w, i32_w]
                              rfl
                            refine pure_ (i := 7) (N := some 46) (v := ?_) (a' := ?_) #[true, true, true, true, true, true, true, true, false, false, false] rfl rfl (any_of HT_.out z36_4) (fun _ _ _ h => h) (Or.inl ⟨by rfl, ?_⟩) ?_ ?_
                            rotate_left
                            · intro w'
                              go_simp
                              with_reducible rfl
                            rotate_left
                            · simp only [Act.put, List.setIfInBounds_toArray, List.set_cons_zero, List.set_cons_succ, i64_w, i32_w]
                              rfl
                            refine pure_ (i := 8) (N := some 47) (v := ?_) (a' := ?_) #[true, true, true, true, true, true, true, true, true, false, false] rfl rfl (any_of HT_.out z36_4) (fun _ _ _ h => h) (Or.inl ⟨by rfl, ?_⟩) ?_ ?_
                            rotate_left
                            · intro w'
                              go_simp
                              with_reducible rfl
                            rotate_left
                            · simp only [Act.put, List.setIfInBounds_toArray, List.set_cons_zero, List.set_cons_succ, i64_w, i32_w]
                              rfl
                            refine pure_ (i := 9) (N := some 48) (v := ?_) (a' := ?_) #[true, true, true, true, true, true, true, true, true, true, false] rfl rfl (any_of HT_.out z36_4) (fun _ _ _ h => h) (Or.inl ⟨by rfl, ?_⟩) ?_ ?_
                            rotate_left
                            · intro w'
                              go_simp
                              with_reducible rfl
                            rotate_left
                            · simp only [Act.put, List.setIfInBounds_toArray, List.set_cons_zero, List.set_cons_succ, i64_w, i32_w]
                              rfl
                            refine pure_ (i := 10) (N := some 6) (v := ?_) (a' := ?_) #[true, true, true, true, true, true, true, true, true, true, true] rfl rfl (any_of HT_.out z36_4) (fun _ _ _ h => h) (Or.inl ⟨by rfl, ?_⟩) ?_ ?_
                            rotate_left
                            · intro w'
                              go_simp
                              with_reducible rfl
                            rotate_left
                            · simp only [Act.put, List.setIfInBounds_toArray, List.set_cons_zero, List.set_cons_succ, i64_w, i32_w]
                              rfl
                            refine done_ (done_of HT_.out z36_4) ?_
                            try go_wp2
                            go_ret
                            exact ⟨by first | rfl | (simp [errW_none, errW_some] <;> rfl) | (simp only [← hji29]; first | rfl | (simp [errW_none, errW_some] <;> rfl)) | (simp [*, errW_none, errW_some] <;> rfl), z36_3, z36_2, z36_0⟩
                          · rw [if_neg c32] at H
                            exact absurd H (by simp)
                        · rw [if_neg c31] at H
                          exact absurd H (by simp)
                      · rw [if_neg c30] at H
                        exact absurd H (by simp)
                    · rw [if_neg c28] at H
                      exact absurd H (by simp)
                  · rw [if_neg c27] at H
                    exact absurd H (by simp)
                · rw [if_neg c26] at H
                  exact absurd H (by simp)
              · rw [if_neg c25] at H
                have c25b0 : (t599 == 1) = false := beq_eq_false_iff_ne.mpr c25
                have c25b1 : (t599 != 1) = true := bne_iff_ne.mpr c25
                by_cases c37 : 0 ≤ t593
                · rw [if_pos c37] at H
                  have c37b0 := eq_true c37
                  have c37b1 : decide (0 ≤ t593) = true := decide_eq_true c37
                  clear c37
                  by_cases c38 : t593 ≤ (a1.size : Int)
                  · rw [if_pos c38] at H
                    have c38b0 := eq_true c38
                    have c38b1 : decide (t593 ≤ (a1.size : Int)) = true := decide_eq_true c38
                    clear c38
                    obtain ⟨ji39, hji39⟩ : ∃ j_ : Int, (wrap64 (t593 + 1)) = j_ := ⟨_, rfl⟩
                    replace H : (if 0 ≤ (ji39) then (if (ji39) ≤ (a1.size : Int) then (if (a1.extract 0 (t593 : Int).toNat).size + (a1.size - ((ji39) : Int).toNat) ≤ 9223372036854775807 then (some ((a1.extract 0 (t593 : Int).toNat) ++ (a1.extract ((ji39) : Int).toNat a1.size), t600, t601)) else (none)) else (none)) else (none)) = some (r1, r2, r3) := by first | (rw [hji39] at H; exact H) | (simp only [hji39] at H ⊢; exact H)
                    (try rw [hji39] at A7)
                    (try rw [hji39] at A8)
                    (try rw [hji39] at A13)
                    have hji39w : (IntKind.i64.wrap (t593 + 1)) = ji39 := (i64_w _).trans hji39
                    by_cases c40 : 0 ≤ (ji39)
                    · rw [if_pos c40] at H
                      have c40b0 := eq_true c40
                      have c40b1 : decide (0 ≤ (ji39)) = true := decide_eq_true c40
                      clear c40
                      by_cases c41 : (ji39) ≤ (a1.size : Int)
                      · rw [if_pos c41] at H
                        have c41b0 := eq_true c41
                        have c41b1 : decide ((ji39) ≤ (a1.size : Int)) = true := decide_eq_true c41
                        clear c41
                        by_cases c42 : (a1.extract 0 (t593 : Int).toNat).size + (a1.size - ((ji39) : Int).toNat) ≤ 9223372036854775807
                        · rw [if_pos c42] at H
                          have c42b0 := eq_true c42
                          try (have c42b0z := c42b0; simp only [ByteArray.size_extract, Nat.min_self, Int.toNat_natCast, Nat.sub_zero] at c42b0z)
                          have c42b1 : decide ((a1.extract 0 (t593 : Int).toNat).size + (a1.size - ((ji39) : Int).toNat) ≤ 9223372036854775807) = true := decide_eq_true c42
                          try (have c42q : (9223372036854775807 < (t593 : Int).toNat + (a1.size - ((ji39) : Int).toNat)) = False := eq_false (by simp only [decide_eq_true_eq, ByteArray.size_extract] at *; omega))
                          try (have c42b1z := c42b1; simp only [ByteArray.size_extract, Nat.min_self, Int.toNat_natCast, Nat.sub_zero] at c42b1z)
                          try have c42b2 : (9223372036854775807 < (a1.extract 0 (t593 : Int).toNat).size + (a1.size - ((ji39) : Int).toNat)) = False := eq_false (Nat.not_lt.2 c42)
                          try (have c42b3 := c42; simp only [ByteArray.size_extract, Nat.min_self] at c42b3; (repeat rw [Nat.min_eq_left (by omega)] at c42b3); replace c42b3 : (9223372036854775807 < _) = False := eq_false (Nat.not_lt.2 c42b3))
                          try (have c42b2z := c42b2; simp only [ByteArray.size_extract, Nat.min_self, Int.toNat_natCast, Nat.sub_zero] at c42b2z)
                          simp only [Option.some.injEq, Prod.mk.injEq] at H
                          obtain ⟨rfl, rfl, rfl⟩ := H
                          go_enter Tryd.func91, Tryd.ntmps91
                          try go_wp2_with (first | ((with_reducible refine gate_callee (f := 69) rfl ?_); refine goesL_ (some 16) rfl rfl Tryd.func69 z36_4 rfl #[.pointer (some ⟨g, 0, none⟩), .int .i64 (a1.size : Int)] rfl z36_1 ?_; (with_reducible refine (spec_l1Cur_pick.calls g s0_0 s0_1 s0_2 (a1.size : Int) t593 t594 t595 w0 _ ?side1 ?side2 A7.out).mono ?_); (case side1 => repeat (first | (with_reducible first | exact HI0.out | apply IsS83.alloc | apply IsS83.drewN | apply IsS83.drew | apply IsS83.set_1 | apply IsS83.set_2) | exact HI0.out)); (case side2 => repeat (first | (with_reducible first | exact HB.out | apply below_alloc | apply pw_below_drewN | apply below_drew1 | refine below_set ?_ (IsS83.ge HI0.out)) | exact HB.out)); rintro e w43 ⟨rfl, hi, hb, hk⟩; refine ⟨_, rfl, ?_⟩; have n0_ := Aside0.mk (KeepBut.trans z36_0 hk (.inl rfl)); have n1_ := Aside0.mk (hb); have n2_ := Aside0.mk (hi); clear HK; clear HB; clear HI0; have HK := n0_; have HB := n1_; have HI0 := n2_; clear n0_ n1_ n2_; (try clear hb); (try clear hb2); (try clear hk); (try clear hi)) | ((with_reducible refine gate_callee (f := 69) rfl ?_); refine goesL_ (some 21) rfl rfl Tryd.func69 z36_4 rfl #[.pointer (some ⟨g, 0, none⟩), .int .i64 (a2.size : Int)] rfl z36_1 ?_; (with_reducible refine (spec_l1Cur_pick.calls g s0_0 t594 t595 (a2.size : Int) t596 t597 t598 w0 _ ?side1 ?side2 A8.out).mono ?_); (case side1 => repeat (first | (with_reducible first | exact HI0.out | apply IsS83.alloc | apply IsS83.drewN | apply IsS83.drew | apply IsS83.set_1 | apply IsS83.set_2) | exact HI0.out)); (case side2 => repeat (first | (with_reducible first | exact HB.out | apply below_alloc | apply pw_below_drewN | apply below_drew1 | refine below_set ?_ (IsS83.ge HI0.out)) | exact HB.out)); rintro e w44 ⟨rfl, hi, hb, hk⟩; refine ⟨_, rfl, ?_⟩; have n0_ := Aside0.mk (KeepBut.trans z36_0 hk (.inl rfl)); have n1_ := Aside0.mk (hb); have n2_ := Aside0.mk (hi); clear HK; clear HB; clear HI0; have HK := n0_; have HB := n1_; have HI0 := n2_; clear n0_ n1_ n2_; (try clear hb); (try clear hb2); (try clear hk); (try clear hi)) | ((with_reducible refine gate_callee (f := 69) rfl ?_); refine goesL_ (some 25) rfl rfl Tryd.func69 z36_4 rfl #[.pointer (some ⟨g, 0, none⟩), .int .i64 3] rfl z36_1 ?_; (with_reducible refine (spec_l1Cur_pick.calls g s0_0 t597 t598 3 t599 t600 t601 w0 _ ?side1 ?side2 A13.out).mono ?_); (case side1 => repeat (first | (with_reducible first | exact HI0.out | apply IsS83.alloc | apply IsS83.drewN | apply IsS83.drew | apply IsS83.set_1 | apply IsS83.set_2) | exact HI0.out)); (case side2 => repeat (first | (with_reducible first | exact HB.out | apply below_alloc | apply pw_below_drewN | apply below_drew1 | refine below_set ?_ (IsS83.ge HI0.out)) | exact HB.out)); rintro e w45 ⟨rfl, hi, hb, hk⟩; refine ⟨_, rfl, ?_⟩; have n0_ := Aside0.mk (KeepBut.trans z36_0 hk (.inl rfl)); have n1_ := Aside0.mk (hb); have n2_ := Aside0.mk (hi); clear HK; clear HB; clear HI0; have HK := n0_; have HB := n1_; have HI0 := n2_; clear n0_ n1_ n2_; (try clear hb); (try clear hb2); (try clear hk); (try clear hi)))
                          have n0_ := Aside0.mk (IsS83.drew HI0.out)
                          have n1_ := Aside0.mk (keep_drew HK.out)
                          have n2_ := Aside0.mk (below_drew1 HB.out)
                          clear HI0
                          clear HK
                          clear HB
                          have HI0 := n0_
                          have HK := n1_
                          have HB := n2_
                          clear n0_ n1_ n2_
                          refine start_ (n := 9) (S := fun w' => True) (ds := []) #[false, false, false, false, false, false, false, false, false] z36_4 rfl rfl trivial (fun hHeld => ?_); refine with_tabW spec_l1Cur_spoilt.tab10 spec_l1Cur_spoilt.bits10 (fun HT_ HW_ => ?_)
                          generalize w45.drew = w46 at HI0 HK HB hHeld ⊢
                          refine pure_ (i := 0) (N := some 49) (v := ?_) (a' := ?_) #[true, false, false, false, false, false, false, false, false] rfl rfl (any_of HT_.out z36_4) (fun _ _ _ h => h) (Or.inl ⟨by rfl, ?_⟩) ?_ ?_
                          rotate_left
                          · intro w'
                            go_simp
                            with_reducible rfl
                          rotate_left
                          · simp only [Act.put, List.setIfInBounds_toArray, List.set_cons_zero, List.set_cons_succ, i64_w, i32_w]
                            rfl
                          refine pure_ (i := 1) (N := some 50) (v := ?_) (a' := ?_) #[true, true, false, false, false, false, false, false, false] rfl rfl (any_of HT_.out z36_4) (fun _ _ _ h => h) (Or.inl ⟨by rfl, ?_⟩) ?_ ?_
                          rotate_left
                          · intro w'
                            go_simp
                            with_reducible rfl
                          rotate_left
                          · simp only [Act.put, List.setIfInBounds_toArray, List.set_cons_zero, List.set_cons_succ, i64_w, i32_w]
                            rfl
                          refine pure_ (i := 2) (N := some 51) (v := ?_) (a' := ?_) #[true, true, true, false, false, false, false, false, false] rfl rfl (any_of HT_.out z36_4) (fun _ _ _ h => h) (Or.inl ⟨by rfl, ?_⟩) ?_ ?_
                          rotate_left
                          · intro w'
                            go_simp
                            with_reducible rfl
                          rotate_left
                          · simp only [Act.put, List.setIfInBounds_toArray, List.set_cons_zero, List.set_cons_succ, i64_w, i32_w]
                            rfl
                          refine pure_ (i := 3) (N := some 52) (v := ?_) (a' := ?_) #[true, true, true, true, false, false, false, false, false] rfl rfl (any_of HT_.out z36_4) (fun _ _ _ h => h) (Or.inl ⟨by rfl, ?_⟩) ?_ ?_
                          rotate_left
                          · intro w'
                            go_simp
                            with_reducible rfl
                          rotate_left
                          · simp only [Act.put, List.setIfInBounds_toArray, List.set_cons_zero, List.set_cons_succ, i64_w, i32_w]
                            rfl
                          refine pure_ (i := 4) (N := some 53) (v := ?_) (a' := ?_) #[true, true, true, true, true, false, false, false, false] rfl rfl (any_of HT_.out z36_4) (fun _ _ _ h => h) (Or.inl ⟨by rfl, ?_⟩) ?_ ?_
                          rotate_left
                          · intro w'
                            go_simp
                            with_reducible rfl
                          rotate_left
                          · simp only [Act.put, List.setIfInBounds_toArray, List.set_cons_zero, List.set_cons_succ, i64_w, i32_w]
                            rfl
                          refine pure_ (i := 5) (N := some 54) (v := ?_) (a' := ?_) #[true, true, true, true, true, true, false, false, false] rfl rfl (any_of HT_.out z36_4) (fun _ _ _ h => h) (Or.inl ⟨by rfl, ?_⟩) ?_ ?_
                          rotate_left
                          · intro w'
                            go_simp
                            with_reducible rfl
                          rotate_left
                          · simp only [Act.put, List.setIfInBounds_toArray, List.set_cons_zero, List.set_cons_succ, i64_w, i32_w]
                            rfl
                          refine pure_ (i := 6) (N := some 55) (v := ?_) (a' := ?_) #[true, true, true, true, true, true, true, false, false] rfl rfl (any_of HT_.out z36_4) (fun _ _ _ h => h) (Or.inl ⟨by rfl, ?_⟩) ?_ ?_
                          rotate_left
                          · intro w'
                            go_simp
                            with_reducible rfl
                          rotate_left
                          · simp only [Act.put, List.setIfInBounds_toArray, List.set_cons_zero, List.set_cons_succ, i64_w, i32_w]
                            rfl
                          refine pure_ (i := 7) (N := some 56) (v := ?_) (a' := ?_) #[true, true, true, true, true, true, true, true, false] rfl rfl (any_of HT_.out z36_4) (fun _ _ _ h => h) (Or.inl ⟨by rfl, ?_⟩) ?_ ?_
                          rotate_left
                          · intro w'
                            go_simp
                            with_reducible rfl
                          rotate_left
                          · simp only [Act.put, List.setIfInBounds_toArray, List.set_cons_zero, List.set_cons_succ, i64_w, i32_w]
                            rfl
                          refine pure_ (i := 8) (N := some 6) (v := ?_) (a' := ?_) #[true, true, true, true, true, true, true, true, true] rfl rfl (any_of HT_.out z36_4) (fun _ _ _ h => h) (Or.inl ⟨by rfl, ?_⟩) ?_ ?_
                          rotate_left
                          · intro w'
                            go_simp
                            with_reducible rfl
                          rotate_left
                          · simp only [Act.put, List.setIfInBounds_toArray, List.set_cons_zero, List.set_cons_succ, i64_w, i32_w]
                            rfl
                          refine done_ (done_of HT_.out z36_4) ?_
                          try go_wp2
                          go_ret
                          exact ⟨by first | rfl | (simp [errW_none, errW_some] <;> rfl) | (simp only [← hji39]; first | rfl | (simp [errW_none, errW_some] <;> rfl)) | (simp [*, errW_none, errW_some] <;> rfl), z36_3, z36_2, z36_0⟩
                        · rw [if_neg c42] at H
                          exact absurd H (by simp)
                      · rw [if_neg c41] at H
                        exact absurd H (by simp)
                    · rw [if_neg c40] at H
                      exact absurd H (by simp)
                  · rw [if_neg c38] at H
                    exact absurd H (by simp)
                · rw [if_neg c37] at H
                  exact absurd H (by simp)
          · rw [if_neg c12] at H
            exact absurd H (by simp)
        · rw [if_neg c11] at H
          exact absurd H (by simp)
      · rw [if_neg c10] at H
        exact absurd H (by simp)
    · rw [if_neg c9] at H
      exact absurd H (by simp)
end Go.Proofs.YtgclcjohnnpejaaDoor.Pr
end

section
namespace Go.Proofs.YtgclcjohnnpejaaDoor.Pr
open Go.RowKit Go.Proofs.YtgclcjohnnpejaaDoorW.PrintWords Go.Proofs.YtgclcjohnnpejaaDoorW.PrintLast Go.Proofs.YtgclcjohnnpejaaDoorW.PrintMore
attribute [local go_sem] max2_int min2_int max_two min_two max_three min_three max_four min_four
set_option linter.unusedVariables false
set_option linter.unusedSimpArgs false
theorem z37_0 {P : Prop} (h : P := by repeat (first | (with_reducible first | exact HK.out | apply KeepBut.set_ | apply keep_drewN | apply keep_drew | apply keep_alloc | refine keep_far ?_ GW602.out _) | exact HK.out)) : P := h
theorem z37_1 {P : Prop} (h : P := by repeat (first | (with_reducible first | exact HI0.out | apply IsS83.alloc | apply IsS83.drewN | apply IsS83.drew | apply IsS83.set_1 | apply IsS83.set_2 | refine IsS83.far ?_ NB0_602.out _) | exact HI0.out)) : P := h
theorem z37_2 {P : Prop} (h : P := by (with_reducible repeat (first | refine blk_drewN ?_ _ | refine blk_drew ?_ | refine blk_alloc ?_ _)); refine blk_put (cs := #[.string t603, .string t604, .int .i64 0]) ?_ 2 _ rfl; (with_reducible repeat (first | refine blk_drewN ?_ _ | refine blk_drew ?_ | refine blk_alloc ?_ _)); refine blk_put (cs := #[.string t603, .string (⟨#[]⟩ : ByteArray), .int .i64 0]) ?_ 1 _ rfl; (with_reducible repeat (first | refine blk_drewN ?_ _ | refine blk_drew ?_ | refine blk_alloc ?_ _)); refine blk_put (cs := #[.string (⟨#[]⟩ : ByteArray), .string (⟨#[]⟩ : ByteArray), .int .i64 0]) ?_ 0 _ rfl; (with_reducible repeat (first | refine blk_drewN ?_ _ | refine blk_drew ?_ | refine blk_alloc ?_ _)); exact BK608.out) : P := h
theorem z37_3 {P : Prop} (h : P := by repeat (first | (with_reducible first | exact HI0.out | apply IsS83.alloc | apply IsS83.drewN | apply IsS83.drew | apply IsS83.set_1 | apply IsS83.set_2) | exact HI0.out)) : P := h
theorem z37_4 {P : Prop} (h : P := by (with_reducible repeat (first | refine blk_drewN ?_ _ | refine blk_drew ?_ | refine blk_alloc ?_ _)); exact BK602.out) : P := h
theorem z37_5 {P : Prop} (h : P := by repeat (first | (with_reducible first | exact HK.out | apply KeepBut.set_ | apply keep_drewN | apply keep_drew | apply keep_alloc | refine keep_far ?_ GW602.out _ | refine keep_far ?_ GW608.out _) | exact HK.out)) : P := h
theorem z37_6 {P : Prop} (h : P := by repeat (first | (with_reducible first | exact HK.out | apply KeepBut.set_ | apply keep_drewN | apply keep_drew | apply keep_alloc) | exact HK.out)) : P := h
theorem z37_7 {P : Prop} (h : P := by (with_reducible repeat (first | refine blk_drewN ?_ _ | refine blk_drew ?_ | refine blk_alloc ?_ _)); refine blk_far ?_ NB602_608.out _; (with_reducible repeat (first | refine blk_drewN ?_ _ | refine blk_drew ?_ | refine blk_alloc ?_ _)); refine blk_far ?_ NB602_608.out _; (with_reducible repeat (first | refine blk_drewN ?_ _ | refine blk_drew ?_ | refine blk_alloc ?_ _)); refine blk_far ?_ NB602_608.out _; (with_reducible repeat (first | refine blk_drewN ?_ _ | refine blk_drew ?_ | refine blk_alloc ?_ _)); exact BK602.out) : P := h
theorem z37_8 {P : Prop} (h : P := by (try simp only [List.map_toArray, List.map_cons, List.map_nil]); first | done | rfl | (simp only [List.length_drop, List.length_take]; rfl)) : P := h
theorem z37_9 {P : Prop} (h : P := by repeat (first | (with_reducible first | exact HI0.out | apply IsS83.alloc | apply IsS83.drewN | apply IsS83.drew | apply IsS83.set_1 | apply IsS83.set_2 | refine IsS83.far ?_ NB0_602.out _ | refine IsS83.far ?_ NB0_608.out _) | exact HI0.out)) : P := h
theorem z37_10 {P : Prop} (h : P := by repeat (first | (with_reducible first | exact HB.out | apply below_alloc | apply pw_below_drewN | apply below_drew1 | refine below_set ?_ (IsS83.ge HI0.out) | refine below_set ?_ GE602.out | refine below_set ?_ GE608.out) | exact HB.out)) : P := h
theorem z37_11 {P : Prop} (h : P := by repeat (first | (with_reducible first | exact HB.out | apply below_alloc | apply pw_below_drewN | apply below_drew1 | refine below_set ?_ (IsS83.ge HI0.out) | refine below_set ?_ GE602.out) | exact HB.out)) : P := h
theorem z37_12 {P : Prop} (h : P := by repeat (first | (with_reducible first | exact HB.out | apply below_alloc | apply pw_below_drewN | apply below_drew1 | refine below_set ?_ (IsS83.ge HI0.out)) | exact HB.out)) : P := h
theorem z37_13 {P : Prop} (h : P := by rw [hg]; exact Nat.ne_of_lt (blk_lt (g := gb602) (o := .cells #[.string (⟨#[]⟩ : ByteArray), .string (⟨#[]⟩ : ByteArray), .int .i64 0] 42 (0, 0)) z37_4)) : P := h
theorem z37_14 {P : Prop} (h : P := by rw [hg]; exact Nat.ne_of_gt (blk_lt (g := gb602) (o := .cells #[.string (⟨#[]⟩ : ByteArray), .string (⟨#[]⟩ : ByteArray), .int .i64 0] 42 (0, 0)) z37_4)) : P := h
theorem z37_15 {P : Prop} (h : P := by rw [hg]; exact (keep_size (w := w) (g := g) (row := none) z37_6)) : P := h
theorem z37_16 {P : Prop} (h : P := by rw [hg]; exact (keep_size (w := w) (g := g) (row := none) z37_0)) : P := h
theorem z37_17 {P : Prop} (h : P := by first | rfl | (simp [errW_none, errW_some] <;> rfl) | (simp [*, errW_none, errW_some] <;> rfl)) : P := h
theorem z37_18 {P : Prop} (h : P := by (with_reducible repeat (first | refine blk_drewN ?_ _ | refine blk_drew ?_ | refine blk_alloc ?_ _)); exact BK615.out) : P := h
theorem z37_19 {P : Prop} (h : P := by repeat (first | (with_reducible first | exact HB.out | apply below_alloc | apply pw_below_drewN | apply below_drew1) | exact HB.out)) : P := h
theorem z37_20 {P : Prop} (h : P := by rw [hg]; exact Nat.ne_of_lt (IsS83.lt (show IsS83 w0 _ g s0_0 s0_1 s0_2 from z37_3))) : P := h
theorem z37_21 {P : Prop} (h : P := by rw [hg]; exact Nat.ne_of_gt (IsS83.lt (show IsS83 w0 _ g s0_0 s0_1 s0_2 from z37_3))) : P := h
theorem z37_22 {P : Prop} (h : P := by rw [hg]; exact Nat.ne_of_lt (IsS83.lt (show IsS83 w0 _ g s0_0 t606 t607 from z37_1))) : P := h
theorem z37_23 {P : Prop} (h : P := by rw [hg]; exact Nat.ne_of_gt (IsS83.lt (show IsS83 w0 _ g s0_0 t606 t607 from z37_1))) : P := h
def spec_l1Cur_anyLog.f (k : Nat) (s0_0 : List Int) (s0_1 : Int) (s0_2 : Int) : Option (ByteArray × ByteArray × Int × Int × Int) := (spec_l1Cur_log12.f k s0_0 s0_1 s0_2).bind fun bt603 => ((spec_l1Cur_pick.f s0_0 bt603.2.2.2.1 bt603.2.2.2.2 24).bind fun bt609 => (if bt609.1 = 0 then (some (bt603.1, bt603.2.1, wrap64 (bt603.2.2.1 + 1), bt609.2.1, bt609.2.2)) else (if bt609.1 = 1 then ((spec_l1Cur_spoilt.f s0_0 bt609.2.1 bt609.2.2 bt603.2.1 (⟨#[35, 64, 10, 48, 49]⟩ : ByteArray)).bind fun bt612 => (some (bt603.1, bt612.1, bt603.2.2.1, bt612.2.1, bt612.2.2))) else (if bt609.1 = 2 then (if bt603.1.size + bt603.2.1.size ≤ 9223372036854775807 then (some (bt603.1 ++ bt603.2.1, bt603.2.1, bt603.2.2.1, bt609.2.1, bt609.2.2)) else (none)) else (some (bt603.1, bt603.2.1, bt603.2.2.1, bt609.2.1, bt609.2.2))))))
theorem spec_l1Cur_anyLog.mono : ∀ a0 a1 a2 k, LeO (spec_l1Cur_anyLog.f k a0 a1 a2) (spec_l1Cur_anyLog.f (k + 1) a0 a1 a2) := by
  intro a0 a1 a2 k
  unfold spec_l1Cur_anyLog.f
  repeat' first
      | (with_reducible exact spec_l1Cur_log12.mono _ _ _ _)
      | (with_reducible exact LeO.refl _)
      | (with_reducible exact LeO.none _)
      | (with_reducible refine LeO.ite ?_ ?_)
      | (with_reducible refine LeO.bind ?_ (fun _ => ?_))
      | exact spec_l1Cur_log12.mono _ _ _ _
      | exact LeO.none _
      | refine LeO.ite ?_ ?_
      | refine LeO.bind ?_ (fun _ => ?_)
set_option maxHeartbeats 8000000 in
set_option maxRecDepth 100000 in
theorem spec_l1Cur_anyLog.calls (k : Nat) (g : Nat) (s0_0 : List Int) (s0_1 : Int) (s0_2 : Int) (r1 : ByteArray) (r2 : ByteArray) (r3 : Int) (r4 : Int) (r5 : Int) (w0 w : World) (hI : IsS83 w0 w g s0_0 s0_1 s0_2) (hB : Below w0.heap.size w0 w) (h : spec_l1Cur_anyLog.f k s0_0 s0_1 s0_2 = some (r1, r2, r3, r4, r5)) :
    Calls Tryd.prog 87 #[.pointer (some ⟨g, 0, none⟩)] w fun e w' => e = .returned (.agg #[.string r1, .string r2, .int .i64 r3]) ∧ IsS83 w0 w' g s0_0 r4 r5 ∧ Below w0.heap.size w0 w' ∧ KeepBut w w' g none := by
  have hu42 := Tryd.underlying42
  have HI0 := Aside0.mk hI
  have HK := Aside0.mk (KeepBut.refl w g none)
  have HL := Aside0.mk hB.size
  clear hI
  have HW0 := Aside0.mk hB.size
  have HB := Aside0.mk hB
  clear hB
  have H : ((spec_l1Cur_log12.f k s0_0 s0_1 s0_2).bind fun bt603 => ((spec_l1Cur_pick.f s0_0 bt603.2.2.2.1 bt603.2.2.2.2 24).bind fun bt609 => (if bt609.1 = 0 then (some (bt603.1, bt603.2.1, wrap64 (bt603.2.2.1 + 1), bt609.2.1, bt609.2.2)) else (if bt609.1 = 1 then ((spec_l1Cur_spoilt.f s0_0 bt609.2.1 bt609.2.2 bt603.2.1 (⟨#[35, 64, 10, 48, 49]⟩ : ByteArray)).bind fun bt612 => (some (bt603.1, bt612.1, bt603.2.2.1, bt612.2.1, bt612.2.2))) else (if bt609.1 = 2 then (if bt603.1.size + bt603.2.1.size ≤ 9223372036854775807 then (some (bt603.1 ++ bt603.2.1, bt603.2.1, bt603.2.2.1, bt609.2.1, bt609.2.2)) else (none)) else (some (bt603.1, bt603.2.1, bt603.2.2.1, bt609.2.1, bt609.2.2))))))) = some (r1, r2, r3, r4, r5) := h
  clear h
  replace H := Option.bind_eq_some_iff.mp H
  obtain ⟨⟨t603, t604, t605, t606, t607⟩, A20, H⟩ := H
  replace H : ((spec_l1Cur_pick.f s0_0 t606 t607 24).bind fun bt609 => (if bt609.1 = 0 then (some (t603, t604, wrap64 (t605 + 1), bt609.2.1, bt609.2.2)) else (if bt609.1 = 1 then ((spec_l1Cur_spoilt.f s0_0 bt609.2.1 bt609.2.2 t604 (⟨#[35, 64, 10, 48, 49]⟩ : ByteArray)).bind fun bt612 => (some (t603, bt612.1, t605, bt612.2.1, bt612.2.2))) else (if bt609.1 = 2 then (if t603.size + t604.size ≤ 9223372036854775807 then (some (t603 ++ t604, t604, t605, bt609.2.1, bt609.2.2)) else (none)) else (some (t603, t604, t605, bt609.2.1, bt609.2.2)))))) = some (r1, r2, r3, r4, r5) := H
  have A2 := Aside0.mk A20
  clear A20
  replace H := Option.bind_eq_some_iff.mp H
  obtain ⟨⟨t609, t610, t611⟩, A30, H⟩ := H
  replace H : (if t609 = 0 then (some (t603, t604, wrap64 (t605 + 1), t610, t611)) else (if t609 = 1 then ((spec_l1Cur_spoilt.f s0_0 t610 t611 t604 (⟨#[35, 64, 10, 48, 49]⟩ : ByteArray)).bind fun bt612 => (some (t603, bt612.1, t605, bt612.2.1, bt612.2.2))) else (if t609 = 2 then (if t603.size + t604.size ≤ 9223372036854775807 then (some (t603 ++ t604, t604, t605, t610, t611)) else (none)) else (some (t603, t604, t605, t610, t611))))) = some (r1, r2, r3, r4, r5) := H
  have A3 := Aside0.mk A30
  clear A30
  by_cases c4 : t609 = 0
  · rw [if_pos c4] at H
    have c4b0 : (t609 == 0) = true := beq_iff_eq.mpr c4
    have c4b1 : (t609 != 0) = false := bne_eq_false_iff_eq.mpr c4
    clear c4
    simp only [Option.some.injEq, Prod.mk.injEq] at H
    obtain ⟨rfl, rfl, rfl, rfl, rfl⟩ := H
    go_enter Tryd.func87, Tryd.ntmps87
    go_wp2_with (first | ((with_reducible refine gate_dst (N := 2) rfl ?_); refine box_event ?hg (N := 2) ?hd (cs := #[.string (⟨#[]⟩ : ByteArray), .string (⟨#[]⟩ : ByteArray), .int .i64 0]) (t := 42) ?hr ?_; (case hd => rfl); (case hg => rfl); (case hr => first | (go_simp; done) | (go_simp; rfl)); intro gb602 hg w5 hbox hb; have n0_ := Aside0.mk (IsS83.below z37_3 hb); have n1_ := Aside0.mk (KeepBut.trans z37_6 (KeepBut.of_below hb g none) (.inl rfl)); have n2_ := Aside0.mk (below_step z37_12 hb); have n3_ := Aside0.mk (hbox); have n4_ := Aside0.mk ((z37_15 : w.heap.size ≤ gb602)); have n5_ := Aside0.mk ((Nat.le_trans HW0.out (z37_15 : w.heap.size ≤ gb602) : w0.heap.size ≤ gb602)); have n6_ := Aside0.mk ((z37_20 : g ≠ gb602)); have n7_ := Aside0.mk ((z37_21 : gb602 ≠ g)); clear HI0; clear HK; clear HB; have HI0 := n0_; have HK := n1_; have HB := n2_; have BK602 := n3_; have GW602 := n4_; have GE602 := n5_; have NB0_602 := n6_; have NB602_0 := n7_; clear n0_ n1_ n2_ n3_ n4_ n5_ n6_ n7_; clear hb hbox hg) | ((with_reducible refine gate_callee (f := 90) rfl ?_); refine goesL_ (some 5) rfl rfl Tryd.func90 (by kernel_rfl) rfl #[.pointer (some ⟨g, 0, none⟩)] rfl z37_8 ?_; (with_reducible refine (spec_l1Cur_log12.calls k g s0_0 s0_1 s0_2 t603 t604 t605 t606 t607 w0 _ ?side1 ?side2 A2.out).mono ?_); (case side1 => repeat (first | (with_reducible first | exact HI0.out | apply IsS83.alloc | apply IsS83.drewN | apply IsS83.drew | apply IsS83.set_1 | apply IsS83.set_2 | refine IsS83.far ?_ NB0_602.out _) | exact HI0.out)); (case side2 => repeat (first | (with_reducible first | exact HB.out | apply below_alloc | apply pw_below_drewN | apply below_drew1 | refine below_set ?_ (IsS83.ge HI0.out) | refine below_set ?_ GE602.out) | exact HB.out)); rintro e w6 ⟨rfl, hi, hb, hk⟩; refine ⟨_, rfl, ?_⟩; have n0_ := Aside0.mk (KeepBut.blk hk (g' := gb602) (o := .cells #[.string (⟨#[]⟩ : ByteArray), .string (⟨#[]⟩ : ByteArray), .int .i64 0] 42 (0, 0)) z37_4 NB602_0.out (by simp)); have n1_ := Aside0.mk (KeepBut.trans z37_0 hk (.inl rfl)); have n2_ := Aside0.mk (hb); have n3_ := Aside0.mk (hi); clear BK602; clear HK; clear HB; clear HI0; have BK602 := n0_; have HK := n1_; have HB := n2_; have HI0 := n3_; clear n0_ n1_ n2_ n3_; (try clear hb); (try clear hb2); (try clear hk); (try clear hi)) | ((with_reducible refine gate_dst (N := 3) rfl ?_); refine box_event ?hg (N := 3) ?hd (cs := #[.string (⟨#[]⟩ : ByteArray), .string (⟨#[]⟩ : ByteArray), .int .i64 0]) (t := 42) ?hr ?_; (case hd => rfl); (case hg => rfl); (case hr => first | (go_simp; done) | (go_simp; rfl)); intro gb608 hg w7 hbox hb; have n0_ := Aside0.mk (IsS83.below z37_1 hb); have n1_ := Aside0.mk (blk_below (g := gb602) (o := .cells #[.string (⟨#[]⟩ : ByteArray), .string (⟨#[]⟩ : ByteArray), .int .i64 0] 42 (0, 0)) z37_4 hb); have n2_ := Aside0.mk (KeepBut.trans z37_0 (KeepBut.of_below hb g none) (.inl rfl)); have n3_ := Aside0.mk (below_step z37_11 hb); have n4_ := Aside0.mk (hbox); have n5_ := Aside0.mk ((z37_16 : w.heap.size ≤ gb608)); have n6_ := Aside0.mk ((Nat.le_trans HW0.out (z37_16 : w.heap.size ≤ gb608) : w0.heap.size ≤ gb608)); have n7_ := Aside0.mk ((z37_13 : gb602 ≠ gb608)); have n8_ := Aside0.mk ((z37_14 : gb608 ≠ gb602)); have n9_ := Aside0.mk ((z37_22 : g ≠ gb608)); have n10_ := Aside0.mk ((z37_23 : gb608 ≠ g)); clear HI0; clear BK602; clear HK; clear HB; have HI0 := n0_; have BK602 := n1_; have HK := n2_; have HB := n3_; have BK608 := n4_; have GW608 := n5_; have GE608 := n6_; have NB602_608 := n7_; have NB608_602 := n8_; have NB0_608 := n9_; have NB608_0 := n10_; clear n0_ n1_ n2_ n3_ n4_ n5_ n6_ n7_ n8_ n9_ n10_; clear hb hbox hg; have hnb8 := NB608_602.out; have hnc8 := NB602_608.out; have hnb9 := NB608_0.out; have hnc9 := NB0_608.out; have hcz10_0 : w7.cell? ⟨gb608, 0, none⟩ = some (.string (⟨#[]⟩ : ByteArray)) := (blk_cell BK608.out 0).trans rfl; have hcz10_1 : w7.cell? ⟨gb608, 1, none⟩ = some (.string (⟨#[]⟩ : ByteArray)) := (blk_cell BK608.out 1).trans rfl; have hcz10_2 : w7.cell? ⟨gb608, 2, none⟩ = some (.int .i64 0) := (blk_cell BK608.out 2).trans rfl; have hfz10_0 := blk_frozen BK608.out 0; have hfz10_1 := blk_frozen BK608.out 1; have hfz10_2 := blk_frozen BK608.out 2) | ((with_reducible refine gate_callee (f := 69) rfl ?_); refine goesL_ (some 7) rfl rfl Tryd.func69 (by kernel_rfl) rfl #[.pointer (some ⟨g, 0, none⟩), .int .i64 24] rfl z37_8 ?_; (with_reducible refine (spec_l1Cur_pick.calls g s0_0 t606 t607 24 t609 t610 t611 w0 _ ?side1 ?side2 A3.out).mono ?_); (case side1 => repeat (first | (with_reducible first | exact HI0.out | apply IsS83.alloc | apply IsS83.drewN | apply IsS83.drew | apply IsS83.set_1 | apply IsS83.set_2 | refine IsS83.far ?_ NB0_602.out _ | refine IsS83.far ?_ NB0_608.out _) | exact HI0.out)); (case side2 => repeat (first | (with_reducible first | exact HB.out | apply below_alloc | apply pw_below_drewN | apply below_drew1 | refine below_set ?_ (IsS83.ge HI0.out) | refine below_set ?_ GE602.out | refine below_set ?_ GE608.out) | exact HB.out)); rintro e w11 ⟨rfl, hi, hb, hk⟩; refine ⟨_, rfl, ?_⟩; have n0_ := Aside0.mk (KeepBut.blk hk (g' := gb602) (o := .cells #[.string (⟨#[]⟩ : ByteArray), .string (⟨#[]⟩ : ByteArray), .int .i64 0] 42 (0, 0)) z37_7 NB602_0.out (by simp)); have n1_ := Aside0.mk (KeepBut.blk hk (g' := gb608) (o := .cells #[.string t603, .string t604, .int .i64 t605] 42 (0, 0)) z37_2 NB608_0.out (by simp)); have n2_ := Aside0.mk (KeepBut.trans z37_5 hk (.inl rfl)); have n3_ := Aside0.mk (hb); have n4_ := Aside0.mk (hi); clear BK602; clear BK608; clear HK; clear HB; clear HI0; have BK602 := n0_; have BK608 := n1_; have HK := n2_; have HB := n3_; have HI0 := n4_; clear n0_ n1_ n2_ n3_ n4_; (try clear hb); (try clear hb2); (try clear hk); (try clear hi); have hcz12_0 : w11.cell? ⟨gb608, 0, none⟩ = some (.string t603) := (blk_cell BK608.out 0).trans rfl; have hcz12_1 : w11.cell? ⟨gb608, 1, none⟩ = some (.string t604) := (blk_cell BK608.out 1).trans rfl; have hcz12_2 : w11.cell? ⟨gb608, 2, none⟩ = some (.int .i64 t605) := (blk_cell BK608.out 2).trans rfl; have hfz12_0 := blk_frozen BK608.out 0; have hfz12_1 := blk_frozen BK608.out 1; have hfz12_2 := blk_frozen BK608.out 2; have hnb13 := NB602_0.out; have hnc13 := NB0_602.out; have hcz14_0 : w11.cell? ⟨gb602, 0, none⟩ = some (.string (⟨#[]⟩ : ByteArray)) := (blk_cell BK602.out 0).trans rfl; have hcz14_1 : w11.cell? ⟨gb602, 1, none⟩ = some (.string (⟨#[]⟩ : ByteArray)) := (blk_cell BK602.out 1).trans rfl; have hcz14_2 : w11.cell? ⟨gb602, 2, none⟩ = some (.int .i64 0) := (blk_cell BK602.out 2).trans rfl; have hfz14_0 := blk_frozen BK602.out 0; have hfz14_1 := blk_frozen BK602.out 1; have hfz14_2 := blk_frozen BK602.out 2))
    refine bodyPost_ret (results_cell_row rfl _ _ gb602 42 #[.string t603, .string t604, .int .i64 (wrap64 (t605 + 1))] (0, 0) _ rfl (by (with_reducible repeat (first | refine blk_drewN ?_ _ | refine blk_drew ?_ | refine blk_alloc ?_ _)); refine blk_put (cs := #[.string t603, .string t604, .int .i64 0]) ?_ 2 _ rfl; (with_reducible repeat (first | refine blk_drewN ?_ _ | refine blk_drew ?_ | refine blk_alloc ?_ _)); refine blk_put (cs := #[.string t603, .string (⟨#[]⟩ : ByteArray), .int .i64 0]) ?_ 1 _ rfl; (with_reducible repeat (first | refine blk_drewN ?_ _ | refine blk_drew ?_ | refine blk_alloc ?_ _)); refine blk_put (cs := #[.string (⟨#[]⟩ : ByteArray), .string (⟨#[]⟩ : ByteArray), .int .i64 0]) ?_ 0 _ rfl; (with_reducible repeat (first | refine blk_drewN ?_ _ | refine blk_drew ?_ | refine blk_alloc ?_ _)); refine blk_far ?_ NB602_608.out _; (with_reducible repeat (first | refine blk_drewN ?_ _ | refine blk_drew ?_ | refine blk_alloc ?_ _)); exact BK602.out) Tryd.underlying42 rfl (by kernel_rfl)) rfl ?_
    exact ⟨z37_17, z37_9, z37_10, z37_5⟩
  · rw [if_neg c4] at H
    have c4b0 : (t609 == 0) = false := beq_eq_false_iff_ne.mpr c4
    have c4b1 : (t609 != 0) = true := bne_iff_ne.mpr c4
    by_cases c15 : t609 = 1
    · rw [if_pos c15] at H
      have c15b0 : (t609 == 1) = true := beq_iff_eq.mpr c15
      have c15b1 : (t609 != 1) = false := bne_eq_false_iff_eq.mpr c15
      clear c15
      replace H := Option.bind_eq_some_iff.mp H
      obtain ⟨⟨t612, t613, t614⟩, A160, H⟩ := H
      replace H : (some (t603, t612, t605, t613, t614)) = some (r1, r2, r3, r4, r5) := H
      have A16 := Aside0.mk A160
      clear A160
      simp only [Option.some.injEq, Prod.mk.injEq] at H
      obtain ⟨rfl, rfl, rfl, rfl, rfl⟩ := H
      go_enter Tryd.func87, Tryd.ntmps87
      go_wp2_with (first | ((with_reducible refine gate_dst (N := 2) rfl ?_); refine box_event ?hg (N := 2) ?hd (cs := #[.string (⟨#[]⟩ : ByteArray), .string (⟨#[]⟩ : ByteArray), .int .i64 0]) (t := 42) ?hr ?_; (case hd => rfl); (case hg => rfl); (case hr => first | (go_simp; done) | (go_simp; rfl)); intro gb602 hg w17 hbox hb; have n0_ := Aside0.mk (IsS83.below z37_3 hb); have n1_ := Aside0.mk (KeepBut.trans z37_6 (KeepBut.of_below hb g none) (.inl rfl)); have n2_ := Aside0.mk (below_step z37_12 hb); have n3_ := Aside0.mk (hbox); have n4_ := Aside0.mk ((z37_15 : w.heap.size ≤ gb602)); have n5_ := Aside0.mk ((Nat.le_trans HW0.out (z37_15 : w.heap.size ≤ gb602) : w0.heap.size ≤ gb602)); have n6_ := Aside0.mk ((z37_20 : g ≠ gb602)); have n7_ := Aside0.mk ((z37_21 : gb602 ≠ g)); clear HI0; clear HK; clear HB; have HI0 := n0_; have HK := n1_; have HB := n2_; have BK602 := n3_; have GW602 := n4_; have GE602 := n5_; have NB0_602 := n6_; have NB602_0 := n7_; clear n0_ n1_ n2_ n3_ n4_ n5_ n6_ n7_; clear hb hbox hg) | ((with_reducible refine gate_callee (f := 90) rfl ?_); refine goesL_ (some 5) rfl rfl Tryd.func90 (by kernel_rfl) rfl #[.pointer (some ⟨g, 0, none⟩)] rfl z37_8 ?_; (with_reducible refine (spec_l1Cur_log12.calls k g s0_0 s0_1 s0_2 t603 t604 t605 t606 t607 w0 _ ?side1 ?side2 A2.out).mono ?_); (case side1 => repeat (first | (with_reducible first | exact HI0.out | apply IsS83.alloc | apply IsS83.drewN | apply IsS83.drew | apply IsS83.set_1 | apply IsS83.set_2 | refine IsS83.far ?_ NB0_602.out _) | exact HI0.out)); (case side2 => repeat (first | (with_reducible first | exact HB.out | apply below_alloc | apply pw_below_drewN | apply below_drew1 | refine below_set ?_ (IsS83.ge HI0.out) | refine below_set ?_ GE602.out) | exact HB.out)); rintro e w18 ⟨rfl, hi, hb, hk⟩; refine ⟨_, rfl, ?_⟩; have n0_ := Aside0.mk (KeepBut.blk hk (g' := gb602) (o := .cells #[.string (⟨#[]⟩ : ByteArray), .string (⟨#[]⟩ : ByteArray), .int .i64 0] 42 (0, 0)) z37_4 NB602_0.out (by simp)); have n1_ := Aside0.mk (KeepBut.trans z37_0 hk (.inl rfl)); have n2_ := Aside0.mk (hb); have n3_ := Aside0.mk (hi); clear BK602; clear HK; clear HB; clear HI0; have BK602 := n0_; have HK := n1_; have HB := n2_; have HI0 := n3_; clear n0_ n1_ n2_ n3_; (try clear hb); (try clear hb2); (try clear hk); (try clear hi)) | ((with_reducible refine gate_dst (N := 3) rfl ?_); refine box_event ?hg (N := 3) ?hd (cs := #[.string (⟨#[]⟩ : ByteArray), .string (⟨#[]⟩ : ByteArray), .int .i64 0]) (t := 42) ?hr ?_; (case hd => rfl); (case hg => rfl); (case hr => first | (go_simp; done) | (go_simp; rfl)); intro gb608 hg w19 hbox hb; have n0_ := Aside0.mk (IsS83.below z37_1 hb); have n1_ := Aside0.mk (blk_below (g := gb602) (o := .cells #[.string (⟨#[]⟩ : ByteArray), .string (⟨#[]⟩ : ByteArray), .int .i64 0] 42 (0, 0)) z37_4 hb); have n2_ := Aside0.mk (KeepBut.trans z37_0 (KeepBut.of_below hb g none) (.inl rfl)); have n3_ := Aside0.mk (below_step z37_11 hb); have n4_ := Aside0.mk (hbox); have n5_ := Aside0.mk ((z37_16 : w.heap.size ≤ gb608)); have n6_ := Aside0.mk ((Nat.le_trans HW0.out (z37_16 : w.heap.size ≤ gb608) : w0.heap.size ≤ gb608)); have n7_ := Aside0.mk ((z37_13 : gb602 ≠ gb608)); have n8_ := Aside0.mk ((z37_14 : gb608 ≠ gb602)); have n9_ := Aside0.mk ((z37_22 : g ≠ gb608)); have n10_ := Aside0.mk ((z37_23 : gb608 ≠ g)); clear HI0; clear BK602; clear HK; clear HB; have HI0 := n0_; have BK602 := n1_; have HK := n2_; have HB := n3_; have BK608 := n4_; have GW608 := n5_; have GE608 := n6_; have NB602_608 := n7_; have NB608_602 := n8_; have NB0_608 := n9_; have NB608_0 := n10_; clear n0_ n1_ n2_ n3_ n4_ n5_ n6_ n7_ n8_ n9_ n10_; clear hb hbox hg; have hnb20 := NB608_602.out; have hnc20 := NB602_608.out; have hnb21 := NB608_0.out; have hnc21 := NB0_608.out; have hcz22_0 : w19.cell? ⟨gb608, 0, none⟩ = some (.string (⟨#[]⟩ : ByteArray)) := (blk_cell BK608.out 0).trans rfl; have hcz22_1 : w19.cell? ⟨gb608, 1, none⟩ = some (.string (⟨#[]⟩ : ByteArray)) := (blk_cell BK608.out 1).trans rfl; have hcz22_2 : w19.cell? ⟨gb608, 2, none⟩ = some (.int .i64 0) := (blk_cell BK608.out 2).trans rfl; have hfz22_0 := blk_frozen BK608.out 0; have hfz22_1 := blk_frozen BK608.out 1; have hfz22_2 := blk_frozen BK608.out 2) | ((with_reducible refine gate_callee (f := 69) rfl ?_); refine goesL_ (some 7) rfl rfl Tryd.func69 (by kernel_rfl) rfl #[.pointer (some ⟨g, 0, none⟩), .int .i64 24] rfl z37_8 ?_; (with_reducible refine (spec_l1Cur_pick.calls g s0_0 t606 t607 24 t609 t610 t611 w0 _ ?side1 ?side2 A3.out).mono ?_); (case side1 => repeat (first | (with_reducible first | exact HI0.out | apply IsS83.alloc | apply IsS83.drewN | apply IsS83.drew | apply IsS83.set_1 | apply IsS83.set_2 | refine IsS83.far ?_ NB0_602.out _ | refine IsS83.far ?_ NB0_608.out _) | exact HI0.out)); (case side2 => repeat (first | (with_reducible first | exact HB.out | apply below_alloc | apply pw_below_drewN | apply below_drew1 | refine below_set ?_ (IsS83.ge HI0.out) | refine below_set ?_ GE602.out | refine below_set ?_ GE608.out) | exact HB.out)); rintro e w23 ⟨rfl, hi, hb, hk⟩; refine ⟨_, rfl, ?_⟩; have n0_ := Aside0.mk (KeepBut.blk hk (g' := gb602) (o := .cells #[.string (⟨#[]⟩ : ByteArray), .string (⟨#[]⟩ : ByteArray), .int .i64 0] 42 (0, 0)) z37_7 NB602_0.out (by simp)); have n1_ := Aside0.mk (KeepBut.blk hk (g' := gb608) (o := .cells #[.string t603, .string t604, .int .i64 t605] 42 (0, 0)) z37_2 NB608_0.out (by simp)); have n2_ := Aside0.mk (KeepBut.trans z37_5 hk (.inl rfl)); have n3_ := Aside0.mk (hb); have n4_ := Aside0.mk (hi); clear BK602; clear BK608; clear HK; clear HB; clear HI0; have BK602 := n0_; have BK608 := n1_; have HK := n2_; have HB := n3_; have HI0 := n4_; clear n0_ n1_ n2_ n3_ n4_; (try clear hb); (try clear hb2); (try clear hk); (try clear hi); have hcz24_0 : w23.cell? ⟨gb608, 0, none⟩ = some (.string t603) := (blk_cell BK608.out 0).trans rfl; have hcz24_1 : w23.cell? ⟨gb608, 1, none⟩ = some (.string t604) := (blk_cell BK608.out 1).trans rfl; have hcz24_2 : w23.cell? ⟨gb608, 2, none⟩ = some (.int .i64 t605) := (blk_cell BK608.out 2).trans rfl; have hfz24_0 := blk_frozen BK608.out 0; have hfz24_1 := blk_frozen BK608.out 1; have hfz24_2 := blk_frozen BK608.out 2) | ((with_reducible refine gate_callee (f := 91) rfl ?_); refine goesL_ (some 19) rfl rfl Tryd.func91 (by kernel_rfl) rfl #[.pointer (some ⟨g, 0, none⟩), .string t604, .string (⟨#[35, 64, 10, 48, 49]⟩ : ByteArray)] rfl z37_8 ?_; (with_reducible refine (spec_l1Cur_spoilt.calls g s0_0 t610 t611 t604 (⟨#[35, 64, 10, 48, 49]⟩ : ByteArray) t612 t613 t614 w0 _ ?side1 ?side2 A16.out).mono ?_); (case side1 => repeat (first | (with_reducible first | exact HI0.out | apply IsS83.alloc | apply IsS83.drewN | apply IsS83.drew | apply IsS83.set_1 | apply IsS83.set_2 | refine IsS83.far ?_ NB0_602.out _ | refine IsS83.far ?_ NB0_608.out _) | exact HI0.out)); (case side2 => repeat (first | (with_reducible first | exact HB.out | apply below_alloc | apply pw_below_drewN | apply below_drew1 | refine below_set ?_ (IsS83.ge HI0.out) | refine below_set ?_ GE602.out | refine below_set ?_ GE608.out) | exact HB.out)); rintro e w25 ⟨rfl, hi, hb, hk⟩; refine ⟨_, rfl, ?_⟩; have n0_ := Aside0.mk (KeepBut.blk hk (g' := gb602) (o := .cells #[.string (⟨#[]⟩ : ByteArray), .string (⟨#[]⟩ : ByteArray), .int .i64 0] 42 (0, 0)) z37_4 NB602_0.out (by simp)); have n1_ := Aside0.mk (KeepBut.blk hk (g' := gb608) (o := .cells #[.string t603, .string t604, .int .i64 t605] 42 (0, 0)) (by (with_reducible repeat (first | refine blk_drewN ?_ _ | refine blk_drew ?_ | refine blk_alloc ?_ _)); exact BK608.out) NB608_0.out (by simp)); have n2_ := Aside0.mk (KeepBut.trans z37_5 hk (.inl rfl)); have n3_ := Aside0.mk (hb); have n4_ := Aside0.mk (hi); clear BK602; clear BK608; clear HK; clear HB; clear HI0; have BK602 := n0_; have BK608 := n1_; have HK := n2_; have HB := n3_; have HI0 := n4_; clear n0_ n1_ n2_ n3_ n4_; (try clear hb); (try clear hb2); (try clear hk); (try clear hi); have hcz26_0 : w25.cell? ⟨gb608, 0, none⟩ = some (.string t603) := (blk_cell BK608.out 0).trans rfl; have hcz26_1 : w25.cell? ⟨gb608, 1, none⟩ = some (.string t604) := (blk_cell BK608.out 1).trans rfl; have hcz26_2 : w25.cell? ⟨gb608, 2, none⟩ = some (.int .i64 t605) := (blk_cell BK608.out 2).trans rfl; have hfz26_0 := blk_frozen BK608.out 0; have hfz26_1 := blk_frozen BK608.out 1; have hfz26_2 := blk_frozen BK608.out 2; have hnb27 := NB602_0.out; have hnc27 := NB0_602.out; have hcz28_0 : w25.cell? ⟨gb602, 0, none⟩ = some (.string (⟨#[]⟩ : ByteArray)) := (blk_cell BK602.out 0).trans rfl; have hcz28_1 : w25.cell? ⟨gb602, 1, none⟩ = some (.string (⟨#[]⟩ : ByteArray)) := (blk_cell BK602.out 1).trans rfl; have hcz28_2 : w25.cell? ⟨gb602, 2, none⟩ = some (.int .i64 0) := (blk_cell BK602.out 2).trans rfl; have hfz28_0 := blk_frozen BK602.out 0; have hfz28_1 := blk_frozen BK602.out 1; have hfz28_2 := blk_frozen BK602.out 2))
      refine bodyPost_ret (results_cell_row rfl _ _ gb602 42 #[.string t603, .string t612, .int .i64 t605] (0, 0) _ rfl (by (with_reducible repeat (first | refine blk_drewN ?_ _ | refine blk_drew ?_ | refine blk_alloc ?_ _)); refine blk_put (cs := #[.string t603, .string t612, .int .i64 0]) ?_ 2 _ rfl; (with_reducible repeat (first | refine blk_drewN ?_ _ | refine blk_drew ?_ | refine blk_alloc ?_ _)); refine blk_put (cs := #[.string t603, .string (⟨#[]⟩ : ByteArray), .int .i64 0]) ?_ 1 _ rfl; (with_reducible repeat (first | refine blk_drewN ?_ _ | refine blk_drew ?_ | refine blk_alloc ?_ _)); refine blk_put (cs := #[.string (⟨#[]⟩ : ByteArray), .string (⟨#[]⟩ : ByteArray), .int .i64 0]) ?_ 0 _ rfl; (with_reducible repeat (first | refine blk_drewN ?_ _ | refine blk_drew ?_ | refine blk_alloc ?_ _)); refine blk_far ?_ NB602_608.out _; (with_reducible repeat (first | refine blk_drewN ?_ _ | refine blk_drew ?_ | refine blk_alloc ?_ _)); exact BK602.out) Tryd.underlying42 rfl (by kernel_rfl)) rfl ?_
      exact ⟨z37_17, z37_9, z37_10, z37_5⟩
    · rw [if_neg c15] at H
      have c15b0 : (t609 == 1) = false := beq_eq_false_iff_ne.mpr c15
      have c15b1 : (t609 != 1) = true := bne_iff_ne.mpr c15
      by_cases c29 : t609 = 2
      · rw [if_pos c29] at H
        have c29b0 : (t609 == 2) = true := beq_iff_eq.mpr c29
        have c29b1 : (t609 != 2) = false := bne_eq_false_iff_eq.mpr c29
        clear c29
        by_cases c30 : t603.size + t604.size ≤ 9223372036854775807
        · rw [if_pos c30] at H
          have c30b0 := eq_true c30
          have c30b1 : decide (t603.size + t604.size ≤ 9223372036854775807) = true := decide_eq_true c30
          try have c30b2 : (9223372036854775807 < t603.size + t604.size) = False := eq_false (Nat.not_lt.2 c30)
          simp only [Option.some.injEq, Prod.mk.injEq] at H
          obtain ⟨rfl, rfl, rfl, rfl, rfl⟩ := H
          go_enter Tryd.func87, Tryd.ntmps87
          go_wp2_with (first | ((with_reducible refine gate_dst (N := 2) rfl ?_); refine box_event ?hg (N := 2) ?hd (cs := #[.string (⟨#[]⟩ : ByteArray), .string (⟨#[]⟩ : ByteArray), .int .i64 0]) (t := 42) ?hr ?_; (case hd => rfl); (case hg => rfl); (case hr => first | (go_simp; done) | (go_simp; rfl)); intro gb602 hg w31 hbox hb; have n0_ := Aside0.mk (IsS83.below z37_3 hb); have n1_ := Aside0.mk (KeepBut.trans z37_6 (KeepBut.of_below hb g none) (.inl rfl)); have n2_ := Aside0.mk (below_step z37_12 hb); have n3_ := Aside0.mk (hbox); have n4_ := Aside0.mk ((z37_15 : w.heap.size ≤ gb602)); have n5_ := Aside0.mk ((Nat.le_trans HW0.out (z37_15 : w.heap.size ≤ gb602) : w0.heap.size ≤ gb602)); have n6_ := Aside0.mk ((z37_20 : g ≠ gb602)); have n7_ := Aside0.mk ((z37_21 : gb602 ≠ g)); clear HI0; clear HK; clear HB; have HI0 := n0_; have HK := n1_; have HB := n2_; have BK602 := n3_; have GW602 := n4_; have GE602 := n5_; have NB0_602 := n6_; have NB602_0 := n7_; clear n0_ n1_ n2_ n3_ n4_ n5_ n6_ n7_; clear hb hbox hg) | ((with_reducible refine gate_callee (f := 90) rfl ?_); refine goesL_ (some 5) rfl rfl Tryd.func90 (by kernel_rfl) rfl #[.pointer (some ⟨g, 0, none⟩)] rfl z37_8 ?_; (with_reducible refine (spec_l1Cur_log12.calls k g s0_0 s0_1 s0_2 t603 t604 t605 t606 t607 w0 _ ?side1 ?side2 A2.out).mono ?_); (case side1 => repeat (first | (with_reducible first | exact HI0.out | apply IsS83.alloc | apply IsS83.drewN | apply IsS83.drew | apply IsS83.set_1 | apply IsS83.set_2 | refine IsS83.far ?_ NB0_602.out _) | exact HI0.out)); (case side2 => repeat (first | (with_reducible first | exact HB.out | apply below_alloc | apply pw_below_drewN | apply below_drew1 | refine below_set ?_ (IsS83.ge HI0.out) | refine below_set ?_ GE602.out) | exact HB.out)); rintro e w32 ⟨rfl, hi, hb, hk⟩; refine ⟨_, rfl, ?_⟩; have n0_ := Aside0.mk (KeepBut.blk hk (g' := gb602) (o := .cells #[.string (⟨#[]⟩ : ByteArray), .string (⟨#[]⟩ : ByteArray), .int .i64 0] 42 (0, 0)) z37_4 NB602_0.out (by simp)); have n1_ := Aside0.mk (KeepBut.trans z37_0 hk (.inl rfl)); have n2_ := Aside0.mk (hb); have n3_ := Aside0.mk (hi); clear BK602; clear HK; clear HB; clear HI0; have BK602 := n0_; have HK := n1_; have HB := n2_; have HI0 := n3_; clear n0_ n1_ n2_ n3_; (try clear hb); (try clear hb2); (try clear hk); (try clear hi)) | ((with_reducible refine gate_dst (N := 3) rfl ?_); refine box_event ?hg (N := 3) ?hd (cs := #[.string (⟨#[]⟩ : ByteArray), .string (⟨#[]⟩ : ByteArray), .int .i64 0]) (t := 42) ?hr ?_; (case hd => rfl); (case hg => rfl); (case hr => first | (go_simp; done) | (go_simp; rfl)); intro gb608 hg w33 hbox hb; have n0_ := Aside0.mk (IsS83.below z37_1 hb); have n1_ := Aside0.mk (blk_below (g := gb602) (o := .cells #[.string (⟨#[]⟩ : ByteArray), .string (⟨#[]⟩ : ByteArray), .int .i64 0] 42 (0, 0)) z37_4 hb); have n2_ := Aside0.mk (KeepBut.trans z37_0 (KeepBut.of_below hb g none) (.inl rfl)); have n3_ := Aside0.mk (below_step z37_11 hb); have n4_ := Aside0.mk (hbox); have n5_ := Aside0.mk ((z37_16 : w.heap.size ≤ gb608)); have n6_ := Aside0.mk ((Nat.le_trans HW0.out (z37_16 : w.heap.size ≤ gb608) : w0.heap.size ≤ gb608)); have n7_ := Aside0.mk ((z37_13 : gb602 ≠ gb608)); have n8_ := Aside0.mk ((z37_14 : gb608 ≠ gb602)); have n9_ := Aside0.mk ((z37_22 : g ≠ gb608)); have n10_ := Aside0.mk ((z37_23 : gb608 ≠ g)); clear HI0; clear BK602; clear HK; clear HB; have HI0 := n0_; have BK602 := n1_; have HK := n2_; have HB := n3_; have BK608 := n4_; have GW608 := n5_; have GE608 := n6_; have NB602_608 := n7_; have NB608_602 := n8_; have NB0_608 := n9_; have NB608_0 := n10_; clear n0_ n1_ n2_ n3_ n4_ n5_ n6_ n7_ n8_ n9_ n10_; clear hb hbox hg; have hnb34 := NB608_602.out; have hnc34 := NB602_608.out; have hnb35 := NB608_0.out; have hnc35 := NB0_608.out; have hcz36_0 : w33.cell? ⟨gb608, 0, none⟩ = some (.string (⟨#[]⟩ : ByteArray)) := (blk_cell BK608.out 0).trans rfl; have hcz36_1 : w33.cell? ⟨gb608, 1, none⟩ = some (.string (⟨#[]⟩ : ByteArray)) := (blk_cell BK608.out 1).trans rfl; have hcz36_2 : w33.cell? ⟨gb608, 2, none⟩ = some (.int .i64 0) := (blk_cell BK608.out 2).trans rfl; have hfz36_0 := blk_frozen BK608.out 0; have hfz36_1 := blk_frozen BK608.out 1; have hfz36_2 := blk_frozen BK608.out 2) | ((with_reducible refine gate_callee (f := 69) rfl ?_); refine goesL_ (some 7) rfl rfl Tryd.func69 (by kernel_rfl) rfl #[.pointer (some ⟨g, 0, none⟩), .int .i64 24] rfl z37_8 ?_; (with_reducible refine (spec_l1Cur_pick.calls g s0_0 t606 t607 24 t609 t610 t611 w0 _ ?side1 ?side2 A3.out).mono ?_); (case side1 => repeat (first | (with_reducible first | exact HI0.out | apply IsS83.alloc | apply IsS83.drewN | apply IsS83.drew | apply IsS83.set_1 | apply IsS83.set_2 | refine IsS83.far ?_ NB0_602.out _ | refine IsS83.far ?_ NB0_608.out _) | exact HI0.out)); (case side2 => repeat (first | (with_reducible first | exact HB.out | apply below_alloc | apply pw_below_drewN | apply below_drew1 | refine below_set ?_ (IsS83.ge HI0.out) | refine below_set ?_ GE602.out | refine below_set ?_ GE608.out) | exact HB.out)); rintro e w37 ⟨rfl, hi, hb, hk⟩; refine ⟨_, rfl, ?_⟩; have n0_ := Aside0.mk (KeepBut.blk hk (g' := gb602) (o := .cells #[.string (⟨#[]⟩ : ByteArray), .string (⟨#[]⟩ : ByteArray), .int .i64 0] 42 (0, 0)) z37_7 NB602_0.out (by simp)); have n1_ := Aside0.mk (KeepBut.blk hk (g' := gb608) (o := .cells #[.string t603, .string t604, .int .i64 t605] 42 (0, 0)) z37_2 NB608_0.out (by simp)); have n2_ := Aside0.mk (KeepBut.trans z37_5 hk (.inl rfl)); have n3_ := Aside0.mk (hb); have n4_ := Aside0.mk (hi); clear BK602; clear BK608; clear HK; clear HB; clear HI0; have BK602 := n0_; have BK608 := n1_; have HK := n2_; have HB := n3_; have HI0 := n4_; clear n0_ n1_ n2_ n3_ n4_; (try clear hb); (try clear hb2); (try clear hk); (try clear hi); have hcz38_0 : w37.cell? ⟨gb608, 0, none⟩ = some (.string t603) := (blk_cell BK608.out 0).trans rfl; have hcz38_1 : w37.cell? ⟨gb608, 1, none⟩ = some (.string t604) := (blk_cell BK608.out 1).trans rfl; have hcz38_2 : w37.cell? ⟨gb608, 2, none⟩ = some (.int .i64 t605) := (blk_cell BK608.out 2).trans rfl; have hfz38_0 := blk_frozen BK608.out 0; have hfz38_1 := blk_frozen BK608.out 1; have hfz38_2 := blk_frozen BK608.out 2; have hnb39 := NB602_0.out; have hnc39 := NB0_602.out; have hcz40_0 : w37.cell? ⟨gb602, 0, none⟩ = some (.string (⟨#[]⟩ : ByteArray)) := (blk_cell BK602.out 0).trans rfl; have hcz40_1 : w37.cell? ⟨gb602, 1, none⟩ = some (.string (⟨#[]⟩ : ByteArray)) := (blk_cell BK602.out 1).trans rfl; have hcz40_2 : w37.cell? ⟨gb602, 2, none⟩ = some (.int .i64 0) := (blk_cell BK602.out 2).trans rfl; have hfz40_0 := blk_frozen BK602.out 0; have hfz40_1 := blk_frozen BK602.out 1; have hfz40_2 := blk_frozen BK602.out 2))
          refine bodyPost_ret (results_cell_row rfl _ _ gb602 42 #[.string (t603 ++ t604), .string t604, .int .i64 t605] (0, 0) _ rfl (by (with_reducible repeat (first | refine blk_drewN ?_ _ | refine blk_drew ?_ | refine blk_alloc ?_ _)); refine blk_put (cs := #[.string (t603 ++ t604), .string t604, .int .i64 0]) ?_ 2 _ rfl; (with_reducible repeat (first | refine blk_drewN ?_ _ | refine blk_drew ?_ | refine blk_alloc ?_ _)); refine blk_put (cs := #[.string (t603 ++ t604), .string (⟨#[]⟩ : ByteArray), .int .i64 0]) ?_ 1 _ rfl; (with_reducible repeat (first | refine blk_drewN ?_ _ | refine blk_drew ?_ | refine blk_alloc ?_ _)); refine blk_put (cs := #[.string (⟨#[]⟩ : ByteArray), .string (⟨#[]⟩ : ByteArray), .int .i64 0]) ?_ 0 _ rfl; (with_reducible repeat (first | refine blk_drewN ?_ _ | refine blk_drew ?_ | refine blk_alloc ?_ _)); refine blk_far ?_ NB602_608.out _; (with_reducible repeat (first | refine blk_drewN ?_ _ | refine blk_drew ?_ | refine blk_alloc ?_ _)); exact BK602.out) Tryd.underlying42 rfl (by kernel_rfl)) rfl ?_
          exact ⟨z37_17, z37_9, z37_10, z37_5⟩
        · rw [if_neg c30] at H
          exact absurd H (by simp)
      · rw [if_neg c29] at H
        have c29b0 : (t609 == 2) = false := beq_eq_false_iff_ne.mpr c29
        have c29b1 : (t609 != 2) = true := bne_iff_ne.mpr c29
        simp only [Option.some.injEq, Prod.mk.injEq] at H
        obtain ⟨rfl, rfl, rfl, rfl, rfl⟩ := H
        go_enter Tryd.func87, Tryd.ntmps87
        go_wp2_with (first | ((with_reducible refine gate_dst (N := 2) rfl ?_); refine box_event ?hg (N := 2) ?hd (cs := #[.string (⟨#[]⟩ : ByteArray), .string (⟨#[]⟩ : ByteArray), .int .i64 0]) (t := 42) ?hr ?_; (case hd => rfl); (case hg => rfl); (case hr => first | (go_simp; done) | (go_simp; rfl)); intro gb602 hg w41 hbox hb; have n0_ := Aside0.mk (IsS83.below z37_3 hb); have n1_ := Aside0.mk (KeepBut.trans z37_6 (KeepBut.of_below hb g none) (.inl rfl)); have n2_ := Aside0.mk (below_step z37_12 hb); have n3_ := Aside0.mk (hbox); have n4_ := Aside0.mk ((z37_15 : w.heap.size ≤ gb602)); have n5_ := Aside0.mk ((Nat.le_trans HW0.out (z37_15 : w.heap.size ≤ gb602) : w0.heap.size ≤ gb602)); have n6_ := Aside0.mk ((z37_20 : g ≠ gb602)); have n7_ := Aside0.mk ((z37_21 : gb602 ≠ g)); clear HI0; clear HK; clear HB; have HI0 := n0_; have HK := n1_; have HB := n2_; have BK602 := n3_; have GW602 := n4_; have GE602 := n5_; have NB0_602 := n6_; have NB602_0 := n7_; clear n0_ n1_ n2_ n3_ n4_ n5_ n6_ n7_; clear hb hbox hg) | ((with_reducible refine gate_callee (f := 90) rfl ?_); refine goesL_ (some 5) rfl rfl Tryd.func90 (by kernel_rfl) rfl #[.pointer (some ⟨g, 0, none⟩)] rfl z37_8 ?_; (with_reducible refine (spec_l1Cur_log12.calls k g s0_0 s0_1 s0_2 t603 t604 t605 t606 t607 w0 _ ?side1 ?side2 A2.out).mono ?_); (case side1 => repeat (first | (with_reducible first | exact HI0.out | apply IsS83.alloc | apply IsS83.drewN | apply IsS83.drew | apply IsS83.set_1 | apply IsS83.set_2 | refine IsS83.far ?_ NB0_602.out _) | exact HI0.out)); (case side2 => repeat (first | (with_reducible first | exact HB.out | apply below_alloc | apply pw_below_drewN | apply below_drew1 | refine below_set ?_ (IsS83.ge HI0.out) | refine below_set ?_ GE602.out) | exact HB.out)); rintro e w42 ⟨rfl, hi, hb, hk⟩; refine ⟨_, rfl, ?_⟩; have n0_ := Aside0.mk (KeepBut.blk hk (g' := gb602) (o := .cells #[.string (⟨#[]⟩ : ByteArray), .string (⟨#[]⟩ : ByteArray), .int .i64 0] 42 (0, 0)) z37_4 NB602_0.out (by simp)); have n1_ := Aside0.mk (KeepBut.trans z37_0 hk (.inl rfl)); have n2_ := Aside0.mk (hb); have n3_ := Aside0.mk (hi); clear BK602; clear HK; clear HB; clear HI0; have BK602 := n0_; have HK := n1_; have HB := n2_; have HI0 := n3_; clear n0_ n1_ n2_ n3_; (try clear hb); (try clear hb2); (try clear hk); (try clear hi)) | ((with_reducible refine gate_dst (N := 3) rfl ?_); refine box_event ?hg (N := 3) ?hd (cs := #[.string (⟨#[]⟩ : ByteArray), .string (⟨#[]⟩ : ByteArray), .int .i64 0]) (t := 42) ?hr ?_; (case hd => rfl); (case hg => rfl); (case hr => first | (go_simp; done) | (go_simp; rfl)); intro gb608 hg w43 hbox hb; have n0_ := Aside0.mk (IsS83.below z37_1 hb); have n1_ := Aside0.mk (blk_below (g := gb602) (o := .cells #[.string (⟨#[]⟩ : ByteArray), .string (⟨#[]⟩ : ByteArray), .int .i64 0] 42 (0, 0)) z37_4 hb); have n2_ := Aside0.mk (KeepBut.trans z37_0 (KeepBut.of_below hb g none) (.inl rfl)); have n3_ := Aside0.mk (below_step z37_11 hb); have n4_ := Aside0.mk (hbox); have n5_ := Aside0.mk ((z37_16 : w.heap.size ≤ gb608)); have n6_ := Aside0.mk ((Nat.le_trans HW0.out (z37_16 : w.heap.size ≤ gb608) : w0.heap.size ≤ gb608)); have n7_ := Aside0.mk ((z37_13 : gb602 ≠ gb608)); have n8_ := Aside0.mk ((z37_14 : gb608 ≠ gb602)); have n9_ := Aside0.mk ((z37_22 : g ≠ gb608)); have n10_ := Aside0.mk ((z37_23 : gb608 ≠ g)); clear HI0; clear BK602; clear HK; clear HB; have HI0 := n0_; have BK602 := n1_; have HK := n2_; have HB := n3_; have BK608 := n4_; have GW608 := n5_; have GE608 := n6_; have NB602_608 := n7_; have NB608_602 := n8_; have NB0_608 := n9_; have NB608_0 := n10_; clear n0_ n1_ n2_ n3_ n4_ n5_ n6_ n7_ n8_ n9_ n10_; clear hb hbox hg; have hnb44 := NB608_602.out; have hnc44 := NB602_608.out; have hnb45 := NB608_0.out; have hnc45 := NB0_608.out; have hcz46_0 : w43.cell? ⟨gb608, 0, none⟩ = some (.string (⟨#[]⟩ : ByteArray)) := (blk_cell BK608.out 0).trans rfl; have hcz46_1 : w43.cell? ⟨gb608, 1, none⟩ = some (.string (⟨#[]⟩ : ByteArray)) := (blk_cell BK608.out 1).trans rfl; have hcz46_2 : w43.cell? ⟨gb608, 2, none⟩ = some (.int .i64 0) := (blk_cell BK608.out 2).trans rfl; have hfz46_0 := blk_frozen BK608.out 0; have hfz46_1 := blk_frozen BK608.out 1; have hfz46_2 := blk_frozen BK608.out 2) | ((with_reducible refine gate_callee (f := 69) rfl ?_); refine goesL_ (some 7) rfl rfl Tryd.func69 (by kernel_rfl) rfl #[.pointer (some ⟨g, 0, none⟩), .int .i64 24] rfl z37_8 ?_; (with_reducible refine (spec_l1Cur_pick.calls g s0_0 t606 t607 24 t609 t610 t611 w0 _ ?side1 ?side2 A3.out).mono ?_); (case side1 => repeat (first | (with_reducible first | exact HI0.out | apply IsS83.alloc | apply IsS83.drewN | apply IsS83.drew | apply IsS83.set_1 | apply IsS83.set_2 | refine IsS83.far ?_ NB0_602.out _ | refine IsS83.far ?_ NB0_608.out _) | exact HI0.out)); (case side2 => repeat (first | (with_reducible first | exact HB.out | apply below_alloc | apply pw_below_drewN | apply below_drew1 | refine below_set ?_ (IsS83.ge HI0.out) | refine below_set ?_ GE602.out | refine below_set ?_ GE608.out) | exact HB.out)); rintro e w47 ⟨rfl, hi, hb, hk⟩; refine ⟨_, rfl, ?_⟩; have n0_ := Aside0.mk (KeepBut.blk hk (g' := gb602) (o := .cells #[.string (⟨#[]⟩ : ByteArray), .string (⟨#[]⟩ : ByteArray), .int .i64 0] 42 (0, 0)) z37_7 NB602_0.out (by simp)); have n1_ := Aside0.mk (KeepBut.blk hk (g' := gb608) (o := .cells #[.string t603, .string t604, .int .i64 t605] 42 (0, 0)) z37_2 NB608_0.out (by simp)); have n2_ := Aside0.mk (KeepBut.trans z37_5 hk (.inl rfl)); have n3_ := Aside0.mk (hb); have n4_ := Aside0.mk (hi); clear BK602; clear BK608; clear HK; clear HB; clear HI0; have BK602 := n0_; have BK608 := n1_; have HK := n2_; have HB := n3_; have HI0 := n4_; clear n0_ n1_ n2_ n3_ n4_; (try clear hb); (try clear hb2); (try clear hk); (try clear hi); have hcz48_0 : w47.cell? ⟨gb608, 0, none⟩ = some (.string t603) := (blk_cell BK608.out 0).trans rfl; have hcz48_1 : w47.cell? ⟨gb608, 1, none⟩ = some (.string t604) := (blk_cell BK608.out 1).trans rfl; have hcz48_2 : w47.cell? ⟨gb608, 2, none⟩ = some (.int .i64 t605) := (blk_cell BK608.out 2).trans rfl; have hfz48_0 := blk_frozen BK608.out 0; have hfz48_1 := blk_frozen BK608.out 1; have hfz48_2 := blk_frozen BK608.out 2; have hnb49 := NB602_0.out; have hnc49 := NB0_602.out; have hcz50_0 : w47.cell? ⟨gb602, 0, none⟩ = some (.string (⟨#[]⟩ : ByteArray)) := (blk_cell BK602.out 0).trans rfl; have hcz50_1 : w47.cell? ⟨gb602, 1, none⟩ = some (.string (⟨#[]⟩ : ByteArray)) := (blk_cell BK602.out 1).trans rfl; have hcz50_2 : w47.cell? ⟨gb602, 2, none⟩ = some (.int .i64 0) := (blk_cell BK602.out 2).trans rfl; have hfz50_0 := blk_frozen BK602.out 0; have hfz50_1 := blk_frozen BK602.out 1; have hfz50_2 := blk_frozen BK602.out 2))
        refine bodyPost_ret (results_cell_row rfl _ _ gb602 42 #[.string t603, .string t604, .int .i64 t605] (0, 0) _ rfl (by (with_reducible repeat (first | refine blk_drewN ?_ _ | refine blk_drew ?_ | refine blk_alloc ?_ _)); refine blk_put (cs := #[.string t603, .string t604, .int .i64 0]) ?_ 2 _ rfl; (with_reducible repeat (first | refine blk_drewN ?_ _ | refine blk_drew ?_ | refine blk_alloc ?_ _)); refine blk_put (cs := #[.string t603, .string (⟨#[]⟩ : ByteArray), .int .i64 0]) ?_ 1 _ rfl; (with_reducible repeat (first | refine blk_drewN ?_ _ | refine blk_drew ?_ | refine blk_alloc ?_ _)); refine blk_put (cs := #[.string (⟨#[]⟩ : ByteArray), .string (⟨#[]⟩ : ByteArray), .int .i64 0]) ?_ 0 _ rfl; (with_reducible repeat (first | refine blk_drewN ?_ _ | refine blk_drew ?_ | refine blk_alloc ?_ _)); exact BK602.out) Tryd.underlying42 rfl (by kernel_rfl)) rfl ?_
        exact ⟨z37_17, z37_9, z37_10, z37_5⟩
def spec_DrawIsValidLog.f (k : Nat) (l0 : List Int) : Option (ByteArray × ByteArray × Int) := (spec_l1Cur_anyLog.f k l0 0 0).bind fun bt617 => (some (bt617.1, bt617.2.1, bt617.2.2.1))
theorem spec_DrawIsValidLog.mono : ∀ a0 k, LeO (spec_DrawIsValidLog.f k a0) (spec_DrawIsValidLog.f (k + 1) a0) := by
  intro a0 k
  unfold spec_DrawIsValidLog.f
  repeat' first
      | (with_reducible exact spec_l1Cur_anyLog.mono _ _ _ _)
      | (with_reducible exact LeO.refl _)
      | (with_reducible exact LeO.none _)
      | (with_reducible refine LeO.ite ?_ ?_)
      | (with_reducible refine LeO.bind ?_ (fun _ => ?_))
      | exact spec_l1Cur_anyLog.mono _ _ _ _
      | exact LeO.none _
      | refine LeO.ite ?_ ?_
      | refine LeO.bind ?_ (fun _ => ?_)
set_option maxHeartbeats 8000000 in
set_option maxRecDepth 100000 in
theorem spec_DrawIsValidLog.calls (k : Nat) (A0 : Option Addr) (c0 : Nat) (l0 : List Int) (r1 : ByteArray) (r2 : ByteArray) (r3 : Int) (w : World) (hr0 : Kd.C (Kd.int .u8) w A0 l0.length l0) (hc0 : l0.length ≤ c0) (h : spec_DrawIsValidLog.f k l0 = some (r1, r2, r3)) :
    Calls Tryd.prog 48 #[.slice A0 l0.length c0] w fun e w' => e = .returned (.agg #[.string r1, .string r2, .int .i64 r3]) ∧ Below w.heap.size w w' := by
  have hu42 := Tryd.underlying42
  have hu83 := Tryd.underlying83
  have HR0 := Aside0.mk hr0
  have HC0 := Aside0.mk hc0
  clear hr0 hc0
  have HB := Aside0.mk (Below.refl w.heap.size w)
  have H : ((spec_l1Cur_anyLog.f k l0 0 0).bind fun bt617 => (some (bt617.1, bt617.2.1, bt617.2.2.1))) = some (r1, r2, r3) := h
  clear h
  replace H := Option.bind_eq_some_iff.mp H
  obtain ⟨⟨t617, t618, t619, t620, t621⟩, A20, H⟩ := H
  replace H : (some (t617, t618, t619)) = some (r1, r2, r3) := H
  have A2 := Aside0.mk A20
  clear A20
  simp only [Option.some.injEq, Prod.mk.injEq] at H
  obtain ⟨rfl, rfl, rfl⟩ := H
  go_enter Tryd.func48, Tryd.ntmps48
  go_wp2_with (first | ((with_reducible refine gate_dst (N := 2) rfl ?_); refine box_event ?hg (N := 2) ?hd (cs := #[.string (⟨#[]⟩ : ByteArray), .string (⟨#[]⟩ : ByteArray), .int .i64 0]) (t := 42) ?hr ?_; (case hd => rfl); (case hg => rfl); (case hr => first | (go_simp; done) | (go_simp; rfl)); intro gb615 hg w3 hbox hb; have n0_ := Aside0.mk (below_step z37_19 hb); have n1_ := Aside0.mk (hbox); have n2_ := Aside0.mk ((by rw [hg]; exact (below_size z37_19) : w.heap.size ≤ gb615)); have n3_ := Aside0.mk ((by rw [hg]; exact (below_size z37_19) : w.heap.size ≤ gb615)); clear HB; have HB := n0_; have BK615 := n1_; have GW615 := n2_; have GE615 := n3_; clear n0_ n1_ n2_ n3_; clear hb hbox hg) | ((with_reducible refine gate_dst (N := 6) rfl ?_); refine box_event ?hg (N := 6) ?hd (cs := #[.slice A0 l0.length c0, .int .i64 0, .int .u64 0]) (t := 83) ?hr ?_; (case hd => rfl); (case hg => rfl); (case hr => first | (go_simp; done) | (go_simp; rfl)); intro gb616 hg w4 hbox hb; have n0_ := Aside0.mk (blk_below (g := gb615) (o := .cells #[.string (⟨#[]⟩ : ByteArray), .string (⟨#[]⟩ : ByteArray), .int .i64 0] 42 (0, 0)) z37_18 hb); have n1_ := Aside0.mk (below_step (by repeat (first | (with_reducible first | exact HB.out | apply below_alloc | apply pw_below_drewN | apply below_drew1 | refine below_set ?_ GE615.out) | exact HB.out)) hb); have n2_ := Aside0.mk ((show IsS83 w w4 gb616 l0 0 0 from ⟨_, _, hbox, (by rw [hg]; exact (below_size (by repeat (first | (with_reducible first | exact HB.out | apply below_alloc | apply pw_below_drewN | apply below_drew1 | refine below_set ?_ GE615.out) | exact HB.out))) : w.heap.size ≤ gb616), HR0.out⟩)); have n3_ := Aside0.mk ((by rw [hg]; exact Nat.ne_of_gt (blk_lt (g := gb615) (o := .cells #[.string (⟨#[]⟩ : ByteArray), .string (⟨#[]⟩ : ByteArray), .int .i64 0] 42 (0, 0)) z37_18) : gb616 ≠ gb615)); have n4_ := Aside0.mk ((by rw [hg]; exact Nat.ne_of_lt (blk_lt (g := gb615) (o := .cells #[.string (⟨#[]⟩ : ByteArray), .string (⟨#[]⟩ : ByteArray), .int .i64 0] 42 (0, 0)) z37_18) : gb615 ≠ gb616)); clear BK615; clear HB; have BK615 := n0_; have HB := n1_; have HI616 := n2_; have NB616_615 := n3_; have NB615_616 := n4_; clear n0_ n1_ n2_ n3_ n4_; clear hb hbox hg) | ((with_reducible refine gate_callee (f := 87) rfl ?_); refine goesL_ (some 8) rfl rfl Tryd.func87 (by kernel_rfl) rfl #[.pointer (some ⟨gb616, 0, none⟩)] rfl z37_8 ?_; (with_reducible refine (spec_l1Cur_anyLog.calls k gb616 l0 0 0 t617 t618 t619 t620 t621 w _ ?side1 ?side2 A2.out).mono ?_); (case side1 => repeat (first | (with_reducible first | exact HI616.out | apply IsS83.alloc | apply IsS83.drewN | apply IsS83.drew | apply IsS83.set_1 | apply IsS83.set_2 | refine IsS83.far ?_ NB616_615.out _) | exact HI616.out)); (case side2 => repeat (first | (with_reducible first | exact HB.out | apply below_alloc | apply pw_below_drewN | apply below_drew1 | refine below_set ?_ (IsS83.ge HI616.out) | refine below_set ?_ GE615.out) | exact HB.out)); rintro e w5 ⟨rfl, hi, hb, hk⟩; refine ⟨_, rfl, ?_⟩; have n0_ := Aside0.mk (KeepBut.blk hk (g' := gb615) (o := .cells #[.string (⟨#[]⟩ : ByteArray), .string (⟨#[]⟩ : ByteArray), .int .i64 0] 42 (0, 0)) z37_18 NB615_616.out (by simp)); have n1_ := Aside0.mk (hb); have n2_ := Aside0.mk (hi); clear BK615; clear HB; clear HI616; have BK615 := n0_; have HB := n1_; have HI616 := n2_; clear n0_ n1_ n2_; (try clear hb); (try clear hb2); (try clear hk); (try clear hi); have hnb6 := NB615_616.out; have hnc6 := NB616_615.out; have hcz7_0 : w5.cell? ⟨gb615, 0, none⟩ = some (.string (⟨#[]⟩ : ByteArray)) := (blk_cell BK615.out 0).trans rfl; have hcz7_1 : w5.cell? ⟨gb615, 1, none⟩ = some (.string (⟨#[]⟩ : ByteArray)) := (blk_cell BK615.out 1).trans rfl; have hcz7_2 : w5.cell? ⟨gb615, 2, none⟩ = some (.int .i64 0) := (blk_cell BK615.out 2).trans rfl; have hfz7_0 := blk_frozen BK615.out 0; have hfz7_1 := blk_frozen BK615.out 1; have hfz7_2 := blk_frozen BK615.out 2))
  refine bodyPost_ret (results_cell_row rfl _ _ gb615 42 #[.string t617, .string t618, .int .i64 t619] (0, 0) _ rfl (by (with_reducible repeat (first | refine blk_drewN ?_ _ | refine blk_drew ?_ | refine blk_alloc ?_ _)); refine blk_put (cs := #[.string t617, .string t618, .int .i64 0]) ?_ 2 _ rfl; (with_reducible repeat (first | refine blk_drewN ?_ _ | refine blk_drew ?_ | refine blk_alloc ?_ _)); refine blk_put (cs := #[.string t617, .string (⟨#[]⟩ : ByteArray), .int .i64 0]) ?_ 1 _ rfl; (with_reducible repeat (first | refine blk_drewN ?_ _ | refine blk_drew ?_ | refine blk_alloc ?_ _)); refine blk_put (cs := #[.string (⟨#[]⟩ : ByteArray), .string (⟨#[]⟩ : ByteArray), .int .i64 0]) ?_ 0 _ rfl; (with_reducible repeat (first | refine blk_drewN ?_ _ | refine blk_drew ?_ | refine blk_alloc ?_ _)); exact BK615.out) Tryd.underlying42 rfl (by kernel_rfl)) rfl ?_
  exact ⟨z37_17, by repeat (first | (with_reducible first | exact HB.out | apply below_alloc | apply pw_below_drewN | apply below_drew1 | refine below_set ?_ (IsS83.ge HI616.out) | refine below_set ?_ GE615.out) | exact HB.out)⟩
end Go.Proofs.YtgclcjohnnpejaaDoor.Pr
end

section
namespace Go.Proofs.YtgclcjohnnpejaaDoor.Pr
open Go.RowKit Go.Proofs.YtgclcjohnnpejaaDoorW.PrintWords Go.Proofs.YtgclcjohnnpejaaDoorW.PrintLast Go.Proofs.YtgclcjohnnpejaaDoorW.PrintMore
attribute [local go_sem] max2_int min2_int max_two min_two max_three min_three max_four min_four
set_option linter.unusedVariables false
set_option linter.unusedSimpArgs false
attribute [local go_sem high] eqA38
theorem z39_0 {P : Prop} (h : P := by (with_reducible repeat (first | refine blk_drewN ?_ _ | refine blk_drew ?_ | refine blk_alloc ?_ _)); exact BK734.out) : P := h
theorem z39_1 {P : Prop} (h : P := by repeat (first | (with_reducible first | exact HB.out | apply below_alloc | apply pw_below_drewN | apply below_drew1) | exact HB.out)) : P := h
theorem z39_2 {P : Prop} (h : P := by repeat (first | (with_reducible first | exact HI735.out | apply IsS83.alloc | apply IsS83.drewN | apply IsS83.drew | apply IsS83.set_1 | apply IsS83.set_2 | refine IsS83.far ?_ NB735_734.out _) | exact HI735.out)) : P := h
theorem z39_3 {P : Prop} (h : P := by (try simp only [List.map_toArray, List.map_cons, List.map_nil]); first | done | rfl | (simp only [List.length_drop, List.length_take]; rfl)) : P := h
theorem z39_4 {P : Prop} (h : P := by repeat (first | (with_reducible first | exact HB.out | apply below_alloc | apply pw_below_drewN | apply below_drew1 | refine below_set ?_ (IsS83.ge HI735.out) | refine below_set ?_ GE734.out) | exact HB.out)) : P := h
theorem z39_5 {P : Prop} (h : P := by first | (with_reducible assumption) | assumption) : P := h
theorem z39_6 {P : Prop} (h : P := by repeat (first | exact Drawn0.refl _ | apply Drawn0.step)) : P := h
def spec_IsValidRecord.f (k : Nat) (a0_0 : ByteArray) (a0_1 : ByteArray) : Option (Bool) := (spec_l12Record.f k a0_0 a0_1).bind fun t650 => (some t650)
theorem spec_IsValidRecord.mono : ∀ a0 a1 k, LeO (spec_IsValidRecord.f k a0 a1) (spec_IsValidRecord.f (k + 1) a0 a1) := by
  intro a0 a1 k
  unfold spec_IsValidRecord.f
  repeat' first
      | (with_reducible exact spec_l12Record.mono _ _ _)
      | (with_reducible exact LeO.refl _)
      | (with_reducible exact LeO.none _)
      | (with_reducible refine LeO.ite ?_ ?_)
      | (with_reducible refine LeO.bind ?_ (fun _ => ?_))
      | exact spec_l12Record.mono _ _ _
      | exact LeO.none _
      | refine LeO.ite ?_ ?_
      | refine LeO.bind ?_ (fun _ => ?_)
set_option maxHeartbeats 8000000 in
set_option maxRecDepth 100000 in
theorem spec_IsValidRecord.calls (k : Nat) (a0_0 : ByteArray) (a0_1 : ByteArray) (r : Bool) (w : World) (h : spec_IsValidRecord.f k a0_0 a0_1 = some r) :
    Calls Tryd.prog 51 #[.agg #[.string a0_0, .string a0_1]] w fun e w' => e = .returned (.bool r) ∧ Below w.heap.size w w' := by
  have hu38 := Tryd.underlying38
  have HB := Aside0.mk (Below.refl w.heap.size w)
  have H : ((spec_l12Record.f k a0_0 a0_1).bind fun t650 => (some t650)) = some r := h
  clear h
  replace H := Option.bind_eq_some_iff.mp H
  obtain ⟨t650, A20, H⟩ := H
  replace H : (some t650) = some r := H
  have A2 := Aside0.mk A20
  clear A20
  obtain rfl := Option.some.inj H
  go_enter Tryd.func51, Tryd.ntmps51
  go_wp2_with (first | ((with_reducible refine gate_dst (N := 1) rfl ?_); refine box_event ?hg (N := 1) ?hd (cs := #[.string a0_0, .string a0_1]) (t := 38) ?hr ?_; (case hd => rfl); (case hg => rfl); (case hr => first | (go_simp; done) | (go_simp; rfl)); intro gb649 hg w3 hbox hb; have n0_ := Aside0.mk (below_step z39_1 hb); have n1_ := Aside0.mk (hbox); have n2_ := Aside0.mk ((by rw [hg]; exact (below_size z39_1) : w.heap.size ≤ gb649)); have n3_ := Aside0.mk ((by rw [hg]; exact (below_size z39_1) : w.heap.size ≤ gb649)); clear HB; have HB := n0_; have BK649 := n1_; have GW649 := n2_; have GE649 := n3_; clear n0_ n1_ n2_ n3_; clear hb hbox hg; have hcz4_0 : w3.cell? ⟨gb649, 0, none⟩ = some (.string a0_0) := (blk_cell BK649.out 0).trans rfl; have hcz4_1 : w3.cell? ⟨gb649, 1, none⟩ = some (.string a0_1) := (blk_cell BK649.out 1).trans rfl; have hfz4_0 := blk_frozen BK649.out 0; have hfz4_1 := blk_frozen BK649.out 1) | ((with_reducible refine gate_callee (f := 75) rfl ?_); refine goesL_ (some 4) rfl rfl Tryd.func75 (by kernel_rfl) rfl #[.agg #[.string a0_0, .string a0_1]] rfl z39_3 ?_; (with_reducible refine (spec_l12Record.calls k a0_0 a0_1 t650 _ A2.out).mono ?_); rintro e w5 ⟨rfl, hb⟩; refine ⟨_, rfl, ?_⟩; have n0_ := Aside0.mk (blk_below (g := gb649) (o := .cells #[.string a0_0, .string a0_1] 38 (0, 0)) (by (with_reducible repeat (first | refine blk_drewN ?_ _ | refine blk_drew ?_ | refine blk_alloc ?_ _)); exact BK649.out) hb); have n1_ := Aside0.mk (below_step (by repeat (first | (with_reducible first | exact HB.out | apply below_alloc | apply pw_below_drewN | apply below_drew1 | refine below_set ?_ GE649.out) | exact HB.out)) hb); clear BK649; clear HB; have BK649 := n0_; have HB := n1_; clear n0_ n1_; (try clear hb); (try clear hb2); (try clear hk); (try clear hi)))
  go_ret
  exact ⟨by first | rfl | (simp [errW_none, errW_some] <;> rfl) | (simp [*, errW_none, errW_some] <;> rfl), by repeat (first | (with_reducible first | exact HB.out | apply below_alloc | apply pw_below_drewN | apply below_drew1 | refine below_set ?_ GE649.out) | exact HB.out)⟩
def laws_vRecords.l0 : Nat → List (S38) → List (S38) → Int → Option (Bool)
  | 0, _, _, _ => none
  | k + 1, x0, x1, x5 => if x5 < (x0.length : Int) then (if 0 ≤ x5 then (if x5 < (x1.length : Int) then (if (!((((rd_T38 x0 x5).f0).toList) == (((rd_T38 x1 x5).f0).toList)) || (!((((rd_T38 x0 x5).f1).toList) == (((rd_T38 x1 x5).f1).toList)))) = true then (some false) else (laws_vRecords.l0 k x0 x1 (wrap64 (x5 + 1)))) else (none)) else (none)) else (some true)
def laws_vRecords.f (k : Nat) (l0 : List (S38)) (l1 : List (S38)) : Option (Bool) := if (l0.length : Int) = (l1.length : Int) then (laws_vRecords.l0 k l0 l1 0) else (some false)
theorem laws_vRecords.mono_l : ∀ k, (∀ y0 y1 y2, LeO (laws_vRecords.l0 k y0 y1 y2) (laws_vRecords.l0 (k + 1) y0 y1 y2))
  | 0 => fun _ _ _ r h => by simp [laws_vRecords.l0] at h
  | k + 1 => by
    have ih0 := laws_vRecords.mono_l k
    · intro y0 y1 y2
      unfold laws_vRecords.l0
      repeat' first
      | (with_reducible exact ih0 _ _ _)
      | (with_reducible exact LeO.refl _)
      | (with_reducible exact LeO.none _)
      | (with_reducible refine LeO.ite ?_ ?_)
      | (with_reducible refine LeO.bind ?_ (fun _ => ?_))
      | exact ih0 _ _ _
      | exact LeO.none _
      | refine LeO.ite ?_ ?_
      | refine LeO.bind ?_ (fun _ => ?_)
theorem laws_vRecords.mono : ∀ a0 a1 k, LeO (laws_vRecords.f k a0 a1) (laws_vRecords.f (k + 1) a0 a1) := by
  intro a0 a1 k
  have ih0 := laws_vRecords.mono_l k
  unfold laws_vRecords.f
  repeat' first
      | (with_reducible exact ih0 _ _ _)
      | (with_reducible exact LeO.refl _)
      | (with_reducible exact LeO.none _)
      | (with_reducible refine LeO.ite ?_ ?_)
      | (with_reducible refine LeO.bind ?_ (fun _ => ?_))
      | exact ih0 _ _ _
      | exact LeO.none _
      | refine LeO.ite ?_ ?_
      | refine LeO.bind ?_ (fun _ => ?_)
set_option maxHeartbeats 8000000 in
set_option maxRecDepth 100000 in
theorem laws_vRecords.calls (k : Nat) (A0 : Option Addr) (c0 : Nat) (l0 : List (S38)) (A1 : Option Addr) (c1 : Nat) (l1 : List (S38)) (r : Bool) (w : World) (hr0 : Kd.C k38 w A0 l0.length l0) (hc0 : l0.length ≤ c0) (hr1 : Kd.C k38 w A1 l1.length l1) (hc1 : l1.length ≤ c1) (h : laws_vRecords.f k l0 l1 = some r) :
    Calls Tryd.prog 52 #[.slice A0 l0.length c0, .slice A1 l1.length c1] w fun e w' => e = .returned (.bool r) ∧ Drawn0 w w' := by
  have hu38 := Tryd.underlying38
  have HR0 := Aside0.mk hr0
  have HC0 := Aside0.mk hc0
  clear hr0 hc0
  have HR1 := Aside0.mk hr1
  have HC1 := Aside0.mk hc1
  clear hr1 hc1
  have H : (if (l0.length : Int) = (l1.length : Int) then (laws_vRecords.l0 k l0 l1 0) else (some false)) = some r := h
  clear h
  by_cases c3 : (l0.length : Int) = (l1.length : Int)
  · rw [if_pos c3] at H
    have c3b0 : ((l0.length : Int) == (l1.length : Int)) = true := beq_iff_eq.mpr c3
    have c3b1 : ((l0.length : Int) != (l1.length : Int)) = false := bne_eq_false_iff_eq.mpr c3
    have c3b2 : (l0.length == l1.length) = true := by first | simpa using c3 | (simp at c3 ⊢; omega)
    clear c3
    have H' := Aside0.mk H
    clear H
    go_enter Tryd.func52, Tryd.ntmps52
    go_wp2
    repeat (go_quiet (fail); try go_wp2)
    go_loopg [5] k (fun kq v5 w' => ∃ (x5_1 : Int), v5 = .int .i64 x5_1 ∧ Aside0 (laws_vRecords.l0 kq l0 l1 x5_1 = some r) ∧ Aside0 (kq ≤ k) ∧ Drawn0 w w')
    case atStart => exact ⟨(0), (by first | rfl | (simp; done) | (simp [*]; done)), H', ⟨Nat.le_refl _⟩, z39_6⟩
    case round =>
      clear H'
      try clear c1
      try clear p2
      try clear c3
      try clear c3b0
      try clear c3b1
      try clear c3b2
      obtain ⟨x5_1, rfl, HA, HK1, ⟨m1, rfl⟩⟩ := hrel
      cases gk with
      | zero => exact absurd HA.out (by simp [laws_vRecords.l0])
      | succ k1 =>
        have H := HA.out
        clear HA
        simp only [laws_vRecords.l0] at H
        by_cases c4 : x5_1 < (l0.length : Int)
        · rw [if_pos c4] at H
          have c4b0 : decide (x5_1 < (l0.length : Int)) = true := decide_eq_true c4
          clear c4
          by_cases c5 : 0 ≤ x5_1
          · rw [if_pos c5] at H
            have c5b0 : decide (0 ≤ x5_1) = true := decide_eq_true c5
            clear c5
            by_cases c6 : x5_1 < (l1.length : Int)
            · rw [if_pos c6] at H
              have c6b0 : decide (x5_1 < (l1.length : Int)) = true := decide_eq_true c6
              clear c6
              by_cases c7 : (!((((rd_T38 l0 x5_1).f0).toList) == (((rd_T38 l1 x5_1).f0).toList)) || (!((((rd_T38 l0 x5_1).f1).toList) == (((rd_T38 l1 x5_1).f1).toList)))) = true
              · rw [if_pos c7] at H
                have c7b0 : (!((((rd_T38 l0 x5_1).f0).toList) == (((rd_T38 l1 x5_1).f0).toList)) || (!((((rd_T38 l0 x5_1).f1).toList) == (((rd_T38 l1 x5_1).f1).toList)))) = true := c7
                clear c7
                obtain rfl := Option.some.inj H
                have p651 : 0 ≤ (x5_1 : Int) := of_decide_eq_true z39_5
                have q651 : x5_1 < (l0.length : Int) := of_decide_eq_true z39_5
                obtain ⟨ad651, e651, hx651_0, hx651_1⟩ := at_T38 HR0.out x5_1 p651 q651
                cases e651
                replace p651 := eq_true p651
                replace q651 := eq_true q651
                have p652 : 0 ≤ (x5_1 : Int) := of_decide_eq_true z39_5
                have q652 : x5_1 < (l1.length : Int) := of_decide_eq_true z39_5
                obtain ⟨ad652, e652, hx652_0, hx652_1⟩ := at_T38 HR1.out x5_1 p652 q652
                cases e652
                replace p652 := eq_true p652
                replace q652 := eq_true q652
                go_wp2
                repeat (go_quiet (fail); try go_wp2)
                go_ret
                exact ⟨by first | rfl | (simp; done) | (simp [*]; done), z39_6⟩
              · rw [if_neg c7] at H
                have c7b0 : (!((((rd_T38 l0 x5_1).f0).toList) == (((rd_T38 l1 x5_1).f0).toList)) || (!((((rd_T38 l0 x5_1).f1).toList) == (((rd_T38 l1 x5_1).f1).toList)))) = false := by simpa using c7
                clear c7
                have H' := Aside0.mk H
                clear H
                have p651 : 0 ≤ (x5_1 : Int) := of_decide_eq_true z39_5
                have q651 : x5_1 < (l0.length : Int) := of_decide_eq_true z39_5
                obtain ⟨ad651, e651, hx651_0, hx651_1⟩ := at_T38 HR0.out x5_1 p651 q651
                cases e651
                replace p651 := eq_true p651
                replace q651 := eq_true q651
                have p652 : 0 ≤ (x5_1 : Int) := of_decide_eq_true z39_5
                have q652 : x5_1 < (l1.length : Int) := of_decide_eq_true z39_5
                obtain ⟨ad652, e652, hx652_0, hx652_1⟩ := at_T38 HR1.out x5_1 p652 q652
                cases e652
                replace p652 := eq_true p652
                replace q652 := eq_true q652
                go_wp2
                repeat (go_quiet (fail); try go_wp2)
                go_roundg k1
                case measure => have := HK1.out; omega
                case rel => exact ⟨(wrap64 (x5_1 + 1)), (by first | rfl | (simp; done) | (simp [*]; done)), H', ⟨by have := HK1.out; omega⟩, z39_6⟩
            · rw [if_neg c6] at H
              exact absurd H (by simp)
          · rw [if_neg c5] at H
            exact absurd H (by simp)
        · rw [if_neg c4] at H
          have c4b0 : decide (x5_1 < (l0.length : Int)) = false := decide_eq_false c4
          clear c4
          obtain rfl := Option.some.inj H
          go_wp2
          repeat (go_quiet (fail); try go_wp2)
          go_ret
          exact ⟨by first | rfl | (simp; done) | (simp [*]; done), z39_6⟩
  · rw [if_neg c3] at H
    have c3b0 : ((l0.length : Int) == (l1.length : Int)) = false := beq_eq_false_iff_ne.mpr c3
    have c3b1 : ((l0.length : Int) != (l1.length : Int)) = true := bne_iff_ne.mpr c3
    have c3b2 : (l0.length == l1.length) = false := by first | simpa using c3 | (simp at c3 ⊢; omega)
    obtain rfl := Option.some.inj H
    go_enter Tryd.func52, Tryd.ntmps52
    go_wp2
    repeat (go_quiet (fail); try go_wp2)
    go_ret
    exact ⟨by first | rfl | (simp; done) | (simp [*]; done), z39_6⟩
def spec_DrawCrashLog.f (k : Nat) (l0 : List Int) : Option (ByteArray × ByteArray × Int × Int × Bool) := (spec_l1Cur_anyLog.f k l0 0 0).bind fun bt736 => ((spec_l1Cur_pick.f l0 bt736.2.2.2.1 bt736.2.2.2.2 (wrap64 ((bt736.2.1.size : Int) + 3))).bind fun bt742 => ((spec_l1Cur_one.f l0 bt742.2.1 bt742.2.2 2).bind fun bt745 => (some (bt736.1, bt736.2.1, bt736.2.2.1, wrap64 (bt742.1 - 1), bt745.1))))
theorem spec_DrawCrashLog.mono : ∀ a0 k, LeO (spec_DrawCrashLog.f k a0) (spec_DrawCrashLog.f (k + 1) a0) := by
  intro a0 k
  unfold spec_DrawCrashLog.f
  repeat' first
      | (with_reducible exact spec_l1Cur_anyLog.mono _ _ _ _)
      | (with_reducible exact LeO.refl _)
      | (with_reducible exact LeO.none _)
      | (with_reducible refine LeO.ite ?_ ?_)
      | (with_reducible refine LeO.bind ?_ (fun _ => ?_))
      | exact spec_l1Cur_anyLog.mono _ _ _ _
      | exact LeO.none _
      | refine LeO.ite ?_ ?_
      | refine LeO.bind ?_ (fun _ => ?_)
set_option maxHeartbeats 8000000 in
set_option maxRecDepth 100000 in
theorem spec_DrawCrashLog.calls (k : Nat) (A0 : Option Addr) (c0 : Nat) (l0 : List Int) (r1 : ByteArray) (r2 : ByteArray) (r3 : Int) (r4 : Int) (r5 : Bool) (w : World) (hr0 : Kd.C (Kd.int .u8) w A0 l0.length l0) (hc0 : l0.length ≤ c0) (h : spec_DrawCrashLog.f k l0 = some (r1, r2, r3, r4, r5)) :
    Calls Tryd.prog 53 #[.slice A0 l0.length c0] w fun e w' => e = .returned (.tuple #[.agg #[.string r1, .string r2, .int .i64 r3], .int .i64 r4, .bool r5]) ∧ Below w.heap.size w w' := by
  have hu42 := Tryd.underlying42
  have hu83 := Tryd.underlying83
  have HR0 := Aside0.mk hr0
  have HC0 := Aside0.mk hc0
  clear hr0 hc0
  have HB := Aside0.mk (Below.refl w.heap.size w)
  have H : ((spec_l1Cur_anyLog.f k l0 0 0).bind fun bt736 => ((spec_l1Cur_pick.f l0 bt736.2.2.2.1 bt736.2.2.2.2 (wrap64 ((bt736.2.1.size : Int) + 3))).bind fun bt742 => ((spec_l1Cur_one.f l0 bt742.2.1 bt742.2.2 2).bind fun bt745 => (some (bt736.1, bt736.2.1, bt736.2.2.1, wrap64 (bt742.1 - 1), bt745.1))))) = some (r1, r2, r3, r4, r5) := h
  clear h
  replace H := Option.bind_eq_some_iff.mp H
  obtain ⟨⟨t736, t737, t738, t739, t740⟩, A20, H⟩ := H
  replace H : ((spec_l1Cur_pick.f l0 t739 t740 (wrap64 ((t737.size : Int) + 3))).bind fun bt742 => ((spec_l1Cur_one.f l0 bt742.2.1 bt742.2.2 2).bind fun bt745 => (some (t736, t737, t738, wrap64 (bt742.1 - 1), bt745.1)))) = some (r1, r2, r3, r4, r5) := H
  have A2 := Aside0.mk A20
  clear A20
  replace H := Option.bind_eq_some_iff.mp H
  obtain ⟨⟨t742, t743, t744⟩, A30, H⟩ := H
  replace H : ((spec_l1Cur_one.f l0 t743 t744 2).bind fun bt745 => (some (t736, t737, t738, wrap64 (t742 - 1), bt745.1))) = some (r1, r2, r3, r4, r5) := H
  have A3 := Aside0.mk A30
  clear A30
  replace H := Option.bind_eq_some_iff.mp H
  obtain ⟨⟨t745, t746, t747⟩, A40, H⟩ := H
  replace H : (some (t736, t737, t738, wrap64 (t742 - 1), t745)) = some (r1, r2, r3, r4, r5) := H
  have A4 := Aside0.mk A40
  clear A40
  simp only [Option.some.injEq, Prod.mk.injEq] at H
  obtain ⟨rfl, rfl, rfl, rfl, rfl⟩ := H
  go_enter Tryd.func53, Tryd.ntmps53
  try go_wp2_with (first | ((with_reducible refine gate_dst (N := 2) rfl ?_); refine box_event ?hg (N := 2) ?hd (cs := #[.string (⟨#[]⟩ : ByteArray), .string (⟨#[]⟩ : ByteArray), .int .i64 0]) (t := 42) ?hr ?_; (case hd => rfl); (case hg => rfl); (case hr => first | (go_simp; done) | (go_simp; rfl)); intro gb734 hg w5 hbox hb; have n0_ := Aside0.mk (below_step z39_1 hb); have n1_ := Aside0.mk (hbox); have n2_ := Aside0.mk ((by rw [hg]; exact (below_size z39_1) : w.heap.size ≤ gb734)); have n3_ := Aside0.mk ((by rw [hg]; exact (below_size z39_1) : w.heap.size ≤ gb734)); clear HB; have HB := n0_; have BK734 := n1_; have GW734 := n2_; have GE734 := n3_; clear n0_ n1_ n2_ n3_; clear hb hbox hg) | ((with_reducible refine gate_dst (N := 10) rfl ?_); refine box_event ?hg (N := 10) ?hd (cs := #[.slice A0 l0.length c0, .int .i64 0, .int .u64 0]) (t := 83) ?hr ?_; (case hd => rfl); (case hg => rfl); (case hr => first | (go_simp; done) | (go_simp; rfl)); intro gb735 hg w6 hbox hb; have n0_ := Aside0.mk (blk_below (g := gb734) (o := .cells #[.string (⟨#[]⟩ : ByteArray), .string (⟨#[]⟩ : ByteArray), .int .i64 0] 42 (0, 0)) z39_0 hb); have n1_ := Aside0.mk (below_step (by repeat (first | (with_reducible first | exact HB.out | apply below_alloc | apply pw_below_drewN | apply below_drew1 | refine below_set ?_ GE734.out) | exact HB.out)) hb); have n2_ := Aside0.mk ((show IsS83 w w6 gb735 l0 0 0 from ⟨_, _, hbox, (by rw [hg]; exact (below_size (by repeat (first | (with_reducible first | exact HB.out | apply below_alloc | apply pw_below_drewN | apply below_drew1 | refine below_set ?_ GE734.out) | exact HB.out))) : w.heap.size ≤ gb735), HR0.out⟩)); have n3_ := Aside0.mk ((by rw [hg]; exact Nat.ne_of_gt (blk_lt (g := gb734) (o := .cells #[.string (⟨#[]⟩ : ByteArray), .string (⟨#[]⟩ : ByteArray), .int .i64 0] 42 (0, 0)) z39_0) : gb735 ≠ gb734)); have n4_ := Aside0.mk ((by rw [hg]; exact Nat.ne_of_lt (blk_lt (g := gb734) (o := .cells #[.string (⟨#[]⟩ : ByteArray), .string (⟨#[]⟩ : ByteArray), .int .i64 0] 42 (0, 0)) z39_0) : gb734 ≠ gb735)); clear BK734; clear HB; have BK734 := n0_; have HB := n1_; have HI735 := n2_; have NB735_734 := n3_; have NB734_735 := n4_; clear n0_ n1_ n2_ n3_ n4_; clear hb hbox hg) | ((with_reducible refine gate_callee (f := 87) rfl ?_); refine goesL_ (some 12) rfl rfl Tryd.func87 (by kernel_rfl) rfl #[.pointer (some ⟨gb735, 0, none⟩)] rfl z39_3 ?_; (with_reducible refine (spec_l1Cur_anyLog.calls k gb735 l0 0 0 t736 t737 t738 t739 t740 w _ ?side1 ?side2 A2.out).mono ?_); (case side1 => repeat (first | (with_reducible first | exact HI735.out | apply IsS83.alloc | apply IsS83.drewN | apply IsS83.drew | apply IsS83.set_1 | apply IsS83.set_2 | refine IsS83.far ?_ NB735_734.out _) | exact HI735.out)); (case side2 => repeat (first | (with_reducible first | exact HB.out | apply below_alloc | apply pw_below_drewN | apply below_drew1 | refine below_set ?_ (IsS83.ge HI735.out) | refine below_set ?_ GE734.out) | exact HB.out)); rintro e w7 ⟨rfl, hi, hb, hk⟩; refine ⟨_, rfl, ?_⟩; have n0_ := Aside0.mk (KeepBut.blk hk (g' := gb734) (o := .cells #[.string (⟨#[]⟩ : ByteArray), .string (⟨#[]⟩ : ByteArray), .int .i64 0] 42 (0, 0)) z39_0 NB734_735.out (by simp)); have n1_ := Aside0.mk (hb); have n2_ := Aside0.mk (hi); clear BK734; clear HB; clear HI735; have BK734 := n0_; have HB := n1_; have HI735 := n2_; clear n0_ n1_ n2_; (try clear hb); (try clear hb2); (try clear hk); (try clear hi)) | ((with_reducible refine gate_dst (N := 6) rfl ?_); refine box_event ?hg (N := 6) ?hd (cs := #[.string (⟨#[]⟩ : ByteArray), .string (⟨#[]⟩ : ByteArray), .int .i64 0]) (t := 42) ?hr ?_; (case hd => rfl); (case hg => rfl); (case hr => first | (go_simp; done) | (go_simp; rfl)); intro gb741 hg w8 hbox hb; have n0_ := Aside0.mk (blk_below (g := gb734) (o := .cells #[.string (⟨#[]⟩ : ByteArray), .string (⟨#[]⟩ : ByteArray), .int .i64 0] 42 (0, 0)) z39_0 hb); have n1_ := Aside0.mk (IsS83.below z39_2 hb); have n2_ := Aside0.mk (below_step z39_4 hb); have n3_ := Aside0.mk (hbox); have n4_ := Aside0.mk ((by rw [hg]; exact (below_size z39_4) : w.heap.size ≤ gb741)); have n5_ := Aside0.mk ((by rw [hg]; exact (below_size z39_4) : w.heap.size ≤ gb741)); have n6_ := Aside0.mk ((by rw [hg]; exact Nat.ne_of_lt (blk_lt (g := gb734) (o := .cells #[.string (⟨#[]⟩ : ByteArray), .string (⟨#[]⟩ : ByteArray), .int .i64 0] 42 (0, 0)) z39_0) : gb734 ≠ gb741)); have n7_ := Aside0.mk ((by rw [hg]; exact Nat.ne_of_gt (blk_lt (g := gb734) (o := .cells #[.string (⟨#[]⟩ : ByteArray), .string (⟨#[]⟩ : ByteArray), .int .i64 0] 42 (0, 0)) z39_0) : gb741 ≠ gb734)); have n8_ := Aside0.mk ((by rw [hg]; exact Nat.ne_of_lt (IsS83.lt (show IsS83 w _ gb735 l0 t739 t740 from z39_2)) : gb735 ≠ gb741)); have n9_ := Aside0.mk ((by rw [hg]; exact Nat.ne_of_gt (IsS83.lt (show IsS83 w _ gb735 l0 t739 t740 from z39_2)) : gb741 ≠ gb735)); clear BK734; clear HI735; clear HB; have BK734 := n0_; have HI735 := n1_; have HB := n2_; have BK741 := n3_; have GW741 := n4_; have GE741 := n5_; have NB734_741 := n6_; have NB741_734 := n7_; have NB735_741 := n8_; have NB741_735 := n9_; clear n0_ n1_ n2_ n3_ n4_ n5_ n6_ n7_ n8_ n9_; clear hb hbox hg; have hnb9 := NB741_734.out; have hnc9 := NB734_741.out; have hnb10 := NB741_735.out; have hnc10 := NB735_741.out; have hcz11_0 : w8.cell? ⟨gb741, 0, none⟩ = some (.string (⟨#[]⟩ : ByteArray)) := (blk_cell BK741.out 0).trans rfl; have hcz11_1 : w8.cell? ⟨gb741, 1, none⟩ = some (.string (⟨#[]⟩ : ByteArray)) := (blk_cell BK741.out 1).trans rfl; have hcz11_2 : w8.cell? ⟨gb741, 2, none⟩ = some (.int .i64 0) := (blk_cell BK741.out 2).trans rfl; have hfz11_0 := blk_frozen BK741.out 0; have hfz11_1 := blk_frozen BK741.out 1; have hfz11_2 := blk_frozen BK741.out 2) | ((with_reducible refine gate_callee (f := 69) rfl ?_); refine goesL_ (some 18) rfl rfl Tryd.func69 (by kernel_rfl) rfl #[.pointer (some ⟨gb735, 0, none⟩), .int .i64 (wrap64 ((t737.size : Int) + 3))] rfl z39_3 ?_; (with_reducible refine (spec_l1Cur_pick.calls gb735 l0 t739 t740 (wrap64 ((t737.size : Int) + 3)) t742 t743 t744 w _ ?side1 ?side2 A3.out).mono ?_); (case side1 => repeat (first | (with_reducible first | exact HI735.out | apply IsS83.alloc | apply IsS83.drewN | apply IsS83.drew | apply IsS83.set_1 | apply IsS83.set_2 | refine IsS83.far ?_ NB735_734.out _ | refine IsS83.far ?_ NB735_741.out _) | exact HI735.out)); (case side2 => repeat (first | (with_reducible first | exact HB.out | apply below_alloc | apply pw_below_drewN | apply below_drew1 | refine below_set ?_ (IsS83.ge HI735.out) | refine below_set ?_ GE734.out | refine below_set ?_ GE741.out) | exact HB.out)); rintro e w12 ⟨rfl, hi, hb, hk⟩; refine ⟨_, rfl, ?_⟩; have n0_ := Aside0.mk (KeepBut.blk hk (g' := gb734) (o := .cells #[.string (⟨#[]⟩ : ByteArray), .string (⟨#[]⟩ : ByteArray), .int .i64 0] 42 (0, 0)) (by (with_reducible repeat (first | refine blk_drewN ?_ _ | refine blk_drew ?_ | refine blk_alloc ?_ _)); refine blk_far ?_ NB734_741.out _; (with_reducible repeat (first | refine blk_drewN ?_ _ | refine blk_drew ?_ | refine blk_alloc ?_ _)); refine blk_far ?_ NB734_741.out _; (with_reducible repeat (first | refine blk_drewN ?_ _ | refine blk_drew ?_ | refine blk_alloc ?_ _)); refine blk_far ?_ NB734_741.out _; (with_reducible repeat (first | refine blk_drewN ?_ _ | refine blk_drew ?_ | refine blk_alloc ?_ _)); exact BK734.out) NB734_735.out (by simp)); have n1_ := Aside0.mk (KeepBut.blk hk (g' := gb741) (o := .cells #[.string t736, .string t737, .int .i64 t738] 42 (0, 0)) (by (with_reducible repeat (first | refine blk_drewN ?_ _ | refine blk_drew ?_ | refine blk_alloc ?_ _)); refine blk_put (cs := #[.string t736, .string t737, .int .i64 0]) ?_ 2 _ rfl; (with_reducible repeat (first | refine blk_drewN ?_ _ | refine blk_drew ?_ | refine blk_alloc ?_ _)); refine blk_put (cs := #[.string t736, .string (⟨#[]⟩ : ByteArray), .int .i64 0]) ?_ 1 _ rfl; (with_reducible repeat (first | refine blk_drewN ?_ _ | refine blk_drew ?_ | refine blk_alloc ?_ _)); refine blk_put (cs := #[.string (⟨#[]⟩ : ByteArray), .string (⟨#[]⟩ : ByteArray), .int .i64 0]) ?_ 0 _ rfl; (with_reducible repeat (first | refine blk_drewN ?_ _ | refine blk_drew ?_ | refine blk_alloc ?_ _)); exact BK741.out) NB741_735.out (by simp)); have n2_ := Aside0.mk (hb); have n3_ := Aside0.mk (hi); clear BK734; clear BK741; clear HB; clear HI735; have BK734 := n0_; have BK741 := n1_; have HB := n2_; have HI735 := n3_; clear n0_ n1_ n2_ n3_; (try clear hb); (try clear hb2); (try clear hk); (try clear hi)))
  have n0_ := Aside0.mk (blk_drew BK734.out)
  have n1_ := Aside0.mk (blk_drew BK741.out)
  have n2_ := Aside0.mk (IsS83.drew HI735.out)
  have n3_ := Aside0.mk (below_drew1 HB.out)
  clear BK734
  clear BK741
  clear HI735
  clear HB
  have BK734 := n0_
  have BK741 := n1_
  have HI735 := n2_
  have HB := n3_
  clear n0_ n1_ n2_ n3_
  refine start_ (n := 7) (S := fun w' => w'.cell? ⟨gb741, 0, none⟩ = some (.string t736) ∧ w'.cell? ⟨gb741, 1, none⟩ = some (.string t737) ∧ w'.cell? ⟨gb741, 2, none⟩ = some (.int .i64 t738)) (ds := []) #[false, false, false, false, false, false, false] (by kernel_rfl) rfl rfl ⟨(blk_cell BK741.out 0).trans rfl, (blk_cell BK741.out 1).trans rfl, (blk_cell BK741.out 2).trans rfl⟩ (fun hHeld => ?_)
  generalize w12.drew = w13 at BK734 BK741 HI735 HB hHeld ⊢
  refine pure_ (i := 1) (N := some 21) (v := ?_) (a' := ?_) #[false, true, false, false, false, false, false] rfl rfl (by kernel_rfl) (fun _ _ _ h => h) (Or.inl ⟨by rfl, ?_⟩) ?_ ?_
  rotate_left
  · intro w'
    go_simp
    with_reducible rfl
  rotate_left
  · simp only [Act.put, List.setIfInBounds_toArray, List.set_cons_zero, List.set_cons_succ, i64_w, i32_w]
    rfl
  refine pure_ (i := 2) (N := some 22) (v := ?_) (a' := ?_) #[false, true, true, false, false, false, false] rfl rfl (by kernel_rfl) (fun _ _ _ h => h) (Or.inl ⟨by rfl, ?_⟩) ?_ ?_
  rotate_left
  · intro w'
    go_simp
    with_reducible rfl
  rotate_left
  · simp only [Act.put, List.setIfInBounds_toArray, List.set_cons_zero, List.set_cons_succ, i64_w, i32_w]
    rfl
  refine take_ (i := 0) (N := some 20) (v := ?_) (a' := ?_) #[true, true, true, false, false, false, false] rfl rfl (by kernel_rfl) (fun _ _ _ h => h) (Or.inl ⟨by rfl, ?_⟩) hHeld ?_ ?_
  rotate_left
  · rintro w' ⟨s0, s1, s2⟩
    go_simp
    with_reducible rfl
  rotate_left
  · simp only [Act.put, List.setIfInBounds_toArray, List.set_cons_zero, List.set_cons_succ, i64_w, i32_w]
    rfl
  refine one_ (i := 3) (N := some 23) #[true, true, true, true, false, false, false] rfl rfl (by kernel_rfl) (by decide) (fun K hK => ?_)
  refine goes_ Tryd.func70 (by kernel_rfl) rfl #[.pointer (some ⟨gb735, 0, none⟩), .int .i64 2] (by rfl) rfl rfl z39_3 ?_
  with_reducible refine (spec_l1Cur_one.calls gb735 l0 t743 t744 2 t745 t746 t747 w _ ?side1 ?side2 A4.out).mono ?_
  (case side1 => repeat (first | (with_reducible first | exact HI735.out | apply IsS83.alloc | apply IsS83.drewN | apply IsS83.drew | apply IsS83.set_1 | apply IsS83.set_2 | refine IsS83.far ?_ NB735_734.out _ | refine IsS83.far ?_ NB735_741.out _) | exact HI735.out))
  (case side2 => repeat (first | (with_reducible first | exact HB.out | apply below_alloc | apply pw_below_drewN | apply below_drew1 | refine below_set ?_ (IsS83.ge HI735.out) | refine below_set ?_ GE734.out | refine below_set ?_ GE741.out) | exact HB.out))
  rintro e w14 ⟨rfl, hi, hb, hk⟩
  refine ⟨_, rfl, ?_⟩
  have n0_ := Aside0.mk (KeepBut.blk hk (g' := gb734) (o := .cells #[.string (⟨#[]⟩ : ByteArray), .string (⟨#[]⟩ : ByteArray), .int .i64 0] 42 (0, 0)) z39_0 NB734_735.out (by simp))
  have n1_ := Aside0.mk (KeepBut.blk hk (g' := gb741) (o := .cells #[.string t736, .string t737, .int .i64 t738] 42 (0, 0)) (by (with_reducible repeat (first | refine blk_drewN ?_ _ | refine blk_drew ?_ | refine blk_alloc ?_ _)); exact BK741.out) NB741_735.out (by simp))
  have n2_ := Aside0.mk (hb)
  have n3_ := Aside0.mk (hi)
  clear BK734
  clear BK741
  clear HB
  clear HI735
  have BK734 := n0_
  have BK741 := n1_
  have HB := n2_
  have HI735 := n3_
  clear n0_ n1_ n2_ n3_
  (try clear hb)
  (try clear hb2)
  (try clear hk)
  (try clear hi)
  refine hK.out _ _ ⟨(blk_cell BK741.out 0).trans rfl, (blk_cell BK741.out 1).trans rfl, (blk_cell BK741.out 2).trans rfl⟩ (fun hHeld => ?_)
  clear hK K
  refine norm_ (a' := ?_) ?_ ?_
  rotate_left
  · show Act.put _ (some 23) _ = _
    simp only [Act.put, List.setIfInBounds_toArray, List.set_cons_zero, List.set_cons_succ, i64_w, i32_w]
    rfl
  refine one_ (i := 4) (N := none) #[true, true, true, true, true, false, false] rfl rfl (by kernel_rfl) (by decide) (fun K hK => ?_)
  have hs15 : w14.cell? ⟨gb734, 0, none⟩ = some (.string (⟨#[]⟩ : ByteArray)) := (blk_cell BK734.out 0).trans rfl
  have hfs15 := blk_frozen BK734.out 0
  have hns15_1 := NB741_734.out
  have hms15_1 := NB734_741.out
  have hs16 : w14.cell? ⟨gb734, 1, none⟩ = some (.string (⟨#[]⟩ : ByteArray)) := (blk_cell BK734.out 1).trans rfl
  have hfs16 := blk_frozen BK734.out 1
  have hns16_1 := NB741_734.out
  have hms16_1 := NB734_741.out
  have hs17 : w14.cell? ⟨gb734, 2, none⟩ = some (.int .i64 0) := (blk_cell BK734.out 2).trans rfl
  have hfs17 := blk_frozen BK734.out 2
  have hns17_1 := NB741_734.out
  have hms17_1 := NB734_741.out
  refine skip_ (w1 := ?_) (by rfl) rfl ?_ ?_
  rotate_left
  · go_simp
    rfl
  refine hK.out _ _ ⟨((cell_far (p := ⟨gb734, _, none⟩) NB741_734.out _).trans (((cell_far (p := ⟨gb734, _, none⟩) NB741_734.out _).trans (((cell_far (p := ⟨gb734, _, none⟩) NB741_734.out _).trans (hHeld.1)))))), ((cell_far (p := ⟨gb734, _, none⟩) NB741_734.out _).trans (((cell_far (p := ⟨gb734, _, none⟩) NB741_734.out _).trans (((cell_far (p := ⟨gb734, _, none⟩) NB741_734.out _).trans (hHeld.2.1)))))), ((cell_far (p := ⟨gb734, _, none⟩) NB741_734.out _).trans (((cell_far (p := ⟨gb734, _, none⟩) NB741_734.out _).trans (((cell_far (p := ⟨gb734, _, none⟩) NB741_734.out _).trans (hHeld.2.2))))))⟩ (fun hHeld => ?_)
  clear hK K
  refine pure_ (i := 5) (N := some 3) (v := ?_) (a' := ?_) #[true, true, true, true, true, true, false] rfl rfl (by kernel_rfl) (fun _ _ _ h => h) (Or.inl ⟨by rfl, ?_⟩) ?_ ?_
  rotate_left
  · intro w'
    go_simp
    with_reducible rfl
  rotate_left
  · simp only [Act.put, List.setIfInBounds_toArray, List.set_cons_zero, List.set_cons_succ, i64_w, i32_w]
    rfl
  refine pure_ (i := 6) (N := some 4) (v := ?_) (a' := ?_) #[true, true, true, true, true, true, true] rfl rfl (by kernel_rfl) (fun _ _ _ h => h) (Or.inl ⟨by rfl, ?_⟩) ?_ ?_
  rotate_left
  · intro w'
    go_simp
    with_reducible rfl
  rotate_left
  · simp only [Act.put, List.setIfInBounds_toArray, List.set_cons_zero, List.set_cons_succ, i64_w, i32_w]
    rfl
  refine done_ (by kernel_rfl) ?_
  try go_wp2
  refine bodyPost_ret (results_ctt rfl _ _ gb734 42 #[.string t736, .string t737, .int .i64 t738] (0, 0) _ rfl (by (with_reducible repeat (first | refine blk_drewN ?_ _ | refine blk_drew ?_ | refine blk_alloc ?_ _)); refine blk_put (cs := #[.string t736, .string t737, .int .i64 0]) ?_ 2 _ rfl; (with_reducible repeat (first | refine blk_drewN ?_ _ | refine blk_drew ?_ | refine blk_alloc ?_ _)); refine blk_put (cs := #[.string t736, .string (⟨#[]⟩ : ByteArray), .int .i64 0]) ?_ 1 _ rfl; (with_reducible repeat (first | refine blk_drewN ?_ _ | refine blk_drew ?_ | refine blk_alloc ?_ _)); refine blk_put (cs := #[.string (⟨#[]⟩ : ByteArray), .string (⟨#[]⟩ : ByteArray), .int .i64 0]) ?_ 0 _ rfl; (with_reducible repeat (first | refine blk_drewN ?_ _ | refine blk_drew ?_ | refine blk_alloc ?_ _)); exact BK734.out) Tryd.underlying42 rfl (by kernel_rfl)) rfl ?_
  exact ⟨by first | rfl | (simp [errW_none, errW_some] <;> rfl) | (simp [*, errW_none, errW_some] <;> rfl), by repeat (first | (with_reducible first | exact HB.out | apply below_alloc | apply pw_below_drewN | apply below_drew1 | refine below_set ?_ (IsS83.ge HI735.out) | refine below_set ?_ GE734.out | refine below_set ?_ GE741.out) | exact HB.out)⟩
end Go.Proofs.YtgclcjohnnpejaaDoor.Pr
end

section
namespace Go.Proofs.YtgclcjohnnpejaaDoor.Pr
open Go.RowKit Go.Proofs.YtgclcjohnnpejaaDoorW.PrintWords Go.Proofs.YtgclcjohnnpejaaDoorW.PrintLast Go.Proofs.YtgclcjohnnpejaaDoorW.PrintMore
attribute [local go_sem] max2_int min2_int max_two min_two max_three min_three max_four min_four
set_option linter.unusedVariables false
set_option linter.unusedSimpArgs false
theorem z40_0 {P : Prop} (h : P := by repeat (first | (with_reducible first | exact HB.out | apply below_alloc | apply pw_below_drewN | apply below_drew1 | refine below_set ?_ (IsS83.ge HI748.out) | refine below_set ?_ GE754.out) | exact HB.out)) : P := h
theorem z40_1 {P : Prop} (h : P := by (with_reducible repeat (first | refine blk_drewN ?_ _ | refine blk_drew ?_ | refine blk_alloc ?_ _)); exact BK754.out) : P := h
theorem z40_2 {P : Prop} (h : P := by (try simp only [List.map_toArray, List.map_cons, List.map_nil]); first | done | rfl | (simp only [List.length_drop, List.length_take]; rfl)) : P := h
theorem z40_3 {P : Prop} (h : P := by repeat (first | (with_reducible first | exact HI748.out | apply IsS83.alloc | apply IsS83.drewN | apply IsS83.drew | apply IsS83.set_1 | apply IsS83.set_2 | refine IsS83.far ?_ NB748_754.out _) | exact HI748.out)) : P := h
theorem z40_4 {P : Prop} (h : P := by repeat (first | (with_reducible first | exact HB.out | apply below_alloc | apply pw_below_drewN | apply below_drew1 | refine below_set ?_ (IsS83.ge HI748.out)) | exact HB.out)) : P := h
theorem z40_5 {P : Prop} (h : P := by repeat (first | (with_reducible first | exact HI748.out | apply IsS83.alloc | apply IsS83.drewN | apply IsS83.drew | apply IsS83.set_1 | apply IsS83.set_2) | exact HI748.out)) : P := h
def spec_DrawRecoverLog.j0 : Nat → ByteArray → List Int → Int → Int → Option (ByteArray)
  | 0, _, _, _, _ => none
  | k + 1, x5, x749000, x749001, x749002 => (spec_l1Cur_one.f x749000 x749001 x749002 40).bind fun bt772 => (if bt772.1 = true then ((spec_l1Cur_pick.f x749000 bt772.2.1 bt772.2.2 2).bind fun bt775 => (if 0 ≤ (wrap64 (30000 + bt775.1)) then (if (wrap64 (30000 + bt775.1) : Int).toNat ≤ 281474976710656 then (some (strOfNums (List.replicate (wrap64 (30000 + bt775.1) : Int).toNat 0))) else (none)) else (none))) else (some x5))
def spec_DrawRecoverLog.f (k : Nat) (l0 : List Int) : Option (ByteArray) := (spec_l1Cur_log12.f k l0 0 0).bind fun bt749 => (if bt749.1.size + bt749.2.1.size ≤ 9223372036854775807 then ((spec_l1Cur_pick.f l0 bt749.2.2.2.1 bt749.2.2.2.2 4).bind fun bt755 => (if bt755.1 = 0 then ((spec_l1Cur_spoilt.f l0 bt755.2.1 bt755.2.2 (bt749.1 ++ bt749.2.1) (⟨#[35, 64, 10, 48, 49]⟩ : ByteArray)).bind fun bt758 => (spec_DrawRecoverLog.j0 k bt758.1 l0 bt758.2.1 bt758.2.2)) else (if bt755.1 = 1 then ((spec_l1Cur_pick.f l0 bt755.2.1 bt755.2.2 (wrap64 (((bt749.1.size : Int) + (bt749.2.1.size : Int)) + 1))).bind fun bt761 => (if 0 ≤ bt761.1 then (if bt761.1 ≤ ((bt749.1.size : Int) + (bt749.2.1.size : Int)) then (spec_DrawRecoverLog.j0 k ((bt749.1 ++ bt749.2.1).extract 0 (bt761.1 : Int).toNat) l0 bt761.2.1 bt761.2.2) else (none)) else (none))) else (if bt755.1 = 2 then ((spec_l1Cur_pick.f l0 bt755.2.1 bt755.2.2 4).bind fun bt764 => ((spec_l1Cur_logRecord.f l0 bt764.2.1 bt764.2.2).bind fun bt767 => ((spec_l12Line.f k bt764.1 bt767.1 bt767.2.1).bind fun t771 => (if (bt749.1.size + bt749.2.1.size) + t771.size ≤ 9223372036854775807 then (spec_DrawRecoverLog.j0 k ((bt749.1 ++ bt749.2.1) ++ t771) l0 bt767.2.2.1 bt767.2.2.2) else (none))))) else (spec_DrawRecoverLog.j0 k (bt749.1 ++ bt749.2.1) l0 bt755.2.1 bt755.2.2))))) else (none))
theorem spec_DrawRecoverLog.mono_l : ∀ k, (∀ y0 y1 y2 y3, LeO (spec_DrawRecoverLog.j0 k y0 y1 y2 y3) (spec_DrawRecoverLog.j0 (k + 1) y0 y1 y2 y3))
  | 0 => fun _ _ _ _ r h => by simp [spec_DrawRecoverLog.j0] at h
  | k + 1 => by
    have ih0 := spec_DrawRecoverLog.mono_l k
    · intro y0 y1 y2 y3
      unfold spec_DrawRecoverLog.j0
      repeat' first
      | (with_reducible exact ih0 _ _ _ _)
      | (with_reducible exact spec_l12Line.mono _ _ _ _)
      | (with_reducible exact spec_l1Cur_log12.mono _ _ _ _)
      | (with_reducible exact LeO.refl _)
      | (with_reducible exact LeO.none _)
      | (with_reducible refine LeO.ite ?_ ?_)
      | (with_reducible refine LeO.bind ?_ (fun _ => ?_))
      | exact ih0 _ _ _ _
      | exact spec_l12Line.mono _ _ _ _
      | exact spec_l1Cur_log12.mono _ _ _ _
      | exact LeO.none _
      | refine LeO.ite ?_ ?_
      | refine LeO.bind ?_ (fun _ => ?_)
theorem spec_DrawRecoverLog.mono : ∀ a0 k, LeO (spec_DrawRecoverLog.f k a0) (spec_DrawRecoverLog.f (k + 1) a0) := by
  intro a0 k
  have ih0 := spec_DrawRecoverLog.mono_l k
  unfold spec_DrawRecoverLog.f
  repeat' first
      | (with_reducible exact ih0 _ _ _ _)
      | (with_reducible exact spec_l12Line.mono _ _ _ _)
      | (with_reducible exact spec_l1Cur_log12.mono _ _ _ _)
      | (with_reducible exact LeO.refl _)
      | (with_reducible exact LeO.none _)
      | (with_reducible refine LeO.ite ?_ ?_)
      | (with_reducible refine LeO.bind ?_ (fun _ => ?_))
      | exact ih0 _ _ _ _
      | exact spec_l12Line.mono _ _ _ _
      | exact spec_l1Cur_log12.mono _ _ _ _
      | exact LeO.none _
      | refine LeO.ite ?_ ?_
      | refine LeO.bind ?_ (fun _ => ?_)
set_option maxHeartbeats 8000000 in
set_option maxRecDepth 100000 in
theorem spec_DrawRecoverLog.calls (k : Nat) (A0 : Option Addr) (c0 : Nat) (l0 : List Int) (r : ByteArray) (w : World) (hr0 : Kd.C (Kd.int .u8) w A0 l0.length l0) (hc0 : l0.length ≤ c0) (h : spec_DrawRecoverLog.f k l0 = some r) :
    Calls Tryd.prog 54 #[.slice A0 l0.length c0] w fun e w' => e = .returned (.string r) ∧ Below w.heap.size w w' := by
  have hu83 := Tryd.underlying83
  have hu42 := Tryd.underlying42
  have HR0 := Aside0.mk hr0
  have HC0 := Aside0.mk hc0
  clear hr0 hc0
  have HB := Aside0.mk (Below.refl w.heap.size w)
  have H : ((spec_l1Cur_log12.f k l0 0 0).bind fun bt749 => (if bt749.1.size + bt749.2.1.size ≤ 9223372036854775807 then ((spec_l1Cur_pick.f l0 bt749.2.2.2.1 bt749.2.2.2.2 4).bind fun bt755 => (if bt755.1 = 0 then ((spec_l1Cur_spoilt.f l0 bt755.2.1 bt755.2.2 (bt749.1 ++ bt749.2.1) (⟨#[35, 64, 10, 48, 49]⟩ : ByteArray)).bind fun bt758 => (spec_DrawRecoverLog.j0 k bt758.1 l0 bt758.2.1 bt758.2.2)) else (if bt755.1 = 1 then ((spec_l1Cur_pick.f l0 bt755.2.1 bt755.2.2 (wrap64 (((bt749.1.size : Int) + (bt749.2.1.size : Int)) + 1))).bind fun bt761 => (if 0 ≤ bt761.1 then (if bt761.1 ≤ ((bt749.1.size : Int) + (bt749.2.1.size : Int)) then (spec_DrawRecoverLog.j0 k ((bt749.1 ++ bt749.2.1).extract 0 (bt761.1 : Int).toNat) l0 bt761.2.1 bt761.2.2) else (none)) else (none))) else (if bt755.1 = 2 then ((spec_l1Cur_pick.f l0 bt755.2.1 bt755.2.2 4).bind fun bt764 => ((spec_l1Cur_logRecord.f l0 bt764.2.1 bt764.2.2).bind fun bt767 => ((spec_l12Line.f k bt764.1 bt767.1 bt767.2.1).bind fun t771 => (if (bt749.1.size + bt749.2.1.size) + t771.size ≤ 9223372036854775807 then (spec_DrawRecoverLog.j0 k ((bt749.1 ++ bt749.2.1) ++ t771) l0 bt767.2.2.1 bt767.2.2.2) else (none))))) else (spec_DrawRecoverLog.j0 k (bt749.1 ++ bt749.2.1) l0 bt755.2.1 bt755.2.2))))) else (none))) = some r := h
  clear h
  replace H := Option.bind_eq_some_iff.mp H
  obtain ⟨⟨t749, t750, t751, t752, t753⟩, A20, H⟩ := H
  replace H : (if t749.size + t750.size ≤ 9223372036854775807 then ((spec_l1Cur_pick.f l0 t752 t753 4).bind fun bt755 => (if bt755.1 = 0 then ((spec_l1Cur_spoilt.f l0 bt755.2.1 bt755.2.2 (t749 ++ t750) (⟨#[35, 64, 10, 48, 49]⟩ : ByteArray)).bind fun bt758 => (spec_DrawRecoverLog.j0 k bt758.1 l0 bt758.2.1 bt758.2.2)) else (if bt755.1 = 1 then ((spec_l1Cur_pick.f l0 bt755.2.1 bt755.2.2 (wrap64 (((t749.size : Int) + (t750.size : Int)) + 1))).bind fun bt761 => (if 0 ≤ bt761.1 then (if bt761.1 ≤ ((t749.size : Int) + (t750.size : Int)) then (spec_DrawRecoverLog.j0 k ((t749 ++ t750).extract 0 (bt761.1 : Int).toNat) l0 bt761.2.1 bt761.2.2) else (none)) else (none))) else (if bt755.1 = 2 then ((spec_l1Cur_pick.f l0 bt755.2.1 bt755.2.2 4).bind fun bt764 => ((spec_l1Cur_logRecord.f l0 bt764.2.1 bt764.2.2).bind fun bt767 => ((spec_l12Line.f k bt764.1 bt767.1 bt767.2.1).bind fun t771 => (if (t749.size + t750.size) + t771.size ≤ 9223372036854775807 then (spec_DrawRecoverLog.j0 k ((t749 ++ t750) ++ t771) l0 bt767.2.2.1 bt767.2.2.2) else (none))))) else (spec_DrawRecoverLog.j0 k (t749 ++ t750) l0 bt755.2.1 bt755.2.2))))) else (none)) = some r := H
  have A2 := Aside0.mk A20
  clear A20
  by_cases c3 : t749.size + t750.size ≤ 9223372036854775807
  · rw [if_pos c3] at H
    have c3b0 := eq_true c3
    have c3b1 : decide (t749.size + t750.size ≤ 9223372036854775807) = true := decide_eq_true c3
    try have c3b2 : (9223372036854775807 < t749.size + t750.size) = False := eq_false (Nat.not_lt.2 c3)
    replace H := Option.bind_eq_some_iff.mp H
    obtain ⟨⟨t755, t756, t757⟩, A40, H⟩ := H
    replace H : (if t755 = 0 then ((spec_l1Cur_spoilt.f l0 t756 t757 (t749 ++ t750) (⟨#[35, 64, 10, 48, 49]⟩ : ByteArray)).bind fun bt758 => (spec_DrawRecoverLog.j0 k bt758.1 l0 bt758.2.1 bt758.2.2)) else (if t755 = 1 then ((spec_l1Cur_pick.f l0 t756 t757 (wrap64 (((t749.size : Int) + (t750.size : Int)) + 1))).bind fun bt761 => (if 0 ≤ bt761.1 then (if bt761.1 ≤ ((t749.size : Int) + (t750.size : Int)) then (spec_DrawRecoverLog.j0 k ((t749 ++ t750).extract 0 (bt761.1 : Int).toNat) l0 bt761.2.1 bt761.2.2) else (none)) else (none))) else (if t755 = 2 then ((spec_l1Cur_pick.f l0 t756 t757 4).bind fun bt764 => ((spec_l1Cur_logRecord.f l0 bt764.2.1 bt764.2.2).bind fun bt767 => ((spec_l12Line.f k bt764.1 bt767.1 bt767.2.1).bind fun t771 => (if (t749.size + t750.size) + t771.size ≤ 9223372036854775807 then (spec_DrawRecoverLog.j0 k ((t749 ++ t750) ++ t771) l0 bt767.2.2.1 bt767.2.2.2) else (none))))) else (spec_DrawRecoverLog.j0 k (t749 ++ t750) l0 t756 t757)))) = some r := H
    have A4 := Aside0.mk A40
    clear A40
    have HC5 := Aside0.mk H
    clear H
    go_enter Tryd.func54, Tryd.ntmps54
    go_upto_block 0 with (first | ((with_reducible refine gate_dst (N := 8) rfl ?_); refine box_event ?hg (N := 8) ?hd (cs := #[.slice A0 l0.length c0, .int .i64 0, .int .u64 0]) (t := 83) ?hr ?_; (case hd => rfl); (case hg => rfl); (case hr => first | (go_simp; done) | (go_simp; rfl)); intro gb748 hg w6 hbox hb; have n0_ := Aside0.mk (below_step (by repeat (first | (with_reducible first | exact HB.out | apply below_alloc | apply pw_below_drewN | apply below_drew1) | exact HB.out)) hb); have n1_ := Aside0.mk ((show IsS83 w w6 gb748 l0 0 0 from ⟨_, _, hbox, (by rw [hg]; exact (below_size (by repeat (first | (with_reducible first | exact HB.out | apply below_alloc | apply pw_below_drewN | apply below_drew1) | exact HB.out))) : w.heap.size ≤ gb748), HR0.out⟩)); clear HB; have HB := n0_; have HI748 := n1_; clear n0_ n1_; clear hb hbox hg) | ((with_reducible refine gate_callee (f := 90) rfl ?_); refine goesL_ (some 10) rfl rfl Tryd.func90 (by kernel_rfl) rfl #[.pointer (some ⟨gb748, 0, none⟩)] rfl z40_2 ?_; (with_reducible refine (spec_l1Cur_log12.calls k gb748 l0 0 0 t749 t750 t751 t752 t753 w _ ?side1 ?side2 A2.out).mono ?_); (case side1 => repeat (first | (with_reducible first | exact HI748.out | apply IsS83.alloc | apply IsS83.drewN | apply IsS83.drew | apply IsS83.set_1 | apply IsS83.set_2) | exact HI748.out)); (case side2 => repeat (first | (with_reducible first | exact HB.out | apply below_alloc | apply pw_below_drewN | apply below_drew1 | refine below_set ?_ (IsS83.ge HI748.out)) | exact HB.out)); rintro e w7 ⟨rfl, hi, hb, hk⟩; refine ⟨_, rfl, ?_⟩; have n0_ := Aside0.mk (hb); have n1_ := Aside0.mk (hi); clear HB; clear HI748; have HB := n0_; have HI748 := n1_; clear n0_ n1_; (try clear hb); (try clear hb2); (try clear hk); (try clear hi)) | ((with_reducible refine gate_dst (N := 4) rfl ?_); refine box_event ?hg (N := 4) ?hd (cs := #[.string (⟨#[]⟩ : ByteArray), .string (⟨#[]⟩ : ByteArray), .int .i64 0]) (t := 42) ?hr ?_; (case hd => rfl); (case hg => rfl); (case hr => first | (go_simp; done) | (go_simp; rfl)); intro gb754 hg w8 hbox hb; have n0_ := Aside0.mk (IsS83.below z40_5 hb); have n1_ := Aside0.mk (below_step z40_4 hb); have n2_ := Aside0.mk (hbox); have n3_ := Aside0.mk ((by rw [hg]; exact (below_size z40_4) : w.heap.size ≤ gb754)); have n4_ := Aside0.mk ((by rw [hg]; exact (below_size z40_4) : w.heap.size ≤ gb754)); have n5_ := Aside0.mk ((by rw [hg]; exact Nat.ne_of_lt (IsS83.lt (show IsS83 w _ gb748 l0 t752 t753 from z40_5)) : gb748 ≠ gb754)); have n6_ := Aside0.mk ((by rw [hg]; exact Nat.ne_of_gt (IsS83.lt (show IsS83 w _ gb748 l0 t752 t753 from z40_5)) : gb754 ≠ gb748)); clear HI748; clear HB; have HI748 := n0_; have HB := n1_; have BK754 := n2_; have GW754 := n3_; have GE754 := n4_; have NB748_754 := n5_; have NB754_748 := n6_; clear n0_ n1_ n2_ n3_ n4_ n5_ n6_; clear hb hbox hg; have hnb9 := NB754_748.out; have hnc9 := NB748_754.out; have hcz10_0 : w8.cell? ⟨gb754, 0, none⟩ = some (.string (⟨#[]⟩ : ByteArray)) := (blk_cell BK754.out 0).trans rfl; have hcz10_1 : w8.cell? ⟨gb754, 1, none⟩ = some (.string (⟨#[]⟩ : ByteArray)) := (blk_cell BK754.out 1).trans rfl; have hcz10_2 : w8.cell? ⟨gb754, 2, none⟩ = some (.int .i64 0) := (blk_cell BK754.out 2).trans rfl; have hfz10_0 := blk_frozen BK754.out 0; have hfz10_1 := blk_frozen BK754.out 1; have hfz10_2 := blk_frozen BK754.out 2) | ((with_reducible refine gate_callee (f := 69) rfl ?_); refine goesL_ (some 17) rfl rfl Tryd.func69 (by kernel_rfl) rfl #[.pointer (some ⟨gb748, 0, none⟩), .int .i64 4] rfl z40_2 ?_; (with_reducible refine (spec_l1Cur_pick.calls gb748 l0 t752 t753 4 t755 t756 t757 w _ ?side1 ?side2 A4.out).mono ?_); (case side1 => repeat (first | (with_reducible first | exact HI748.out | apply IsS83.alloc | apply IsS83.drewN | apply IsS83.drew | apply IsS83.set_1 | apply IsS83.set_2 | refine IsS83.far ?_ NB748_754.out _) | exact HI748.out)); (case side2 => repeat (first | (with_reducible first | exact HB.out | apply below_alloc | apply pw_below_drewN | apply below_drew1 | refine below_set ?_ (IsS83.ge HI748.out) | refine below_set ?_ GE754.out) | exact HB.out)); rintro e w11 ⟨rfl, hi, hb, hk⟩; refine ⟨_, rfl, ?_⟩; have n0_ := Aside0.mk (KeepBut.blk hk (g' := gb754) (o := .cells #[.string t749, .string t750, .int .i64 t751] 42 (0, 0)) (by (with_reducible repeat (first | refine blk_drewN ?_ _ | refine blk_drew ?_ | refine blk_alloc ?_ _)); refine blk_put (cs := #[.string t749, .string t750, .int .i64 0]) ?_ 2 _ rfl; (with_reducible repeat (first | refine blk_drewN ?_ _ | refine blk_drew ?_ | refine blk_alloc ?_ _)); refine blk_put (cs := #[.string t749, .string (⟨#[]⟩ : ByteArray), .int .i64 0]) ?_ 1 _ rfl; (with_reducible repeat (first | refine blk_drewN ?_ _ | refine blk_drew ?_ | refine blk_alloc ?_ _)); refine blk_put (cs := #[.string (⟨#[]⟩ : ByteArray), .string (⟨#[]⟩ : ByteArray), .int .i64 0]) ?_ 0 _ rfl; (with_reducible repeat (first | refine blk_drewN ?_ _ | refine blk_drew ?_ | refine blk_alloc ?_ _)); exact BK754.out) NB754_748.out (by simp)); have n1_ := Aside0.mk (hb); have n2_ := Aside0.mk (hi); clear BK754; clear HB; clear HI748; have BK754 := n0_; have HB := n1_; have HI748 := n2_; clear n0_ n1_ n2_; (try clear hb); (try clear hb2); (try clear hk); (try clear hi)))
    (try simp only [Act.put, List.setIfInBounds_toArray, List.set_cons_zero, List.set_cons_succ])
    go_cut [5] (fun v5 wc => ∃ (kq : Nat) (x5_4 : ByteArray) (x749001_4 : Int) (x749002_4 : Int), v5 = .string x5_4 ∧ Aside0 (spec_DrawRecoverLog.j0 kq x5_4 l0 x749001_4 x749002_4 = some r) ∧ Aside0 (kq ≤ k) ∧ Aside0 (wc.heap[gb754]? = some (.cells #[.string t749, .string t750, .int .i64 t751] 42 (0, 0))) ∧ Aside0 (IsS83 w wc gb748 l0 x749001_4 x749002_4) ∧ Aside0 (Below w.heap.size w wc))
    case first =>
      have H := HC5.out
      clear HC5
      by_cases c12 : t755 = 0
      · rw [if_pos c12] at H
        have c12b0 : (t755 == 0) = true := beq_iff_eq.mpr c12
        have c12b1 : (t755 != 0) = false := bne_eq_false_iff_eq.mpr c12
        clear c12
        (first | rw [c12b0] | (simp only [i64_w, i32_w]; rw [c12b0]) | skip)
        replace H := Option.bind_eq_some_iff.mp H
        obtain ⟨⟨t758, t759, t760⟩, A130, H⟩ := H
        replace H : (spec_DrawRecoverLog.j0 k t758 l0 t759 t760) = some r := H
        have A13 := Aside0.mk A130
        clear A130
        have H' := Aside0.mk H
        clear H
        go_wp2_with (first | ((with_reducible refine gate_callee (f := 91) rfl ?_); refine goesL_ (some 22) rfl rfl Tryd.func91 (by kernel_rfl) rfl #[.pointer (some ⟨gb748, 0, none⟩), .string (t749 ++ t750), .string (⟨#[35, 64, 10, 48, 49]⟩ : ByteArray)] rfl z40_2 ?_; (with_reducible refine (spec_l1Cur_spoilt.calls gb748 l0 t756 t757 (t749 ++ t750) (⟨#[35, 64, 10, 48, 49]⟩ : ByteArray) t758 t759 t760 w _ ?side1 ?side2 A13.out).mono ?_); (case side1 => repeat (first | (with_reducible first | exact HI748.out | apply IsS83.alloc | apply IsS83.drewN | apply IsS83.drew | apply IsS83.set_1 | apply IsS83.set_2 | refine IsS83.far ?_ NB748_754.out _) | exact HI748.out)); (case side2 => repeat (first | (with_reducible first | exact HB.out | apply below_alloc | apply pw_below_drewN | apply below_drew1 | refine below_set ?_ (IsS83.ge HI748.out) | refine below_set ?_ GE754.out) | exact HB.out)); rintro e w14 ⟨rfl, hi, hb, hk⟩; refine ⟨_, rfl, ?_⟩; have n0_ := Aside0.mk (KeepBut.blk hk (g' := gb754) (o := .cells #[.string t749, .string t750, .int .i64 t751] 42 (0, 0)) z40_1 NB754_748.out (by simp)); have n1_ := Aside0.mk (hb); have n2_ := Aside0.mk (hi); clear BK754; clear HB; clear HI748; have BK754 := n0_; have HB := n1_; have HI748 := n2_; clear n0_ n1_ n2_; (try clear hb); (try clear hb2); (try clear hk); (try clear hi)))
        go_meet
        case rel => exact ⟨_, (t758), (t759), (t760), (by first | rfl | (simp; done) | (simp [*]; done)), H', ⟨by first | omega | exact Nat.le_refl _⟩, ⟨z40_1⟩, ⟨z40_3⟩, ⟨z40_0⟩⟩
      · rw [if_neg c12] at H
        have c12b0 : (t755 == 0) = false := beq_eq_false_iff_ne.mpr c12
        have c12b1 : (t755 != 0) = true := bne_iff_ne.mpr c12
        (first | rw [c12b0] | (simp only [i64_w, i32_w]; rw [c12b0]) | skip)
        by_cases c15 : t755 = 1
        · rw [if_pos c15] at H
          have c15b0 : (t755 == 1) = true := beq_iff_eq.mpr c15
          have c15b1 : (t755 != 1) = false := bne_eq_false_iff_eq.mpr c15
          clear c15
          replace H := Option.bind_eq_some_iff.mp H
          obtain ⟨⟨t761, t762, t763⟩, A160, H⟩ := H
          replace H : (if 0 ≤ t761 then (if t761 ≤ ((t749.size : Int) + (t750.size : Int)) then (spec_DrawRecoverLog.j0 k ((t749 ++ t750).extract 0 (t761 : Int).toNat) l0 t762 t763) else (none)) else (none)) = some r := H
          have A16 := Aside0.mk A160
          clear A160
          by_cases c17 : 0 ≤ t761
          · rw [if_pos c17] at H
            have c17b0 := eq_true c17
            have c17b1 : decide (0 ≤ t761) = true := decide_eq_true c17
            clear c17
            by_cases c18 : t761 ≤ ((t749.size : Int) + (t750.size : Int))
            · rw [if_pos c18] at H
              have c18b0 := eq_true c18
              have c18b1 : decide (t761 ≤ ((t749.size : Int) + (t750.size : Int))) = true := decide_eq_true c18
              have H' := Aside0.mk H
              clear H
              go_wp2_with (first | ((with_reducible refine gate_callee (f := 69) rfl ?_); refine goesL_ (some 30) rfl rfl Tryd.func69 (by kernel_rfl) rfl #[.pointer (some ⟨gb748, 0, none⟩), .int .i64 (wrap64 (((t749.size : Int) + (t750.size : Int)) + 1))] rfl z40_2 ?_; (with_reducible refine (spec_l1Cur_pick.calls gb748 l0 t756 t757 (wrap64 (((t749.size : Int) + (t750.size : Int)) + 1)) t761 t762 t763 w _ ?side1 ?side2 A16.out).mono ?_); (case side1 => repeat (first | (with_reducible first | exact HI748.out | apply IsS83.alloc | apply IsS83.drewN | apply IsS83.drew | apply IsS83.set_1 | apply IsS83.set_2 | refine IsS83.far ?_ NB748_754.out _) | exact HI748.out)); (case side2 => repeat (first | (with_reducible first | exact HB.out | apply below_alloc | apply pw_below_drewN | apply below_drew1 | refine below_set ?_ (IsS83.ge HI748.out) | refine below_set ?_ GE754.out) | exact HB.out)); rintro e w19 ⟨rfl, hi, hb, hk⟩; refine ⟨_, rfl, ?_⟩; have n0_ := Aside0.mk (KeepBut.blk hk (g' := gb754) (o := .cells #[.string t749, .string t750, .int .i64 t751] 42 (0, 0)) z40_1 NB754_748.out (by simp)); have n1_ := Aside0.mk (hb); have n2_ := Aside0.mk (hi); clear BK754; clear HB; clear HI748; have BK754 := n0_; have HB := n1_; have HI748 := n2_; clear n0_ n1_ n2_; (try clear hb); (try clear hb2); (try clear hk); (try clear hi)))
              go_meet
              case rel => exact ⟨_, ((t749 ++ t750).extract 0 (t761 : Int).toNat), (t762), (t763), (by first | rfl | (simp; done) | (simp [*]; done)), H', ⟨by first | omega | exact Nat.le_refl _⟩, ⟨z40_1⟩, ⟨z40_3⟩, ⟨z40_0⟩⟩
            · rw [if_neg c18] at H
              exact absurd H (by simp)
          · rw [if_neg c17] at H
            exact absurd H (by simp)
        · rw [if_neg c15] at H
          have c15b0 : (t755 == 1) = false := beq_eq_false_iff_ne.mpr c15
          have c15b1 : (t755 != 1) = true := bne_iff_ne.mpr c15
          by_cases c20 : t755 = 2
          · rw [if_pos c20] at H
            have c20b0 : (t755 == 2) = true := beq_iff_eq.mpr c20
            have c20b1 : (t755 != 2) = false := bne_eq_false_iff_eq.mpr c20
            clear c20
            replace H := Option.bind_eq_some_iff.mp H
            obtain ⟨⟨t764, t765, t766⟩, A210, H⟩ := H
            replace H : ((spec_l1Cur_logRecord.f l0 t765 t766).bind fun bt767 => ((spec_l12Line.f k t764 bt767.1 bt767.2.1).bind fun t771 => (if (t749.size + t750.size) + t771.size ≤ 9223372036854775807 then (spec_DrawRecoverLog.j0 k ((t749 ++ t750) ++ t771) l0 bt767.2.2.1 bt767.2.2.2) else (none)))) = some r := H
            have A21 := Aside0.mk A210
            clear A210
            replace H := Option.bind_eq_some_iff.mp H
            obtain ⟨⟨t767, t768, t769, t770⟩, A220, H⟩ := H
            replace H : ((spec_l12Line.f k t764 t767 t768).bind fun t771 => (if (t749.size + t750.size) + t771.size ≤ 9223372036854775807 then (spec_DrawRecoverLog.j0 k ((t749 ++ t750) ++ t771) l0 t769 t770) else (none))) = some r := H
            have A22 := Aside0.mk A220
            clear A220
            replace H := Option.bind_eq_some_iff.mp H
            obtain ⟨t771, A230, H⟩ := H
            replace H : (if (t749.size + t750.size) + t771.size ≤ 9223372036854775807 then (spec_DrawRecoverLog.j0 k ((t749 ++ t750) ++ t771) l0 t769 t770) else (none)) = some r := H
            have A23 := Aside0.mk A230
            clear A230
            by_cases c24 : (t749.size + t750.size) + t771.size ≤ 9223372036854775807
            · rw [if_pos c24] at H
              have c24b0 := eq_true c24
              have c24b1 : decide ((t749.size + t750.size) + t771.size ≤ 9223372036854775807) = true := decide_eq_true c24
              try have c24b2 : (9223372036854775807 < (t749.size + t750.size) + t771.size) = False := eq_false (Nat.not_lt.2 c24)
              have H' := Aside0.mk H
              clear H
              go_wp2_with (first | ((with_reducible refine gate_callee (f := 69) rfl ?_); refine goesL_ (some 36) rfl rfl Tryd.func69 (by kernel_rfl) rfl #[.pointer (some ⟨gb748, 0, none⟩), .int .i64 4] rfl z40_2 ?_; (with_reducible refine (spec_l1Cur_pick.calls gb748 l0 t756 t757 4 t764 t765 t766 w _ ?side1 ?side2 A21.out).mono ?_); (case side1 => repeat (first | (with_reducible first | exact HI748.out | apply IsS83.alloc | apply IsS83.drewN | apply IsS83.drew | apply IsS83.set_1 | apply IsS83.set_2 | refine IsS83.far ?_ NB748_754.out _) | exact HI748.out)); (case side2 => repeat (first | (with_reducible first | exact HB.out | apply below_alloc | apply pw_below_drewN | apply below_drew1 | refine below_set ?_ (IsS83.ge HI748.out) | refine below_set ?_ GE754.out) | exact HB.out)); rintro e w25 ⟨rfl, hi, hb, hk⟩; refine ⟨_, rfl, ?_⟩; have n0_ := Aside0.mk (KeepBut.blk hk (g' := gb754) (o := .cells #[.string t749, .string t750, .int .i64 t751] 42 (0, 0)) z40_1 NB754_748.out (by simp)); have n1_ := Aside0.mk (hb); have n2_ := Aside0.mk (hi); clear BK754; clear HB; clear HI748; have BK754 := n0_; have HB := n1_; have HI748 := n2_; clear n0_ n1_ n2_; (try clear hb); (try clear hb2); (try clear hk); (try clear hi)) | ((with_reducible refine gate_callee (f := 85) rfl ?_); refine goesL_ (some 38) rfl rfl Tryd.func85 (by kernel_rfl) rfl #[.pointer (some ⟨gb748, 0, none⟩)] rfl z40_2 ?_; (with_reducible refine (spec_l1Cur_logRecord.calls gb748 l0 t765 t766 t767 t768 t769 t770 w _ ?side1 ?side2 A22.out).mono ?_); (case side1 => repeat (first | (with_reducible first | exact HI748.out | apply IsS83.alloc | apply IsS83.drewN | apply IsS83.drew | apply IsS83.set_1 | apply IsS83.set_2 | refine IsS83.far ?_ NB748_754.out _) | exact HI748.out)); (case side2 => repeat (first | (with_reducible first | exact HB.out | apply below_alloc | apply pw_below_drewN | apply below_drew1 | refine below_set ?_ (IsS83.ge HI748.out) | refine below_set ?_ GE754.out) | exact HB.out)); rintro e w26 ⟨rfl, hi, hb, hk⟩; refine ⟨_, rfl, ?_⟩; have n0_ := Aside0.mk (KeepBut.blk hk (g' := gb754) (o := .cells #[.string t749, .string t750, .int .i64 t751] 42 (0, 0)) z40_1 NB754_748.out (by simp)); have n1_ := Aside0.mk (hb); have n2_ := Aside0.mk (hi); clear BK754; clear HB; clear HI748; have BK754 := n0_; have HB := n1_; have HI748 := n2_; clear n0_ n1_ n2_; (try clear hb); (try clear hb2); (try clear hk); (try clear hi)) | ((with_reducible refine gate_callee (f := 76) rfl ?_); refine goesL_ (some 39) rfl rfl Tryd.func76 (by kernel_rfl) rfl #[.int .i64 t764, .agg #[.string t767, .string t768]] rfl z40_2 ?_; (with_reducible refine (spec_l12Line.calls k t764 t767 t768 t771 _ A23.out).mono ?_); rintro e w27 ⟨rfl, hb⟩; refine ⟨_, rfl, ?_⟩; have n0_ := Aside0.mk (IsS83.below z40_3 hb); have n1_ := Aside0.mk (blk_below (g := gb754) (o := .cells #[.string t749, .string t750, .int .i64 t751] 42 (0, 0)) z40_1 hb); have n2_ := Aside0.mk (below_step z40_0 hb); clear HI748; clear BK754; clear HB; have HI748 := n0_; have BK754 := n1_; have HB := n2_; clear n0_ n1_ n2_; (try clear hb); (try clear hb2); (try clear hk); (try clear hi)))
              go_meet
              case rel => exact ⟨_, ((t749 ++ t750) ++ t771), (t769), (t770), (by first | rfl | (simp; done) | (simp [*]; done)), H', ⟨by first | omega | exact Nat.le_refl _⟩, ⟨z40_1⟩, ⟨z40_3⟩, ⟨z40_0⟩⟩
            · rw [if_neg c24] at H
              exact absurd H (by simp)
          · rw [if_neg c20] at H
            have c20b0 : (t755 == 2) = false := beq_eq_false_iff_ne.mpr c20
            have c20b1 : (t755 != 2) = true := bne_iff_ne.mpr c20
            have H' := Aside0.mk H
            clear H
            go_wp2
            go_meet
            case rel => exact ⟨_, (t749 ++ t750), (t756), (t757), (by first | rfl | (simp; done) | (simp [*]; done)), H', ⟨by first | omega | exact Nat.le_refl _⟩, ⟨z40_1⟩, ⟨z40_3⟩, ⟨z40_0⟩⟩
    case rest =>
      clear HC5
      try clear c1
      try clear c2
      try clear p2
      try clear c3
      try clear c3b0
      try clear c3b1
      try clear c3b2
      try clear c5
      try clear c6
      try clear p6
      try clear c7
      try clear c8
      try clear c9
      try clear c12
      try clear c12b0
      try clear c12b1
      try clear c15
      try clear c15b0
      try clear c15b1
      try clear c17
      try clear c17b0
      try clear c17b1
      try clear c18
      try clear c18b0
      try clear c18b1
      try clear c20
      try clear c20b0
      try clear c20b1
      try clear c24
      try clear c24b0
      try clear c24b1
      try clear c24b2
      try clear hcz10_0
      try clear hcz10_1
      try clear hcz10_2
      try clear hfz10_0
      try clear hfz10_1
      try clear hfz10_2
      obtain ⟨kq, x5_4, x749001_4, x749002_4, rfl, HA, HJ4, BK754, HI748, HB⟩ := hcut
      cases kq with
      | zero => exact absurd HA.out (by simp [spec_DrawRecoverLog.j0])
      | succ kj4 =>
        have H := HA.out
        clear HA
        simp only [spec_DrawRecoverLog.j0] at H
        replace H := Option.bind_eq_some_iff.mp H
        obtain ⟨⟨t772, t773, t774⟩, A280, H⟩ := H
        replace H : (if t772 = true then ((spec_l1Cur_pick.f l0 t773 t774 2).bind fun bt775 => (if 0 ≤ (wrap64 (30000 + bt775.1)) then (if (wrap64 (30000 + bt775.1) : Int).toNat ≤ 281474976710656 then (some (strOfNums (List.replicate (wrap64 (30000 + bt775.1) : Int).toNat 0))) else (none)) else (none))) else (some x5_4)) = some r := H
        have A28 := Aside0.mk A280
        clear A280
        by_cases c29 : t772 = true
        · subst c29
          have H1 : ((spec_l1Cur_pick.f l0 t773 t774 2).bind fun bt775 => (if 0 ≤ (wrap64 (30000 + bt775.1)) then (if (wrap64 (30000 + bt775.1) : Int).toNat ≤ 281474976710656 then (some (strOfNums (List.replicate (wrap64 (30000 + bt775.1) : Int).toNat 0))) else (none)) else (none))) = some r := by rw [if_pos rfl] at H; exact H
          clear H
          have H := H1
          clear H1
          replace H := Option.bind_eq_some_iff.mp H
          obtain ⟨⟨t775, t776, t777⟩, A300, H⟩ := H
          replace H : (if 0 ≤ (wrap64 (30000 + t775)) then (if (wrap64 (30000 + t775) : Int).toNat ≤ 281474976710656 then (some (strOfNums (List.replicate (wrap64 (30000 + t775) : Int).toNat 0))) else (none)) else (none)) = some r := H
          have A30 := Aside0.mk A300
          clear A300
          obtain ⟨ji31, hji31⟩ : ∃ j_ : Int, (wrap64 (30000 + t775)) = j_ := ⟨_, rfl⟩
          replace H : (if 0 ≤ (ji31) then (if (ji31 : Int).toNat ≤ 281474976710656 then (some (strOfNums (List.replicate (ji31 : Int).toNat 0))) else (none)) else (none)) = some r := by first | (rw [hji31] at H; exact H) | (simp only [hji31] at H ⊢; exact H)
          (try rw [hji31] at A28)
          (try rw [hji31] at A30)
          have hji31w : (IntKind.i64.wrap (30000 + t775)) = ji31 := (i64_w _).trans hji31
          by_cases c32 : 0 ≤ (ji31)
          · rw [if_pos c32] at H
            have c32b0 := eq_true c32
            have c32b1 : decide (0 ≤ (ji31)) = true := decide_eq_true c32
            clear c32
            by_cases c33 : (ji31 : Int).toNat ≤ 281474976710656
            · rw [if_pos c33] at H
              have c33b0 := eq_true c33
              have c33b1 : decide ((ji31 : Int).toNat ≤ 281474976710656) = true := decide_eq_true c33
              clear c33
              obtain ⟨y778, hy778⟩ : ∃ y_ : List Int, y_ = (List.replicate (ji31 : Int).toNat 0) := ⟨_, rfl⟩
              replace H : (some (strOfNums y778)) = some r := by first | (rw [hy778]; with_reducible exact H) | (have H2_ := (Option.bind_some _ _).symm.trans H; rw [hy778]; with_reducible exact H2_) | (have H2_ := (Option.bind_some _ _).symm.trans H; with_reducible exact H2_) | with_reducible exact H | (rw [hy778]; exact H) | exact H
              have Ny778 := Aside0.mk hy778
              clear hy778
              obtain rfl := Option.some.inj H
              go_wp2_with (first | ((with_reducible refine gate_callee (f := 70) rfl ?_); refine goesL_ (some 42) rfl rfl Tryd.func70 (by kernel_rfl) rfl #[.pointer (some ⟨gb748, 0, none⟩), .int .i64 40] rfl z40_2 ?_; (with_reducible refine (spec_l1Cur_one.calls gb748 l0 x749001_4 x749002_4 40 true t773 t774 w _ ?side1 ?side2 A28.out).mono ?_); (case side1 => repeat (first | (with_reducible first | exact HI748.out | apply IsS83.alloc | apply IsS83.drewN | apply IsS83.drew | apply IsS83.set_1 | apply IsS83.set_2 | refine IsS83.far ?_ NB748_754.out _) | exact HI748.out)); (case side2 => repeat (first | (with_reducible first | exact HB.out | apply below_alloc | apply pw_below_drewN | apply below_drew1 | refine below_set ?_ (IsS83.ge HI748.out) | refine below_set ?_ GE754.out) | exact HB.out)); rintro e w34 ⟨rfl, hi, hb, hk⟩; refine ⟨_, rfl, ?_⟩; have n0_ := Aside0.mk (KeepBut.blk hk (g' := gb754) (o := .cells #[.string t749, .string t750, .int .i64 t751] 42 (0, 0)) z40_1 NB754_748.out (by simp)); have n1_ := Aside0.mk (hb); have n2_ := Aside0.mk (hi); clear BK754; clear HB; clear HI748; have BK754 := n0_; have HB := n1_; have HI748 := n2_; clear n0_ n1_ n2_; (try clear hb); (try clear hb2); (try clear hk); (try clear hi)) | ((with_reducible refine gate_callee (f := 69) rfl ?_); refine goesL_ (some 44) rfl rfl Tryd.func69 (by kernel_rfl) rfl #[.pointer (some ⟨gb748, 0, none⟩), .int .i64 2] rfl z40_2 ?_; (with_reducible refine (spec_l1Cur_pick.calls gb748 l0 t773 t774 2 t775 t776 t777 w _ ?side1 ?side2 A30.out).mono ?_); (case side1 => repeat (first | (with_reducible first | exact HI748.out | apply IsS83.alloc | apply IsS83.drewN | apply IsS83.drew | apply IsS83.set_1 | apply IsS83.set_2 | refine IsS83.far ?_ NB748_754.out _) | exact HI748.out)); (case side2 => repeat (first | (with_reducible first | exact HB.out | apply below_alloc | apply pw_below_drewN | apply below_drew1 | refine below_set ?_ (IsS83.ge HI748.out) | refine below_set ?_ GE754.out) | exact HB.out)); rintro e w35 ⟨rfl, hi, hb, hk⟩; refine ⟨_, rfl, ?_⟩; have n0_ := Aside0.mk (KeepBut.blk hk (g' := gb754) (o := .cells #[.string t749, .string t750, .int .i64 t751] 42 (0, 0)) z40_1 NB754_748.out (by simp)); have n1_ := Aside0.mk (hb); have n2_ := Aside0.mk (hi); clear BK754; clear HB; clear HI748; have BK754 := n0_; have HB := n1_; have HI748 := n2_; clear n0_ n1_ n2_; (try clear hb); (try clear hb2); (try clear hk); (try clear hi)) | ((with_reducible refine gate_dst (N := 46) rfl ?_); refine Kd.R_make (Kd.int .u8) _ 5 rfl (N := 46) rfl 22 _ _ rfl ji31 rfl rfl Tryd.underlying22 (.int .u8 0) 1 info5 rfl (by decide) (by omega) 0 (ok := fun _ => True) (okp := fun _ => True) rfl (fun _ hk => hk) trivial (of_decide_eq_true (by first | (with_reducible assumption) | assumption)) (Nat.le_trans (Nat.mul_le_mul_right _ (of_decide_eq_true (by first | (with_reducible assumption) | assumption) : ji31.toNat ≤ 281474976710656)) (by omega)) (Below.refl _ _) (Nat.le_refl _) ?_; intro v779 w36 ho37 hb hg_ hnew_; clear hg_ hnew_; (first | rw [← Ny778.out] at ho37 | (simp only [Int.reduceToNat] at ho37; rw [← Ny778.out] at ho37)); have n0_ := Aside0.mk (Kd.R_lower ho37 (below_size z40_0)); have n1_ := Aside0.mk (blk_below (g := gb754) (o := .cells #[.string t749, .string t750, .int .i64 t751] 42 (0, 0)) z40_1 hb); have n2_ := Aside0.mk (IsS83.below z40_3 hb); have n3_ := Aside0.mk (below_step z40_0 hb); clear BK754; clear HI748; clear HB; have HO780 := n0_; have BK754 := n1_; have HI748 := n2_; have HB := n3_; clear n0_ n1_ n2_ n3_; clear hb ho37; have hcv38 := own_string (P := Tryd.prog) Tryd.underlying22 Tryd.underlying5 Tryd.underlying9 (Kd.own_of_R HO780.out)))
              go_ret
              exact ⟨by first | rfl | (simp [errW_none, errW_some] <;> rfl) | (simp only [← hji31]; first | rfl | (simp [errW_none, errW_some] <;> rfl)) | (simp [*, errW_none, errW_some] <;> rfl), z40_0⟩
            · rw [if_neg c33] at H
              exact absurd H (by simp)
          · rw [if_neg c32] at H
            exact absurd H (by simp)
        · replace c29 := Bool.eq_false_iff.mpr c29
          subst c29
          have H1 : (some x5_4) = some r := by rw [if_neg (show ¬ (false = true) by decide)] at H; exact H
          clear H
          have H := H1
          clear H1
          obtain rfl := Option.some.inj H
          go_wp2_with (first | ((with_reducible refine gate_callee (f := 70) rfl ?_); refine goesL_ (some 42) rfl rfl Tryd.func70 (by kernel_rfl) rfl #[.pointer (some ⟨gb748, 0, none⟩), .int .i64 40] rfl z40_2 ?_; (with_reducible refine (spec_l1Cur_one.calls gb748 l0 x749001_4 x749002_4 40 false t773 t774 w _ ?side1 ?side2 A28.out).mono ?_); (case side1 => repeat (first | (with_reducible first | exact HI748.out | apply IsS83.alloc | apply IsS83.drewN | apply IsS83.drew | apply IsS83.set_1 | apply IsS83.set_2 | refine IsS83.far ?_ NB748_754.out _) | exact HI748.out)); (case side2 => repeat (first | (with_reducible first | exact HB.out | apply below_alloc | apply pw_below_drewN | apply below_drew1 | refine below_set ?_ (IsS83.ge HI748.out) | refine below_set ?_ GE754.out) | exact HB.out)); rintro e w39 ⟨rfl, hi, hb, hk⟩; refine ⟨_, rfl, ?_⟩; have n0_ := Aside0.mk (KeepBut.blk hk (g' := gb754) (o := .cells #[.string t749, .string t750, .int .i64 t751] 42 (0, 0)) z40_1 NB754_748.out (by simp)); have n1_ := Aside0.mk (hb); have n2_ := Aside0.mk (hi); clear BK754; clear HB; clear HI748; have BK754 := n0_; have HB := n1_; have HI748 := n2_; clear n0_ n1_ n2_; (try clear hb); (try clear hb2); (try clear hk); (try clear hi)))
          go_ret
          exact ⟨by first | rfl | (simp [errW_none, errW_some] <;> rfl) | (simp [*, errW_none, errW_some] <;> rfl), z40_0⟩
  · rw [if_neg c3] at H
    exact absurd H (by simp)
end Go.Proofs.YtgclcjohnnpejaaDoor.Pr
end

section
namespace Go.Proofs.YtgclcjohnnpejaaDoor.Pr
open Go.RowKit Go.Proofs.YtgclcjohnnpejaaDoorW.PrintWords Go.Proofs.YtgclcjohnnpejaaDoorW.PrintLast Go.Proofs.YtgclcjohnnpejaaDoorW.PrintMore
set_option linter.unusedVariables false
set_option linter.unusedSimpArgs false
def tornL (s : ByteArray) : List Int := (bytesOf s).set (s.size - 1) ((255 - bt s ((s.size - 1 : Nat) : Int)) % 256)
def crashed (s : ByteArray) (torn more : Bool) : ByteArray := if torn && more then strOfNums (tornL s) else strOfNums (bytesOf s)
theorem bytesOf_get (s : ByteArray) (j : Nat) (h : j < s.size) : (bytesOf s).getD j 0 = ((s.data.toList.getD j 0).toNat : Int) := by
  have h' : j < s.data.toList.length := by rw [data_length]; exact h
  simp [bytesOf, List.getD_eq_getElem?_getD, List.getElem?_eq_getElem h']
theorem back_whole (W : World) (s : ByteArray) (n c : Nat) (hn : n = s.size) : (convert 22 9 (.slice (some ⟨W.heap.size, 0, none⟩) n c)).run Tryd.prog (Lib.bytesWorld W 5 s) = .ok (.string (strOfNums (bytesOf s))) (Lib.bytesWorld W 5 s) :=
  run_convert_bytes_arg _ 22 5 Tryd.underlying22 Tryd.underlying5 _ 0 n c (bytesOf s) (by rw [bytesOf_length, hn]) (fun i hi => by
    rw [Nat.zero_add, Lib.bytesWorld_cell W 5 s i (by omega), bytesOf_get s i (by omega)]) 9 Tryd.underlying9
theorem back_torn (W : World) (s : ByteArray) (n c : Nat) (hn : n = s.size) (v : Int) (h0 : 0 < n) (i : Nat) (hi : i = n - 1) : (convert 22 9 (.slice (some ⟨W.heap.size, 0, none⟩) n c)).run Tryd.prog ((Lib.bytesWorld W 5 s).setCell ⟨W.heap.size, i, none⟩ (.int .u8 v)) = .ok (.string (strOfNums ((bytesOf s).set (s.size - 1) v))) ((Lib.bytesWorld W 5 s).setCell ⟨W.heap.size, i, none⟩ (.int .u8 v)) := by
  subst hi
  refine run_convert_bytes_arg _ 22 5 Tryd.underlying22 Tryd.underlying5 _ 0 n c ((bytesOf s).set (s.size - 1) v) (by rw [List.length_set, bytesOf_length, hn]) (fun i hi => ?_) 9 Tryd.underlying9
  rw [Nat.zero_add]
  by_cases e : i = n - 1
  · subst e
    have hc := Lib.bytesWorld_cell W 5 s (n - 1) (by omega)
    rw [World.cell?_setCell_same (h := hc), List.getD_eq_getElem?_getD, hn, List.getElem?_set_self (by rw [bytesOf_length]; omega)]
    rfl
  · have hne : (⟨W.heap.size, n - 1, none⟩ : Addr) ≠ ⟨W.heap.size, i, none⟩ := by
      intro h
      injection h with _ h
      exact e h.symm
    rw [World.cell?_setCell_other (h := hne), Lib.bytesWorld_cell W 5 s i (by omega), ← bytesOf_get s i (by omega), List.getD_eq_getElem?_getD, List.getD_eq_getElem?_getD, List.getElem?_set_ne (by omega)]
theorem bytes_frozen (W : World) (s : ByteArray) (i : Nat) (h : i < s.size) : (Lib.bytesWorld W 5 s).frozen? ⟨W.heap.size, i, none⟩ = false := by
  unfold World.frozen?
  rw [Lib.bytesWorld_at_new]
  have : s.size ≤ (Lib.bytesCells W 5 s).size := by
    unfold Lib.bytesCells
    rw [Array.size_append, Array.size_map]
    show s.data.size ≤ _
    omega
  simp
  omega
theorem bytes_last (W : World) (s : ByteArray) (i : Nat) (h : i < s.size) : (Lib.bytesWorld W 5 s).cell? ⟨W.heap.size, i, none⟩ = some (.int .u8 (bt s (i : Int))) := by
  rw [Lib.bytesWorld_cell W 5 s i h, ← bytesOf_get s i h]
  have := rd_bytesOf s (i : Int)
  unfold rd at this
  rw [Int.toNat_natCast] at this
  rw [this]
theorem zW_0 {P : Prop} (h : P := by repeat (first | (with_reducible first | exact HB.out | apply below_alloc | apply pw_below_drewN | apply below_drew1 | refine below_set ?_ GE216.out) | exact HB.out)) : P := h
theorem zW_1 {P : Prop} (h : P := by repeat (first | (with_reducible first | exact HB.out | apply below_alloc | apply pw_below_drewN | apply below_drew1) | exact HB.out)) : P := h
theorem zW_2 {P : Prop} (h : P := by (with_reducible repeat (first | refine blk_drewN ?_ _ | refine blk_drew ?_ | refine blk_alloc ?_ _)); exact BK216.out) : P := h
theorem zW_3 {P : Prop} (h : P := by repeat (first | (with_reducible first | exact HB.out | apply below_alloc | apply pw_below_drewN | apply below_drew1 | refine below_set ?_ GE163.out) | exact HB.out)) : P := h
theorem zW_4 {P : Prop} (h : P := by (with_reducible repeat (first | refine blk_drewN ?_ _ | refine blk_drew ?_ | refine blk_alloc ?_ _)); exact BK163.out) : P := h
theorem zW_5 {P : Prop} (h : P := by rw [hg]; exact (below_size zW_1)) : P := h
def spec_CrashLog.j0 : Nat → Int → Bool → ByteArray → ByteArray → Int → Bool → Option (ByteArray × Bool)
  | 0, _, _, _, _, _, _ => none
  | k + 1, x1, x19, x164000, x164001, x164002, xt => if x19 = true then (some ((⟨#[]⟩ : ByteArray), false)) else (if 0 ≤ x1 then (if x1 ≤ (x164001.size : Int) then (if x164000.size + (crashed (x164001.extract 0 (x1 : Int).toNat) xt (decide (x1 > 0))).size ≤ 9223372036854775807 then (some (x164000 ++ crashed (x164001.extract 0 (x1 : Int).toNat) xt (decide (x1 > 0)), true)) else (none)) else (none)) else (none))
def spec_CrashLog.f (k : Nat) (a0_0 : ByteArray) (a0_1 : ByteArray) (a0_2 : Int) (a1 : Int) (a2 : Bool) : Option (ByteArray × Bool) := (spec_l12Valid.f k a0_0 a0_1 a0_2).bind fun t164 => (if t164 = true then ((spec_l1In.f a1 0 (a0_1.size : Int)).bind fun t165 => (spec_CrashLog.j0 k a1 (!t165) a0_0 a0_1 a0_2 a2)) else (spec_CrashLog.j0 k a1 true a0_0 a0_1 a0_2 a2))
theorem spec_CrashLog.mono_l : ∀ k, (∀ y0 y1 y2 y3 y4 y5, LeO (spec_CrashLog.j0 k y0 y1 y2 y3 y4 y5) (spec_CrashLog.j0 (k + 1) y0 y1 y2 y3 y4 y5))
  | 0 => fun _ _ _ _ _ _ r h => by simp [spec_CrashLog.j0] at h
  | k + 1 => by
    have ih0 := spec_CrashLog.mono_l k
    · intro y0 y1 y2 y3 y4 y5
      unfold spec_CrashLog.j0
      repeat' first
      | (with_reducible exact ih0 _ _ _ _ _ _)
      | (with_reducible exact spec_l12Valid.mono _ _ _ _)
      | (with_reducible exact LeO.refl _)
      | (with_reducible exact LeO.none _)
      | (with_reducible refine LeO.ite ?_ ?_)
      | (with_reducible refine LeO.bind ?_ (fun _ => ?_))
      | exact ih0 _ _ _ _ _ _
      | exact spec_l12Valid.mono _ _ _ _
      | exact LeO.none _
      | refine LeO.ite ?_ ?_
      | refine LeO.bind ?_ (fun _ => ?_)
theorem spec_CrashLog.mono : ∀ a0 a1 a2 a3 a4 k, LeO (spec_CrashLog.f k a0 a1 a2 a3 a4) (spec_CrashLog.f (k + 1) a0 a1 a2 a3 a4) := by
  intro a0 a1 a2 a3 a4 k
  have ih0 := spec_CrashLog.mono_l k
  unfold spec_CrashLog.f
  repeat' first
      | (with_reducible exact ih0 _ _ _ _ _ _)
      | (with_reducible exact spec_l12Valid.mono _ _ _ _)
      | (with_reducible exact LeO.refl _)
      | (with_reducible exact LeO.none _)
      | (with_reducible refine LeO.ite ?_ ?_)
      | (with_reducible refine LeO.bind ?_ (fun _ => ?_))
      | exact ih0 _ _ _ _ _ _
      | exact spec_l12Valid.mono _ _ _ _
      | exact LeO.none _
      | refine LeO.ite ?_ ?_
      | refine LeO.bind ?_ (fun _ => ?_)
set_option maxHeartbeats 8000000 in
set_option maxRecDepth 100000 in
theorem spec_CrashLog.calls (k : Nat) (a0_0 : ByteArray) (a0_1 : ByteArray) (a0_2 : Int) (a1 : Int) (a2 : Bool) (r1 : ByteArray) (r2 : Bool) (w : World) (h : spec_CrashLog.f k a0_0 a0_1 a0_2 a1 a2 = some (r1, r2)) :
    Calls Tryd.prog 34 #[.agg #[.string a0_0, .string a0_1, .int .i64 a0_2], .int .i64 a1, .bool a2] w fun e w' => e = .returned (.tuple #[.string r1, .bool r2]) ∧ Below w.heap.size w w' := by
  have hu42 := Tryd.underlying42
  have HB := Aside0.mk (Below.refl w.heap.size w)
  have H : ((spec_l12Valid.f k a0_0 a0_1 a0_2).bind fun t164 => (if t164 = true then ((spec_l1In.f a1 0 (a0_1.size : Int)).bind fun t165 => (spec_CrashLog.j0 k a1 (!t165) a0_0 a0_1 a0_2 a2)) else (spec_CrashLog.j0 k a1 true a0_0 a0_1 a0_2 a2))) = some (r1, r2) := h
  clear h
  have HC4 := Aside0.mk H
  clear H
  go_enter Tryd.func34, Tryd.ntmps34
  go_upto_region 1 with (first | ((with_reducible refine gate_dst (N := 3) rfl ?_); (try (refine gate_guard (by rfl) ?_; dsimp only)); refine box_event ?hg (N := 3) ?hd (cs := #[.string a0_0, .string a0_1, .int .i64 a0_2]) (t := 42) ?hr ?_; (case hd => rfl); (case hg => rfl); (case hr => first | (go_simp; done) | (go_simp; rfl)); intro gb163 hg w5 hbox hb; have n0_ := Aside0.mk (below_step zW_1 hb); have n1_ := Aside0.mk (hbox); have n2_ := Aside0.mk ((zW_5 : w.heap.size ≤ gb163)); have n3_ := Aside0.mk ((zW_5 : w.heap.size ≤ gb163)); clear HB; have HB := n0_; have BK163 := n1_; have GW163 := n2_; have GE163 := n3_; clear n0_ n1_ n2_ n3_; clear hb hbox hg))
  (try simp only [Act.put, List.setIfInBounds_toArray, List.set_cons_zero, List.set_cons_succ])
  go_cut [19] (fun v19 wc => ∃ (kq : Nat) (x19_3 : Bool), v19 = .bool x19_3 ∧ Aside0 (spec_CrashLog.j0 kq a1 x19_3 a0_0 a0_1 a0_2 a2 = some (r1, r2)) ∧ Aside0 (kq ≤ k) ∧ Aside0 (wc.heap[gb163]? = some (.cells #[.string a0_0, .string a0_1, .int .i64 a0_2] 42 (0, 0))) ∧ Aside0 (Below w.heap.size w wc))
  case first =>
    have H := HC4.out
    clear HC4
    replace H := Option.bind_eq_some_iff.mp H
    obtain ⟨t164, A60, H⟩ := H
    replace H : (if t164 = true then ((spec_l1In.f a1 0 (a0_1.size : Int)).bind fun t165 => (spec_CrashLog.j0 k a1 (!t165) a0_0 a0_1 a0_2 a2)) else (spec_CrashLog.j0 k a1 true a0_0 a0_1 a0_2 a2)) = some (r1, r2) := H
    have A6 := Aside0.mk A60
    clear A60
    by_cases c7 : t164 = true
    · subst c7
      have H1 : ((spec_l1In.f a1 0 (a0_1.size : Int)).bind fun t165 => (spec_CrashLog.j0 k a1 (!t165) a0_0 a0_1 a0_2 a2)) = some (r1, r2) := by rw [if_pos rfl] at H; exact H
      clear H
      have H := H1
      clear H1
      replace H := Option.bind_eq_some_iff.mp H
      obtain ⟨t165, A80, H⟩ := H
      replace H : (spec_CrashLog.j0 k a1 (!t165) a0_0 a0_1 a0_2 a2) = some (r1, r2) := H
      have A8 := Aside0.mk A80
      clear A80
      have H' := Aside0.mk H
      clear H
      have hcz9_0 : w5.cell? ⟨gb163, 0, none⟩ = some (.string a0_0) := (blk_cell BK163.out 0).trans rfl
      have hcz9_1 : w5.cell? ⟨gb163, 1, none⟩ = some (.string a0_1) := (blk_cell BK163.out 1).trans rfl
      have hcz9_2 : w5.cell? ⟨gb163, 2, none⟩ = some (.int .i64 a0_2) := (blk_cell BK163.out 2).trans rfl
      have hfz9_0 := blk_frozen BK163.out 0
      have hfz9_1 := blk_frozen BK163.out 1
      have hfz9_2 := blk_frozen BK163.out 2
      go_wp2_with (first | ((with_reducible refine gate_callee (f := 81) rfl ?_); refine goesL_ (some 10) rfl rfl Tryd.func81 (by kernel_rfl) rfl #[.agg #[.string a0_0, .string a0_1, .int .i64 a0_2]] rfl (by (try simp only [List.map_toArray, List.map_cons, List.map_nil]); first | done | rfl | (simp only [List.length_drop, List.length_take]; rfl)) ?_; (with_reducible refine (spec_l12Valid.calls k a0_0 a0_1 a0_2 true _ A6.out).mono ?_); rintro e w10 ⟨rfl, hb⟩; refine ⟨_, rfl, ?_⟩; have n0_ := Aside0.mk (blk_below (g := gb163) (o := .cells #[.string a0_0, .string a0_1, .int .i64 a0_2] 42 (0, 0)) zW_4 hb); have n1_ := Aside0.mk (below_step zW_3 hb); clear BK163; clear HB; have BK163 := n0_; have HB := n1_; clear n0_ n1_; (try clear hb); (try clear hb2); (try clear hk); (try clear hi); have hcz11_0 : w10.cell? ⟨gb163, 0, none⟩ = some (.string a0_0) := (blk_cell BK163.out 0).trans rfl; have hcz11_1 : w10.cell? ⟨gb163, 1, none⟩ = some (.string a0_1) := (blk_cell BK163.out 1).trans rfl; have hcz11_2 : w10.cell? ⟨gb163, 2, none⟩ = some (.int .i64 a0_2) := (blk_cell BK163.out 2).trans rfl; have hfz11_0 := blk_frozen BK163.out 0; have hfz11_1 := blk_frozen BK163.out 1; have hfz11_2 := blk_frozen BK163.out 2) | (go_at_call 74; (with_reducible refine (spec_l1In.calls a1 0 (a0_1.size : Int) t165 _ A8.out).mono ?_); rintro e w' ⟨rfl, ⟨nd, rfl⟩⟩))
      go_meet
      case rel => exact ⟨_, (!t165), (by first | rfl | (simp; done) | (simp [*]; done)), H', ⟨by first | omega | exact Nat.le_refl _⟩, ⟨zW_4⟩, ⟨zW_3⟩⟩
    · replace c7 := Bool.eq_false_iff.mpr c7
      subst c7
      have H1 : (spec_CrashLog.j0 k a1 true a0_0 a0_1 a0_2 a2) = some (r1, r2) := by rw [if_neg (show ¬ (false = true) by decide)] at H; exact H
      clear H
      have H := H1
      clear H1
      have H' := Aside0.mk H
      clear H
      have hcz12_0 : w5.cell? ⟨gb163, 0, none⟩ = some (.string a0_0) := (blk_cell BK163.out 0).trans rfl
      have hcz12_1 : w5.cell? ⟨gb163, 1, none⟩ = some (.string a0_1) := (blk_cell BK163.out 1).trans rfl
      have hcz12_2 : w5.cell? ⟨gb163, 2, none⟩ = some (.int .i64 a0_2) := (blk_cell BK163.out 2).trans rfl
      have hfz12_0 := blk_frozen BK163.out 0
      have hfz12_1 := blk_frozen BK163.out 1
      have hfz12_2 := blk_frozen BK163.out 2
      go_wp2_with (first | ((with_reducible refine gate_callee (f := 81) rfl ?_); refine goesL_ (some 10) rfl rfl Tryd.func81 (by kernel_rfl) rfl #[.agg #[.string a0_0, .string a0_1, .int .i64 a0_2]] rfl (by (try simp only [List.map_toArray, List.map_cons, List.map_nil]); first | done | rfl | (simp only [List.length_drop, List.length_take]; rfl)) ?_; (with_reducible refine (spec_l12Valid.calls k a0_0 a0_1 a0_2 false _ A6.out).mono ?_); rintro e w13 ⟨rfl, hb⟩; refine ⟨_, rfl, ?_⟩; have n0_ := Aside0.mk (blk_below (g := gb163) (o := .cells #[.string a0_0, .string a0_1, .int .i64 a0_2] 42 (0, 0)) zW_4 hb); have n1_ := Aside0.mk (below_step zW_3 hb); clear BK163; clear HB; have BK163 := n0_; have HB := n1_; clear n0_ n1_; (try clear hb); (try clear hb2); (try clear hk); (try clear hi)))
      go_meet
      case rel => exact ⟨_, (true), (by first | rfl | (simp; done) | (simp [*]; done)), H', ⟨by first | omega | exact Nat.le_refl _⟩, ⟨zW_4⟩, ⟨zW_3⟩⟩
  case rest =>
    clear HC4
    try clear p2
    try clear c3
    try clear c7
    try clear c8
    try clear hcz11_0
    try clear hcz11_1
    try clear hcz11_2
    try clear hcz12_0
    try clear hcz12_1
    try clear hcz12_2
    try clear hcz9_0
    try clear hcz9_1
    try clear hcz9_2
    try clear hfz11_0
    try clear hfz11_1
    try clear hfz11_2
    try clear hfz12_0
    try clear hfz12_1
    try clear hfz12_2
    try clear hfz9_0
    try clear hfz9_1
    try clear hfz9_2
    obtain ⟨kq, x19_3, rfl, HA, HJ3, BK163, HB⟩ := hcut
    cases kq with
    | zero => exact absurd HA.out (by simp [spec_CrashLog.j0])
    | succ kj3 =>
      have H := HA.out
      clear HA
      simp only [spec_CrashLog.j0] at H
      by_cases c14 : x19_3 = true
      · subst c14
        have H1 : (some ((⟨#[]⟩ : ByteArray), false)) = some (r1, r2) := by rw [if_pos rfl] at H; exact H
        clear H
        have H := H1
        clear H1
        simp only [Option.some.injEq, Prod.mk.injEq] at H
        obtain ⟨rfl, rfl⟩ := H
        go_wp2
        go_ret2
        exact ⟨by first | rfl | (simp [errW_none, errW_some] <;> rfl) | (simp [*, errW_none, errW_some] <;> rfl), zW_3⟩
      · replace c14 := Bool.eq_false_iff.mpr c14
        subst c14
        have H1 : (if 0 ≤ a1 then (if a1 ≤ (a0_1.size : Int) then (if a0_0.size + (crashed (a0_1.extract 0 (a1 : Int).toNat) a2 (decide (a1 > 0))).size ≤ 9223372036854775807 then (some (a0_0 ++ crashed (a0_1.extract 0 (a1 : Int).toNat) a2 (decide (a1 > 0)), true)) else (none)) else (none)) else (none)) = some (r1, r2) := by rw [if_neg (show ¬ (false = true) by decide)] at H; exact H
        clear H
        have H := H1
        clear H1
        by_cases c15 : 0 ≤ a1
        · rw [if_pos c15] at H
          have c15b0 := eq_true c15
          have c15b1 : decide (0 ≤ a1) = true := decide_eq_true c15
          clear c15
          by_cases c16 : a1 ≤ (a0_1.size : Int)
          · rw [if_pos c16] at H
            have c16b0 := eq_true c16
            have c16b1 : decide (a1 ≤ (a0_1.size : Int)) = true := decide_eq_true c16
            have c17 : a0_0.size + (crashed (a0_1.extract 0 (a1 : Int).toNat) a2 (decide (a1 > 0))).size ≤ 9223372036854775807 := by
              apply Decidable.byContradiction
              intro hc
              rw [if_neg hc] at H
              cases H
            rw [if_pos c17] at H
            simp only [Option.some.injEq, Prod.mk.injEq] at H
            obtain ⟨rfl, rfl⟩ := H
            have kb := fun W => print_bytes (P := Tryd.prog) 9 22 5 Tryd.underlying9 Tryd.underlying22 Tryd.underlying5 (a0_1.extract 0 (a1 : Int).toNat) W
            have hcz0 : wc.cell? ⟨gb163, 0, none⟩ = some (.string a0_0) := (blk_cell BK163.out 0).trans rfl
            have hcz1 : wc.cell? ⟨gb163, 1, none⟩ = some (.string a0_1) := (blk_cell BK163.out 1).trans rfl
            have hcz2 : wc.cell? ⟨gb163, 2, none⟩ = some (.int .i64 a0_2) := (blk_cell BK163.out 2).trans rfl
            have hsz : (a0_1.extract 0 (a1 : Int).toNat).size = a1.toNat := by simp; omega
            have hlt := World.block_lt_of_cell? wc _ hcz0
            have hcw0 : (Lib.bytesWorld wc 5 (a0_1.extract 0 (a1 : Int).toNat)).cell? ⟨gb163, 0, none⟩ = some (.string a0_0) := (Lib.bytesWorld_old wc 5 _ _ hlt).trans hcz0
            have bel := bytes_below HB.out HB.out.size 5 (a0_1.extract 0 (a1 : Int).toNat)
            have hcat : a0_0.size + (crashed (a0_1.extract 0 (a1 : Int).toNat) a2 (decide (a1 > 0))).size ≤ 9223372036854775807 := c17
            cases a2 with
            | false =>
              have ks := back_whole wc (a0_1.extract 0 (a1 : Int).toNat) a1.toNat (grownCap wc a1.toNat 0 5) hsz.symm
              have hcat' : a0_0.size + (strOfNums (bytesOf (a0_1.extract 0 (a1 : Int).toNat))).size ≤ 9223372036854775807 := hcat
              have hcat2 : (9223372036854775807 < a0_0.size + (strOfNums (bytesOf (a0_1.extract 0 (a1 : Int).toNat))).size) = False := eq_false (Nat.not_lt.2 hcat')
              go_wp2
              go_ret2
              exact ⟨by first | rfl | (simp [*, crashed]; done), by first | exact bel | (simp only [World.drewN_zero]; exact bel)⟩
            | true =>
              by_cases c18 : a1 > 0
              · have c18b : decide (a1 > 0) = true := decide_eq_true c18
                have hfz := bytes_frozen wc (a0_1.extract 0 (a1 : Int).toNat) (a1.toNat - 1) (by rw [hsz]; omega)
                have hbt := bytes_last wc (a0_1.extract 0 (a1 : Int).toNat) (a1.toNat - 1) (by rw [hsz]; omega)
                have hcr : crashed (a0_1.extract 0 (a1 : Int).toNat) true (decide (a1 > 0)) = strOfNums (tornL (a0_1.extract 0 (a1 : Int).toNat)) := by rw [c18b]; rfl
                rw [hcr] at hcat
                have hl : (strOfNums (tornL (a0_1.extract 0 (a1 : Int).toNat))).size = a1.toNat := by rw [strOfNums_size, tornL, List.length_set, bytesOf_length, hsz]
                have hw1 : wrap64 (a1 - 1) = a1 - 1 := by
                  have : a1.toNat ≤ 9223372036854775807 := by rw [← hl]; omega
                  unfold wrap64
                  omega
                have hcat2 : (9223372036854775807 < a0_0.size + (strOfNums (tornL (a0_1.extract 0 (a1 : Int).toNat))).size) = False := eq_false (Nat.not_lt.2 hcat)
                have ks := back_torn wc (a0_1.extract 0 (a1 : Int).toNat) a1.toNat (grownCap wc a1.toNat 0 5) hsz.symm ((255 - bt (a0_1.extract 0 (a1 : Int).toNat) ((a1.toNat - 1 : Nat) : Int)) % 256) (by omega) (a1.toNat - 1) rfl
                have ht : (bytesOf (a0_1.extract 0 (a1 : Int).toNat)).set ((a0_1.extract 0 (a1 : Int).toNat).size - 1) ((255 - bt (a0_1.extract 0 (a1 : Int).toNat) ((a1.toNat - 1 : Nat) : Int)) % 256) = tornL (a0_1.extract 0 (a1 : Int).toNat) := by unfold tornL; rw [hsz]
                rw [ht] at ks
                have bel2 := below_set (j := a1.toNat - 1) (v := .int .u8 ((255 - bt (a0_1.extract 0 (a1 : Int).toNat) ((a1.toNat - 1 : Nat) : Int)) % 256)) bel HB.out.size
                go_wp2
                go_ret2
                exact ⟨by rw [hcr]; rfl, bel2⟩
              · have c18b : decide (a1 > 0) = false := decide_eq_false c18
                have hcr : crashed (a0_1.extract 0 (a1 : Int).toNat) true (decide (a1 > 0)) = strOfNums (bytesOf (a0_1.extract 0 (a1 : Int).toNat)) := by rw [c18b]; rfl
                rw [hcr] at hcat
                have ks := back_whole wc (a0_1.extract 0 (a1 : Int).toNat) a1.toNat (grownCap wc a1.toNat 0 5) hsz.symm
                have hcat2 : (9223372036854775807 < a0_0.size + (strOfNums (bytesOf (a0_1.extract 0 (a1 : Int).toNat))).size) = False := eq_false (Nat.not_lt.2 hcat)
                go_wp2
                go_ret2
                exact ⟨rfl, bel⟩
          · rw [if_neg c16] at H
            exact absurd H (by simp)
        · rw [if_neg c15] at H
          exact absurd H (by simp)
def impl_CrashLog.j0 : Nat → Int → Bool → ByteArray → ByteArray → Int → Bool → Option (ByteArray × Bool)
  | 0, _, _, _, _, _, _ => none
  | k + 1, x1, x19, x217000, x217001, x217002, xt => if x19 = true then (some ((⟨#[]⟩ : ByteArray), false)) else (if 0 ≤ x1 then (if x1 ≤ (x217001.size : Int) then (if x217000.size + (x217001.extract 0 (x1 : Int).toNat).size ≤ 9223372036854775807 then (some (crashed (x217000 ++ x217001.extract 0 (x1 : Int).toNat) xt (decide (x1 > 0)), true)) else (none)) else (none)) else (none))
def impl_CrashLog.f (k : Nat) (a0_0 : ByteArray) (a0_1 : ByteArray) (a0_2 : Int) (a1 : Int) (a2 : Bool) : Option (ByteArray × Bool) := (impl_IsValidLog.f k a0_0 a0_1 a0_2).bind fun t217 => (if t217 = true then ((impl_in.f a1 0 (a0_1.size : Int)).bind fun t218 => (impl_CrashLog.j0 k a1 (!t218) a0_0 a0_1 a0_2 a2)) else (impl_CrashLog.j0 k a1 true a0_0 a0_1 a0_2 a2))
theorem impl_CrashLog.mono_l : ∀ k, (∀ y0 y1 y2 y3 y4 y5, LeO (impl_CrashLog.j0 k y0 y1 y2 y3 y4 y5) (impl_CrashLog.j0 (k + 1) y0 y1 y2 y3 y4 y5))
  | 0 => fun _ _ _ _ _ _ r h => by simp [impl_CrashLog.j0] at h
  | k + 1 => by
    have ih0 := impl_CrashLog.mono_l k
    · intro y0 y1 y2 y3 y4 y5
      unfold impl_CrashLog.j0
      repeat' first
      | (with_reducible exact ih0 _ _ _ _ _ _)
      | (with_reducible exact impl_IsValidLog.mono _ _ _ _)
      | (with_reducible exact LeO.refl _)
      | (with_reducible exact LeO.none _)
      | (with_reducible refine LeO.ite ?_ ?_)
      | (with_reducible refine LeO.bind ?_ (fun _ => ?_))
      | exact ih0 _ _ _ _ _ _
      | exact impl_IsValidLog.mono _ _ _ _
      | exact LeO.none _
      | refine LeO.ite ?_ ?_
      | refine LeO.bind ?_ (fun _ => ?_)
theorem impl_CrashLog.mono : ∀ a0 a1 a2 a3 a4 k, LeO (impl_CrashLog.f k a0 a1 a2 a3 a4) (impl_CrashLog.f (k + 1) a0 a1 a2 a3 a4) := by
  intro a0 a1 a2 a3 a4 k
  have ih0 := impl_CrashLog.mono_l k
  unfold impl_CrashLog.f
  repeat' first
      | (with_reducible exact ih0 _ _ _ _ _ _)
      | (with_reducible exact impl_IsValidLog.mono _ _ _ _)
      | (with_reducible exact LeO.refl _)
      | (with_reducible exact LeO.none _)
      | (with_reducible refine LeO.ite ?_ ?_)
      | (with_reducible refine LeO.bind ?_ (fun _ => ?_))
      | exact ih0 _ _ _ _ _ _
      | exact impl_IsValidLog.mono _ _ _ _
      | exact LeO.none _
      | refine LeO.ite ?_ ?_
      | refine LeO.bind ?_ (fun _ => ?_)
set_option maxHeartbeats 8000000 in
set_option maxRecDepth 100000 in
theorem impl_CrashLog.calls (k : Nat) (a0_0 : ByteArray) (a0_1 : ByteArray) (a0_2 : Int) (a1 : Int) (a2 : Bool) (r1 : ByteArray) (r2 : Bool) (w : World) (hgl : Glob w) (h : impl_CrashLog.f k a0_0 a0_1 a0_2 a1 a2 = some (r1, r2)) :
    Calls Tryd.prog 35 #[.agg #[.string a0_0, .string a0_1, .int .i64 a0_2], .int .i64 a1, .bool a2] w fun e w' => e = .returned (.tuple #[.string r1, .bool r2]) ∧ Below w.heap.size w w' := by
  have hu42 := Tryd.underlying42
  have HB := Aside0.mk (Below.refl w.heap.size w)
  have HGL := Aside0.mk hgl
  clear hgl
  have H : ((impl_IsValidLog.f k a0_0 a0_1 a0_2).bind fun t217 => (if t217 = true then ((impl_in.f a1 0 (a0_1.size : Int)).bind fun t218 => (impl_CrashLog.j0 k a1 (!t218) a0_0 a0_1 a0_2 a2)) else (impl_CrashLog.j0 k a1 true a0_0 a0_1 a0_2 a2))) = some (r1, r2) := h
  clear h
  have HC4 := Aside0.mk H
  clear H
  go_enter Tryd.func35, Tryd.ntmps35
  go_upto_region 1 with (first | ((with_reducible refine gate_dst (N := 3) rfl ?_); (try (refine gate_guard (by rfl) ?_; dsimp only)); refine box_event ?hg (N := 3) ?hd (cs := #[.string a0_0, .string a0_1, .int .i64 a0_2]) (t := 42) ?hr ?_; (case hd => rfl); (case hg => rfl); (case hr => first | (go_simp; done) | (go_simp; rfl)); intro gb216 hg w5 hbox hb; have n0_ := Aside0.mk (below_step zW_1 hb); have n1_ := Aside0.mk (hbox); have n2_ := Aside0.mk ((zW_5 : w.heap.size ≤ gb216)); have n3_ := Aside0.mk ((zW_5 : w.heap.size ≤ gb216)); clear HB; have HB := n0_; have BK216 := n1_; have GW216 := n2_; have GE216 := n3_; clear n0_ n1_ n2_ n3_; clear hb hbox hg))
  repeat (go_quiet (first | ((with_reducible refine gate_dst (N := 3) rfl ?_); (try (refine gate_guard (by rfl) ?_; dsimp only)); refine box_event ?hg (N := 3) ?hd (cs := #[.string a0_0, .string a0_1, .int .i64 a0_2]) (t := 42) ?hr ?_; (case hd => rfl); (case hg => rfl); (case hr => first | (go_simp; done) | (go_simp; rfl)); intro gb216 hg w5 hbox hb; have n0_ := Aside0.mk (below_step zW_1 hb); have n1_ := Aside0.mk (hbox); have n2_ := Aside0.mk ((zW_5 : w.heap.size ≤ gb216)); have n3_ := Aside0.mk ((zW_5 : w.heap.size ≤ gb216)); clear HB; have HB := n0_; have BK216 := n1_; have GW216 := n2_; have GE216 := n3_; clear n0_ n1_ n2_ n3_; clear hb hbox hg)); go_upto_region 1 with (first | ((with_reducible refine gate_dst (N := 3) rfl ?_); (try (refine gate_guard (by rfl) ?_; dsimp only)); refine box_event ?hg (N := 3) ?hd (cs := #[.string a0_0, .string a0_1, .int .i64 a0_2]) (t := 42) ?hr ?_; (case hd => rfl); (case hg => rfl); (case hr => first | (go_simp; done) | (go_simp; rfl)); intro gb216 hg w5 hbox hb; have n0_ := Aside0.mk (below_step zW_1 hb); have n1_ := Aside0.mk (hbox); have n2_ := Aside0.mk ((zW_5 : w.heap.size ≤ gb216)); have n3_ := Aside0.mk ((zW_5 : w.heap.size ≤ gb216)); clear HB; have HB := n0_; have BK216 := n1_; have GW216 := n2_; have GE216 := n3_; clear n0_ n1_ n2_ n3_; clear hb hbox hg)))
  (try simp only [Act.put, List.setIfInBounds_toArray, List.set_cons_zero, List.set_cons_succ])
  go_cut [19] (fun v19 wc => ∃ (kq : Nat) (x19_3 : Bool), v19 = .bool x19_3 ∧ Aside0 (impl_CrashLog.j0 kq a1 x19_3 a0_0 a0_1 a0_2 a2 = some (r1, r2)) ∧ Aside0 (kq ≤ k) ∧ Aside0 (wc.heap[gb216]? = some (.cells #[.string a0_0, .string a0_1, .int .i64 a0_2] 42 (0, 0))) ∧ Aside0 (Below w.heap.size w wc))
  case first =>
    have H := HC4.out
    clear HC4
    replace H := Option.bind_eq_some_iff.mp H
    obtain ⟨t217, A60, H⟩ := H
    replace H : (if t217 = true then ((impl_in.f a1 0 (a0_1.size : Int)).bind fun t218 => (impl_CrashLog.j0 k a1 (!t218) a0_0 a0_1 a0_2 a2)) else (impl_CrashLog.j0 k a1 true a0_0 a0_1 a0_2 a2)) = some (r1, r2) := H
    have A6 := Aside0.mk A60
    clear A60
    by_cases c7 : t217 = true
    · subst c7
      have H1 : ((impl_in.f a1 0 (a0_1.size : Int)).bind fun t218 => (impl_CrashLog.j0 k a1 (!t218) a0_0 a0_1 a0_2 a2)) = some (r1, r2) := by rw [if_pos rfl] at H; exact H
      clear H
      have H := H1
      clear H1
      replace H := Option.bind_eq_some_iff.mp H
      obtain ⟨t218, A80, H⟩ := H
      replace H : (impl_CrashLog.j0 k a1 (!t218) a0_0 a0_1 a0_2 a2) = some (r1, r2) := H
      have A8 := Aside0.mk A80
      clear A80
      have H' := Aside0.mk H
      clear H
      have hcz9_0 : w5.cell? ⟨gb216, 0, none⟩ = some (.string a0_0) := (blk_cell BK216.out 0).trans rfl
      have hcz9_1 : w5.cell? ⟨gb216, 1, none⟩ = some (.string a0_1) := (blk_cell BK216.out 1).trans rfl
      have hcz9_2 : w5.cell? ⟨gb216, 2, none⟩ = some (.int .i64 a0_2) := (blk_cell BK216.out 2).trans rfl
      have hfz9_0 := blk_frozen BK216.out 0
      have hfz9_1 := blk_frozen BK216.out 1
      have hfz9_2 := blk_frozen BK216.out 2
      go_wp2_with (first | (go_at_call 33; (with_reducible refine (impl_IsValidLog.calls k a0_0 a0_1 a0_2 true _ ?side1 A6.out).mono ?_); (case side1 => exact Glob.below HGL.out zW_0); rintro e w10 ⟨rfl, hb⟩; have n0_ := Aside0.mk (blk_below (g := gb216) (o := .cells #[.string a0_0, .string a0_1, .int .i64 a0_2] 42 (0, 0)) zW_2 hb); have n1_ := Aside0.mk (below_step zW_0 hb); clear BK216; clear HB; have BK216 := n0_; have HB := n1_; clear n0_ n1_; (try clear hb); (try clear hb2); (try clear hk); (try clear hi); have hcz11_0 : w10.cell? ⟨gb216, 0, none⟩ = some (.string a0_0) := (blk_cell BK216.out 0).trans rfl; have hcz11_1 : w10.cell? ⟨gb216, 1, none⟩ = some (.string a0_1) := (blk_cell BK216.out 1).trans rfl; have hcz11_2 : w10.cell? ⟨gb216, 2, none⟩ = some (.int .i64 a0_2) := (blk_cell BK216.out 2).trans rfl; have hfz11_0 := blk_frozen BK216.out 0; have hfz11_1 := blk_frozen BK216.out 1; have hfz11_2 := blk_frozen BK216.out 2) | (go_at_call 77; (with_reducible refine (impl_in.calls a1 0 (a0_1.size : Int) t218 _ A8.out).mono ?_); rintro e w' ⟨rfl, ⟨nd, rfl⟩⟩; (try first | exact ⟨rfl, _, World.drewN_drewN _ _ _⟩ | exact ⟨rfl, _, Eq.trans (World.drewN_drewN _ _ _) (congrArg (World.drewN _) (Nat.add_assoc _ _ _))⟩)))
      repeat (go_quiet (first | (go_at_call 33; (with_reducible refine (impl_IsValidLog.calls k a0_0 a0_1 a0_2 true _ ?side1 A6.out).mono ?_); (case side1 => exact Glob.below HGL.out zW_0); rintro e w10 ⟨rfl, hb⟩; have n0_ := Aside0.mk (blk_below (g := gb216) (o := .cells #[.string a0_0, .string a0_1, .int .i64 a0_2] 42 (0, 0)) zW_2 hb); have n1_ := Aside0.mk (below_step zW_0 hb); clear BK216; clear HB; have BK216 := n0_; have HB := n1_; clear n0_ n1_; (try clear hb); (try clear hb2); (try clear hk); (try clear hi); have hcz11_0 : w10.cell? ⟨gb216, 0, none⟩ = some (.string a0_0) := (blk_cell BK216.out 0).trans rfl; have hcz11_1 : w10.cell? ⟨gb216, 1, none⟩ = some (.string a0_1) := (blk_cell BK216.out 1).trans rfl; have hcz11_2 : w10.cell? ⟨gb216, 2, none⟩ = some (.int .i64 a0_2) := (blk_cell BK216.out 2).trans rfl; have hfz11_0 := blk_frozen BK216.out 0; have hfz11_1 := blk_frozen BK216.out 1; have hfz11_2 := blk_frozen BK216.out 2) | (go_at_call 77; (with_reducible refine (impl_in.calls a1 0 (a0_1.size : Int) t218 _ A8.out).mono ?_); rintro e w' ⟨rfl, ⟨nd, rfl⟩⟩; (try first | exact ⟨rfl, _, World.drewN_drewN _ _ _⟩ | exact ⟨rfl, _, Eq.trans (World.drewN_drewN _ _ _) (congrArg (World.drewN _) (Nat.add_assoc _ _ _))⟩))); try go_wp2_with (first | (go_at_call 33; (with_reducible refine (impl_IsValidLog.calls k a0_0 a0_1 a0_2 true _ ?side1 A6.out).mono ?_); (case side1 => exact Glob.below HGL.out zW_0); rintro e w10 ⟨rfl, hb⟩; have n0_ := Aside0.mk (blk_below (g := gb216) (o := .cells #[.string a0_0, .string a0_1, .int .i64 a0_2] 42 (0, 0)) zW_2 hb); have n1_ := Aside0.mk (below_step zW_0 hb); clear BK216; clear HB; have BK216 := n0_; have HB := n1_; clear n0_ n1_; (try clear hb); (try clear hb2); (try clear hk); (try clear hi); have hcz11_0 : w10.cell? ⟨gb216, 0, none⟩ = some (.string a0_0) := (blk_cell BK216.out 0).trans rfl; have hcz11_1 : w10.cell? ⟨gb216, 1, none⟩ = some (.string a0_1) := (blk_cell BK216.out 1).trans rfl; have hcz11_2 : w10.cell? ⟨gb216, 2, none⟩ = some (.int .i64 a0_2) := (blk_cell BK216.out 2).trans rfl; have hfz11_0 := blk_frozen BK216.out 0; have hfz11_1 := blk_frozen BK216.out 1; have hfz11_2 := blk_frozen BK216.out 2) | (go_at_call 77; (with_reducible refine (impl_in.calls a1 0 (a0_1.size : Int) t218 _ A8.out).mono ?_); rintro e w' ⟨rfl, ⟨nd, rfl⟩⟩; (try first | exact ⟨rfl, _, World.drewN_drewN _ _ _⟩ | exact ⟨rfl, _, Eq.trans (World.drewN_drewN _ _ _) (congrArg (World.drewN _) (Nat.add_assoc _ _ _))⟩))))
      go_meet
      case rel => exact ⟨_, (!t218), (by first | rfl | (simp; done) | (simp [*]; done)), H', ⟨by first | omega | exact Nat.le_refl _⟩, ⟨zW_2⟩, ⟨zW_0⟩⟩
    · replace c7 := Bool.eq_false_iff.mpr c7
      subst c7
      have H1 : (impl_CrashLog.j0 k a1 true a0_0 a0_1 a0_2 a2) = some (r1, r2) := by rw [if_neg (show ¬ (false = true) by decide)] at H; exact H
      clear H
      have H := H1
      clear H1
      have H' := Aside0.mk H
      clear H
      have hcz12_0 : w5.cell? ⟨gb216, 0, none⟩ = some (.string a0_0) := (blk_cell BK216.out 0).trans rfl
      have hcz12_1 : w5.cell? ⟨gb216, 1, none⟩ = some (.string a0_1) := (blk_cell BK216.out 1).trans rfl
      have hcz12_2 : w5.cell? ⟨gb216, 2, none⟩ = some (.int .i64 a0_2) := (blk_cell BK216.out 2).trans rfl
      have hfz12_0 := blk_frozen BK216.out 0
      have hfz12_1 := blk_frozen BK216.out 1
      have hfz12_2 := blk_frozen BK216.out 2
      go_wp2_with (first | (go_at_call 33; (with_reducible refine (impl_IsValidLog.calls k a0_0 a0_1 a0_2 false _ ?side1 A6.out).mono ?_); (case side1 => exact Glob.below HGL.out zW_0); rintro e w13 ⟨rfl, hb⟩; have n0_ := Aside0.mk (blk_below (g := gb216) (o := .cells #[.string a0_0, .string a0_1, .int .i64 a0_2] 42 (0, 0)) zW_2 hb); have n1_ := Aside0.mk (below_step zW_0 hb); clear BK216; clear HB; have BK216 := n0_; have HB := n1_; clear n0_ n1_; (try clear hb); (try clear hb2); (try clear hk); (try clear hi)))
      repeat (go_quiet (first | (go_at_call 33; (with_reducible refine (impl_IsValidLog.calls k a0_0 a0_1 a0_2 false _ ?side1 A6.out).mono ?_); (case side1 => exact Glob.below HGL.out zW_0); rintro e w13 ⟨rfl, hb⟩; have n0_ := Aside0.mk (blk_below (g := gb216) (o := .cells #[.string a0_0, .string a0_1, .int .i64 a0_2] 42 (0, 0)) zW_2 hb); have n1_ := Aside0.mk (below_step zW_0 hb); clear BK216; clear HB; have BK216 := n0_; have HB := n1_; clear n0_ n1_; (try clear hb); (try clear hb2); (try clear hk); (try clear hi))); try go_wp2_with (first | (go_at_call 33; (with_reducible refine (impl_IsValidLog.calls k a0_0 a0_1 a0_2 false _ ?side1 A6.out).mono ?_); (case side1 => exact Glob.below HGL.out zW_0); rintro e w13 ⟨rfl, hb⟩; have n0_ := Aside0.mk (blk_below (g := gb216) (o := .cells #[.string a0_0, .string a0_1, .int .i64 a0_2] 42 (0, 0)) zW_2 hb); have n1_ := Aside0.mk (below_step zW_0 hb); clear BK216; clear HB; have BK216 := n0_; have HB := n1_; clear n0_ n1_; (try clear hb); (try clear hb2); (try clear hk); (try clear hi))))
      go_meet
      case rel => exact ⟨_, (true), (by first | rfl | (simp; done) | (simp [*]; done)), H', ⟨by first | omega | exact Nat.le_refl _⟩, ⟨zW_2⟩, ⟨zW_0⟩⟩
  case rest =>
    clear HC4
    try clear p2
    try clear c3
    try clear c7
    try clear hcz11_0
    try clear hcz11_1
    try clear hcz11_2
    try clear hcz12_0
    try clear hcz12_1
    try clear hcz12_2
    try clear hcz9_0
    try clear hcz9_1
    try clear hcz9_2
    try clear hfz11_0
    try clear hfz11_1
    try clear hfz11_2
    try clear hfz12_0
    try clear hfz12_1
    try clear hfz12_2
    try clear hfz9_0
    try clear hfz9_1
    try clear hfz9_2
    obtain ⟨kq, x19_3, rfl, HA, HJ3, BK216, HB⟩ := hcut
    cases kq with
    | zero => exact absurd HA.out (by simp [impl_CrashLog.j0])
    | succ kj3 =>
      have H := HA.out
      clear HA
      simp only [impl_CrashLog.j0] at H
      by_cases c14 : x19_3 = true
      · subst c14
        have H1 : (some ((⟨#[]⟩ : ByteArray), false)) = some (r1, r2) := by rw [if_pos rfl] at H; exact H
        clear H
        have H := H1
        clear H1
        simp only [Option.some.injEq, Prod.mk.injEq] at H
        obtain ⟨rfl, rfl⟩ := H
        go_wp2
        repeat (go_quiet (fail); try go_wp2)
        go_ret2
        exact ⟨by first | rfl | (simp [errW_none, errW_some] <;> rfl) | (simp [*, errW_none, errW_some] <;> rfl), zW_0⟩
      · replace c14 := Bool.eq_false_iff.mpr c14
        subst c14
        have H1 : (if 0 ≤ a1 then (if a1 ≤ (a0_1.size : Int) then (if a0_0.size + (a0_1.extract 0 (a1 : Int).toNat).size ≤ 9223372036854775807 then (some (crashed (a0_0 ++ a0_1.extract 0 (a1 : Int).toNat) a2 (decide (a1 > 0)), true)) else (none)) else (none)) else (none)) = some (r1, r2) := by rw [if_neg (show ¬ (false = true) by decide)] at H; exact H
        clear H
        have H := H1
        clear H1
        by_cases c15 : 0 ≤ a1
        · rw [if_pos c15] at H
          have c15b0 := eq_true c15
          have c15b1 : decide (0 ≤ a1) = true := decide_eq_true c15
          clear c15
          by_cases c16 : a1 ≤ (a0_1.size : Int)
          · rw [if_pos c16] at H
            have c16b0 := eq_true c16
            have c16b1 : decide (a1 ≤ (a0_1.size : Int)) = true := decide_eq_true c16
            clear c16
            by_cases c17 : a0_0.size + (a0_1.extract 0 (a1 : Int).toNat).size ≤ 9223372036854775807
            · rw [if_pos c17] at H
              simp only [Option.some.injEq, Prod.mk.injEq] at H
              obtain ⟨rfl, rfl⟩ := H
              have c17b0 := eq_true c17
              have c17b1 : decide (a0_0.size + (a0_1.extract 0 (a1 : Int).toNat).size ≤ 9223372036854775807) = true := decide_eq_true c17
              have c17b2 : (9223372036854775807 < a0_0.size + (a0_1.extract 0 (a1 : Int).toNat).size) = False := eq_false (Nat.not_lt.2 c17)
              have kb := fun W => print_bytes (P := Tryd.prog) 9 22 5 Tryd.underlying9 Tryd.underlying22 Tryd.underlying5 (a0_0 ++ a0_1.extract 0 (a1 : Int).toNat) W
              have n0_ := Aside0.mk (blk_drew BK216.out)
              have n1_ := Aside0.mk (below_drew1 HB.out)
              have hext : (a0_1.extract 0 (a1 : Int).toNat).size = a1.toNat := by rw [ByteArray.size_extract]; have := of_decide_eq_true c16b1; omega
              have hsz : (a0_0 ++ a0_1.extract 0 (a1 : Int).toNat).size = a0_0.size + a1.toNat := by rw [ByteArray.size_append, hext]
              have c17b3 : (9223372036854775807 < a0_0.size + a1.toNat) = False := eq_false (by rw [← hext]; exact Nat.not_lt.2 c17)
              try go_wp2
              clear BK216 HB
              have BK216 := n0_
              have HB := n1_
              clear n0_ n1_
              refine start_ (n := 9) (S := fun w' => w'.cell? ⟨gb216, 0, none⟩ = some (.string a0_0) ∧ w'.cell? ⟨gb216, 1, none⟩ = some (.string a0_1)) (ds := []) #[false, false, false, false, false, false, false, false, false] (by kernel_rfl) rfl rfl ⟨(blk_cell BK216.out 0).trans rfl, (blk_cell BK216.out 1).trans rfl⟩ (fun hHeld => ?_)
              generalize wc.drew = wd at BK216 HB hHeld ⊢
              have hcz0 : wd.cell? ⟨gb216, 0, none⟩ = some (.string a0_0) := (blk_cell BK216.out 0).trans rfl
              have hcz1 : wd.cell? ⟨gb216, 1, none⟩ = some (.string a0_1) := (blk_cell BK216.out 1).trans rfl
              have hlt0 := World.block_lt_of_cell? wd _ hcz0
              have hlt1 := World.block_lt_of_cell? wd _ hcz1
              have bel := bytes_below HB.out HB.out.size 5 (a0_0 ++ a0_1.extract 0 (a1 : Int).toNat)
              refine pure_ (i := 0) (N := some 20) (v := ?_) (a' := ?_) #[true, false, false, false, false, false, false, false, false] rfl rfl (by kernel_rfl) (fun _ _ _ h => h) (Or.inl ⟨by rfl, ?_⟩) ?_ ?_
              rotate_left
              · intro w'
                go_simp
                with_reducible rfl
              rotate_left
              · simp only [Act.put, List.setIfInBounds_toArray, List.set_cons_zero, List.set_cons_succ, i64_w, i32_w]
                rfl
              refine pure_ (i := 2) (N := some 22) (v := ?_) (a' := ?_) #[true, false, true, false, false, false, false, false, false] rfl rfl (by kernel_rfl) (fun _ _ _ h => h) (Or.inl ⟨by rfl, ?_⟩) ?_ ?_
              rotate_left
              · intro w'
                go_simp
                with_reducible rfl
              rotate_left
              · simp only [Act.put, List.setIfInBounds_toArray, List.set_cons_zero, List.set_cons_succ, i64_w, i32_w]
                rfl
              refine pure_ (i := 4) (N := some 24) (v := ?_) (a' := ?_) #[true, false, true, false, true, false, false, false, false] rfl rfl (by kernel_rfl) (fun _ _ _ h => h) (Or.inl ⟨by rfl, ?_⟩) ?_ ?_
              rotate_left
              · intro w'
                go_simp
                with_reducible rfl
              rotate_left
              · simp only [Act.put, List.setIfInBounds_toArray, List.set_cons_zero, List.set_cons_succ, i64_w, i32_w]
                rfl
              refine take_ (i := 1) (N := some 21) (v := ?_) (a' := ?_) #[true, true, true, false, true, false, false, false, false] rfl rfl (by kernel_rfl) (fun _ _ _ h => h) (Or.inl ⟨by rfl, ?_⟩) hHeld ?_ ?_
              rotate_left
              · rintro w' ⟨s0, s1⟩
                go_simp
                with_reducible rfl
              rotate_left
              · simp only [Act.put, List.setIfInBounds_toArray, List.set_cons_zero, List.set_cons_succ, i64_w, i32_w]
                rfl
              refine take_ (i := 3) (N := some 23) (v := ?_) (a' := ?_) #[true, true, true, true, true, false, false, false, false] rfl rfl (by kernel_rfl) (fun _ _ _ h => h) (Or.inl ⟨by rfl, ?_⟩) hHeld ?_ ?_
              rotate_left
              · rintro w' ⟨s0, s1⟩
                go_simp
                with_reducible rfl
              rotate_left
              · simp only [Act.put, List.setIfInBounds_toArray, List.set_cons_zero, List.set_cons_succ, i64_w, i32_w]
                rfl
              refine pure_ (i := 5) (N := some 25) (v := ?_) (a' := ?_) #[true, true, true, true, true, true, false, false, false] rfl rfl (by kernel_rfl) (fun _ _ _ h => h) (Or.inl ⟨by rfl, ?_⟩) ?_ ?_
              rotate_left
              · intro w'
                go_simp
                with_reducible rfl
              rotate_left
              · simp only [Act.put, List.setIfInBounds_toArray, List.set_cons_zero, List.set_cons_succ, i64_w, i32_w]
                rfl
              refine pure_ (i := 6) (N := some 26) (v := ?_) (a' := ?_) #[true, true, true, true, true, true, true, false, false] rfl rfl (by kernel_rfl) (fun _ _ _ h => h) (Or.inl ⟨by rfl, ?_⟩) ?_ ?_
              rotate_left
              · intro w'
                go_simp
                with_reducible rfl
              rotate_left
              · simp only [Act.put, List.setIfInBounds_toArray, List.set_cons_zero, List.set_cons_succ, i64_w, i32_w]
                rfl
              refine one_ (i := 7) (N := some 27) #[true, true, true, true, true, true, true, true, false] rfl rfl (by kernel_rfl) (by decide) (fun K hK => ?_)
              refine event_step (by rfl) (w1 := Lib.bytesWorld wd 5 (a0_0 ++ a0_1.extract 0 (a1 : Int).toNat)) (v := .slice (some ⟨wd.heap.size, 0, none⟩) (a0_0.size + a1.toNat) (grownCap wd (a0_0.size + a1.toNat) 0 5)) ?hrun ?_
              case hrun =>
                go_simp
                first | done | (rw [kb, hsz]; rfl) | (rw [hsz]; rfl) | rfl
              refine hK _ _ ⟨(Lib.bytesWorld_old wd 5 _ _ hlt0).trans hcz0, (Lib.bytesWorld_old wd 5 _ _ hlt1).trans hcz1⟩ (fun hHeld2 => ?_)
              simp only [Act.put, List.setIfInBounds_toArray, List.set_cons_zero, List.set_cons_succ, i64_w, i32_w]
              refine pure_ (i := 8) (N := some 8) (v := ?_) (a' := ?_) #[true, true, true, true, true, true, true, true, true] rfl rfl (by kernel_rfl) (fun _ _ _ h => h) (Or.inl ⟨by rfl, ?_⟩) ?_ ?_
              rotate_left
              · intro w'
                go_simp
                with_reducible rfl
              rotate_left
              · simp only [Act.put, List.setIfInBounds_toArray, List.set_cons_zero, List.set_cons_succ, i64_w, i32_w]
                rfl
              refine done_ (by kernel_rfl) ?_
              have hle : a0_0.size + a1.toNat ≤ 9223372036854775807 := by rw [← hext]; exact c17
              have hpos : 0 < a1 → 0 < a0_0.size + a1.toNat := fun h => by omega
              generalize hn : a0_0.size + a1.toNat = n at hsz hle hpos ⊢
              cases a2 with
              | false =>
                have ks := back_whole wd (a0_0 ++ a0_1.extract 0 (a1 : Int).toNat) n (grownCap wd n 0 5) hsz.symm
                try go_wp2
                go_ret2
                exact ⟨rfl, bel⟩
              | true =>
                by_cases c18 : a1 > 0
                · have c18b : decide (a1 > 0) = true := decide_eq_true c18
                  have hp := hpos c18
                  have hfz := bytes_frozen wd (a0_0 ++ a0_1.extract 0 (a1 : Int).toNat) (n - 1) (by rw [hsz]; omega)
                  have hbt := bytes_last wd (a0_0 ++ a0_1.extract 0 (a1 : Int).toNat) (n - 1) (by rw [hsz]; omega)
                  have hcr : crashed (a0_0 ++ a0_1.extract 0 (a1 : Int).toNat) true (decide (a1 > 0)) = strOfNums (tornL (a0_0 ++ a0_1.extract 0 (a1 : Int).toNat)) := by rw [c18b]; rfl
                  have hw1 : wrap64 ((n : Int) - 1) = (n : Int) - 1 := by unfold wrap64; omega
                  have ks := back_torn wd (a0_0 ++ a0_1.extract 0 (a1 : Int).toNat) n (grownCap wd n 0 5) hsz.symm ((255 - bt (a0_0 ++ a0_1.extract 0 (a1 : Int).toNat) ((n - 1 : Nat) : Int)) % 256) hp (n - 1) rfl
                  have ht : (bytesOf (a0_0 ++ a0_1.extract 0 (a1 : Int).toNat)).set ((a0_0 ++ a0_1.extract 0 (a1 : Int).toNat).size - 1) ((255 - bt (a0_0 ++ a0_1.extract 0 (a1 : Int).toNat) ((n - 1 : Nat) : Int)) % 256) = tornL (a0_0 ++ a0_1.extract 0 (a1 : Int).toNat) := by unfold tornL; rw [hsz]
                  rw [ht] at ks
                  have bel2 := below_set (j := n - 1) (v := .int .u8 ((255 - bt (a0_0 ++ a0_1.extract 0 (a1 : Int).toNat) ((n - 1 : Nat) : Int)) % 256)) bel HB.out.size
                  try go_wp2
                  go_ret2
                  exact ⟨rfl, bel2⟩
                · have c18b : decide (a1 > 0) = false := decide_eq_false c18
                  have ks := back_whole wd (a0_0 ++ a0_1.extract 0 (a1 : Int).toNat) n (grownCap wd n 0 5) hsz.symm
                  try go_wp2
                  go_ret2
                  exact ⟨rfl, bel⟩
            · rw [if_neg c17] at H
              exact absurd H (by simp)
          · rw [if_neg c16] at H
            exact absurd H (by simp)
        · rw [if_neg c15] at H
          exact absurd H (by simp)
end Go.Proofs.YtgclcjohnnpejaaDoor.Pr
end
