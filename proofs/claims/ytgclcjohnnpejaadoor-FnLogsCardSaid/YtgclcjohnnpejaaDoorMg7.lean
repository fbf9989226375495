-- texts of this session, and of the kit's print, cut to what the claim leans on
import Derived.Test.YtgclcjohnnpejaaDoorMg4
import Derived.Test.YtgclcjohnnpejaaDoorMg5
import Derived.Test.YtgclcjohnnpejaaDoorMg6
import Derived.Test.YtgclcjohnnpejaaDoorMg2
import Derived.Test.YtgclcjohnnpejaaDoorMg3
section
namespace Go.Proofs.YtgclcjohnnpejaaDoor.Pr
open Go.RowKit Go.Proofs.YtgclcjohnnpejaaDoorW.PrintWords Go.Proofs.YtgclcjohnnpejaaDoorW.PrintLast Go.Proofs.YtgclcjohnnpejaaDoorW.PrintMore
attribute [local go_sem] max2_int min2_int max_two min_two max_three min_three max_four min_four
set_option linter.unusedVariables false
set_option linter.unusedSimpArgs false
attribute [local go_sem high] eqA38 eqA42
mutual
def laws_FnLogs.j0 : Nat → Int → Bool → ByteArray → ByteArray → Int → ByteArray → ByteArray → ByteArray → ByteArray → Int → Option (Bool)
 | 0, _, _, _, _, _, _, _, _, _, _ => none
 | k + 1, x14, x103, x437000, x437001, x437002, x438000, x438001, x443000, x443001, x443002 => if x103 = true then (some false) else ((impl_SyncLog.f k x437000 x437001 x437002).bind fun bt452 => ((spec_SyncLog.f k x437000 x437001 x437002).bind fun bt457 => ((impl_LogRecords.f k x437000 x437001 x437002).bind fun bt462 => ((spec_LogRecords.f k x437000 x437001 x437002).bind fun bt466 => (if (!(bt452.1.toList == bt457.1.toList) || (!(bt452.2.1.toList == bt457.2.1.toList) || (!(bt452.2.2.1 == bt457.2.2.1)))) = true then (laws_FnLogs.j1 k x14 bt452.2.2.2 bt462.1 true x437000 x437001 x437002 x438000 x438001 x443000 x443001 x443002 bt452.1 bt452.2.1 bt452.2.2.1) else (if (bt452.2.2.2 != bt457.2.2.2) = true then (laws_FnLogs.j1 k x14 bt452.2.2.2 bt462.1 true x437000 x437001 x437002 x438000 x438001 x443000 x443001 x443002 bt452.1 bt452.2.1 bt452.2.2.1) else (if (bt462.2 != bt466.2) = true then (laws_FnLogs.j1 k x14 bt452.2.2.2 bt462.1 true x437000 x437001 x437002 x438000 x438001 x443000 x443001 x443002 bt452.1 bt452.2.1 bt452.2.2.1) else ((laws_vRecords.f k bt462.1 bt466.1).bind fun t470 => (laws_FnLogs.j1 k x14 bt452.2.2.2 bt462.1 (!t470) x437000 x437001 x437002 x438000 x438001 x443000 x443001 x443002 bt452.1 bt452.2.1 bt452.2.2.1)))))))))
def laws_FnLogs.j1 : Nat → Int → Bool → List (S38) → Bool → ByteArray → ByteArray → Int → ByteArray → ByteArray → ByteArray → ByteArray → Int → ByteArray → ByteArray → Int → Option (Bool)
 | 0, _, _, _, _, _, _, _, _, _, _, _, _, _, _, _ => none
 | k + 1, x14, x18, x21, x142, x437000, x437001, x437002, x438000, x438001, x443000, x443001, x443002, x457000, x457001, x457002 => if x142 = true then (some false) else ((impl_LogRecords.f k x457000 x457001 x457002).bind fun bt471 => (if x18 = true then ((laws_vRecords.f k bt471.1 x21).bind fun t475 => (laws_FnLogs.j2 k x14 x21 (!t475) x437000 x437001 x437002 x438000 x438001 x443000 x443001 x443002)) else (laws_FnLogs.j2 k x14 x21 false x437000 x437001 x437002 x438000 x438001 x443000 x443001 x443002)))
def laws_FnLogs.j2 : Nat → Int → List (S38) → Bool → ByteArray → ByteArray → Int → ByteArray → ByteArray → ByteArray → ByteArray → Int → Option (Bool)
 | 0, _, _, _, _, _, _, _, _, _, _, _ => none
 | k + 1, x14, x21, x154, x437000, x437001, x437002, x438000, x438001, x443000, x443001, x443002 => if x154 = true then (some false) else (if x14 = 0 then ((impl_LogRecords.f k x443000 x443001 x443002).bind fun bt476 => ((impl_IsValidLog.f k x443000 x443001 x443002).bind fun t480 => (if t480 = true then (if (bt476.1.length : Int) = (wrap64 ((x21.length : Int) + 1)) then (if 0 ≤ (x21.length : Int) then (if (x21.length : Int) ≤ (bt476.1.length : Int) then ((laws_vRecords.f k (bt476.1.take ((x21.length : Int) : Int).toNat) x21).bind fun t485 => (if t485 = true then (if (x21.length : Int) < (bt476.1.length : Int) then (some ((((rd_T38 bt476.1 (x21.length : Int)).f0).toList) == x438000.toList && ((((rd_T38 bt476.1 (x21.length : Int)).f1).toList) == x438001.toList))) else (none)) else (some false))) else (none)) else (none)) else (some false)) else (some false)))) else (some (x443000.toList == x437000.toList && (x443001.toList == x437001.toList && (x443002 == x437002)))))
end
def laws_FnLogs.f (k : Nat) (l0 : List Int) : Option (Bool) := (laws_vBig.f l0).bind fun t406 => (if t406 = true then (some true) else ((spec_DrawIsValidRecord.f l0).bind fun bt407 => ((laws_vCut.f k l0 1).bind fun t410 => ((spec_DrawEncodeRecord.f t410).bind fun bt413 => ((impl_EncodeRecord.f k bt413.1 bt413.2.1 bt413.2.2).bind fun bt417 => ((spec_EncodeRecord.f k bt413.1 bt413.2.1 bt413.2.2).bind fun bt419 => ((laws_vCut.f k l0 2).bind fun t421 => ((spec_DrawIsValidLog.f k t421).bind fun bt424 => ((laws_vCut.f k l0 3).bind fun t428 => ((spec_DrawAppendRecord.f k t428).bind fun bt431 => ((impl_AppendRecord.f k bt431.1 bt431.2.1 bt431.2.2.1 bt431.2.2.2.1 bt431.2.2.2.2).bind fun bt438 => ((spec_AppendRecord.f k bt431.1 bt431.2.1 bt431.2.2.1 bt431.2.2.2.1 bt431.2.2.2.2).bind fun bt443 => ((impl_IsValidRecord.f k bt407.1 bt407.2).bind fun t448 => ((spec_IsValidRecord.f k bt407.1 bt407.2).bind fun t449 => (if (t448 != t449) = true then (laws_FnLogs.j0 k bt438.2.2.2 true bt431.1 bt431.2.1 bt431.2.2.1 bt431.2.2.2.1 bt431.2.2.2.2 bt438.1 bt438.2.1 bt438.2.2.1) else (if bt417.1.toList = bt419.1.toList then (if (bt417.2 != bt419.2) = true then (laws_FnLogs.j0 k bt438.2.2.2 true bt431.1 bt431.2.1 bt431.2.2.1 bt431.2.2.2.1 bt431.2.2.2.2 bt438.1 bt438.2.1 bt438.2.2.1) else ((impl_IsValidLog.f k bt424.1 bt424.2.1 bt424.2.2).bind fun t450 => ((spec_IsValidLog.f k bt424.1 bt424.2.1 bt424.2.2).bind fun t451 => (if (t450 != t451) = true then (laws_FnLogs.j0 k bt438.2.2.2 true bt431.1 bt431.2.1 bt431.2.2.1 bt431.2.2.2.1 bt431.2.2.2.2 bt438.1 bt438.2.1 bt438.2.2.1) else (if (!(bt438.1.toList == bt443.1.toList) || (!(bt438.2.1.toList == bt443.2.1.toList) || (!(bt438.2.2.1 == bt443.2.2.1)))) = true then (laws_FnLogs.j0 k bt438.2.2.2 true bt431.1 bt431.2.1 bt431.2.2.1 bt431.2.2.2.1 bt431.2.2.2.2 bt438.1 bt438.2.1 bt438.2.2.1) else (laws_FnLogs.j0 k bt438.2.2.2 (bt438.2.2.2 != bt443.2.2.2) bt431.1 bt431.2.1 bt431.2.2.1 bt431.2.2.2.1 bt431.2.2.2.2 bt438.1 bt438.2.1 bt438.2.2.1)))))) else (laws_FnLogs.j0 k bt438.2.2.2 true bt431.1 bt431.2.1 bt431.2.2.1 bt431.2.2.2.1 bt431.2.2.2.2 bt438.1 bt438.2.1 bt438.2.2.1)))))))))))))))))
def laws_FnLogs.T11 : Bool × List (List Nat × List Nat) := (true, [([], []), ([0], [0]), ([], []), ([2, 1], [2]), ([1, 3], [1, 3]), ([4, 3], [4]), ([5], [5]), ([5], [5]), ([6, 7, 5], [5, 6, 7]), ([5, 8], [5, 8]), ([9, 5], [9]), ([10], [10]), ([10], [10]), ([11, 12, 10], [10, 11, 12]), ([10, 13], [10, 13]), ([14, 10], [14]), ([15], [15]), ([16, 15, 15], [15, 16]), ([15], [15]), ([18, 17, 15], [15, 18]), ([17, 19, 15], [15, 17, 19]), ([15, 20], [15, 20]), ([21, 19], [21]), ([22], [22]), ([22], [22]), ([23, 24, 22], [22, 23, 24]), ([22, 25], [22, 25]), ([26, 22], [26]), ([27], [27]), ([27], [27]), ([28, 29, 27], [27, 28, 29]), ([27, 30], [27, 30])])
def laws_FnLogs.B11 : List Nat := [0, 1, 0, 7, 15, 31, 63, 63, 255, 511, 1023, 2047, 2047, 8191, 16383, 32767, 65535, 131071, 65535, 524287, 1048575, 2097151, 4194303, 8388607, 8388607, 33554431, 67108863, 134217727, 268435455, 268435455, 1073741823, 2147483647]
theorem laws_FnLogs.tab11 : rtab .any (opsOf Tryd.f11 11) = laws_FnLogs.T11 := by kernel_rfl
theorem laws_FnLogs.bits11 : waitsOk laws_FnLogs.T11.2 laws_FnLogs.B11 = true := by kernel_rfl
def laws_FnLogs.T25 : Bool × List (List Nat × List Nat) := (true, [([], []), ([0], [0]), ([1, 1], [1]), ([2], [2]), ([3, 2], [2, 3]), ([2], [2]), ([5, 2], [2, 5]), ([6, 2], [2, 6]), ([4, 7, 2], [2, 4, 7]), ([2, 8], [2, 8]), ([9, 2], [9]), ([10], [10]), ([10], [10]), ([12, 10], [10, 12]), ([11, 13, 10], [10, 11, 13]), ([10], [10]), ([14, 15, 10, 10], [10, 14, 15]), ([10, 16], [10, 16]), ([17, 16], [17]), ([18], [18]), ([18], [18]), ([20, 18], [18, 20]), ([19, 21, 18], [18, 19, 21]), ([22, 18], [18, 22]), ([18], [18]), ([23, 24, 18], [18, 23, 24]), ([18, 25], [18, 25]), ([26, 18, 0, 1, 2, 3, 4, 5, 6, 7, 8, 9, 10, 11, 12, 13, 14, 15, 16, 17, 18, 19, 20, 21, 22, 23, 24, 25, 26], [26])])
def laws_FnLogs.B25 : List Nat := [0, 1, 3, 7, 15, 7, 39, 103, 255, 511, 1023, 2047, 2047, 6143, 16383, 2047, 65535, 131071, 262143, 524287, 524287, 1572863, 4194303, 8388607, 524287, 33554431, 67108863, 134217727]
theorem laws_FnLogs.tab25 : rtab .any (opsOf Tryd.f11 25) = laws_FnLogs.T25 := by kernel_rfl
theorem laws_FnLogs.bits25 : waitsOk laws_FnLogs.T25.2 laws_FnLogs.B25 = true := by kernel_rfl
set_option maxHeartbeats 8000000 in
set_option maxRecDepth 100000 in
theorem laws_FnLogs.calls (k : Nat) (A0 : Option Addr) (c0 : Nat) (l0 : List Int) (r : Bool) (w : World) (hr0 : Kd.C (Kd.int .u8) w A0 l0.length l0) (hc0 : l0.length ≤ c0) (hgl : Glob w) (hr : r = true) (h : laws_FnLogs.f k l0 = some r) :
  Calls Tryd.prog 11 #[.slice A0 l0.length c0] w fun e w' => e = .returned (.bool r) ∧ Below w.heap.size w w' := by
 have hu38 := Tryd.underlying38
 have hu42 := Tryd.underlying42
 have HR0 := am hr0
 have HC0 := am hc0
 clear hr0 hc0
 have HB := am (Below.refl w.heap.size w)
 have HGL := am hgl
 clear hgl
 have H : ((laws_vBig.f l0).bind fun t406 => (if t406 = true then (some true) else ((spec_DrawIsValidRecord.f l0).bind fun bt407 => ((laws_vCut.f k l0 1).bind fun t410 => ((spec_DrawEncodeRecord.f t410).bind fun bt413 => ((impl_EncodeRecord.f k bt413.1 bt413.2.1 bt413.2.2).bind fun bt417 => ((spec_EncodeRecord.f k bt413.1 bt413.2.1 bt413.2.2).bind fun bt419 => ((laws_vCut.f k l0 2).bind fun t421 => ((spec_DrawIsValidLog.f k t421).bind fun bt424 => ((laws_vCut.f k l0 3).bind fun t428 => ((spec_DrawAppendRecord.f k t428).bind fun bt431 => ((impl_AppendRecord.f k bt431.1 bt431.2.1 bt431.2.2.1 bt431.2.2.2.1 bt431.2.2.2.2).bind fun bt438 => ((spec_AppendRecord.f k bt431.1 bt431.2.1 bt431.2.2.1 bt431.2.2.2.1 bt431.2.2.2.2).bind fun bt443 => ((impl_IsValidRecord.f k bt407.1 bt407.2).bind fun t448 => ((spec_IsValidRecord.f k bt407.1 bt407.2).bind fun t449 => (if (t448 != t449) = true then (laws_FnLogs.j0 k bt438.2.2.2 true bt431.1 bt431.2.1 bt431.2.2.1 bt431.2.2.2.1 bt431.2.2.2.2 bt438.1 bt438.2.1 bt438.2.2.1) else (if bt417.1.toList = bt419.1.toList then (if (bt417.2 != bt419.2) = true then (laws_FnLogs.j0 k bt438.2.2.2 true bt431.1 bt431.2.1 bt431.2.2.1 bt431.2.2.2.1 bt431.2.2.2.2 bt438.1 bt438.2.1 bt438.2.2.1) else ((impl_IsValidLog.f k bt424.1 bt424.2.1 bt424.2.2).bind fun t450 => ((spec_IsValidLog.f k bt424.1 bt424.2.1 bt424.2.2).bind fun t451 => (if (t450 != t451) = true then (laws_FnLogs.j0 k bt438.2.2.2 true bt431.1 bt431.2.1 bt431.2.2.1 bt431.2.2.2.1 bt431.2.2.2.2 bt438.1 bt438.2.1 bt438.2.2.1) else (if (!(bt438.1.toList == bt443.1.toList) || (!(bt438.2.1.toList == bt443.2.1.toList) || (!(bt438.2.2.1 == bt443.2.2.1)))) = true then (laws_FnLogs.j0 k bt438.2.2.2 true bt431.1 bt431.2.1 bt431.2.2.1 bt431.2.2.2.1 bt431.2.2.2.2 bt438.1 bt438.2.1 bt438.2.2.1) else (laws_FnLogs.j0 k bt438.2.2.2 (bt438.2.2.2 != bt443.2.2.2) bt431.1 bt431.2.1 bt431.2.2.1 bt431.2.2.2.1 bt431.2.2.2.2 bt438.1 bt438.2.1 bt438.2.2.1)))))) else (laws_FnLogs.j0 k bt438.2.2.2 true bt431.1 bt431.2.1 bt431.2.2.1 bt431.2.2.2.1 bt431.2.2.2.2 bt438.1 bt438.2.1 bt438.2.2.1)))))))))))))))))) = some r := h
 clear h
 replace H := bem H
 obtain ⟨t406, A20, H⟩ := H
 replace H : (if t406 = true then (some true) else ((spec_DrawIsValidRecord.f l0).bind fun bt407 => ((laws_vCut.f k l0 1).bind fun t410 => ((spec_DrawEncodeRecord.f t410).bind fun bt413 => ((impl_EncodeRecord.f k bt413.1 bt413.2.1 bt413.2.2).bind fun bt417 => ((spec_EncodeRecord.f k bt413.1 bt413.2.1 bt413.2.2).bind fun bt419 => ((laws_vCut.f k l0 2).bind fun t421 => ((spec_DrawIsValidLog.f k t421).bind fun bt424 => ((laws_vCut.f k l0 3).bind fun t428 => ((spec_DrawAppendRecord.f k t428).bind fun bt431 => ((impl_AppendRecord.f k bt431.1 bt431.2.1 bt431.2.2.1 bt431.2.2.2.1 bt431.2.2.2.2).bind fun bt438 => ((spec_AppendRecord.f k bt431.1 bt431.2.1 bt431.2.2.1 bt431.2.2.2.1 bt431.2.2.2.2).bind fun bt443 => ((impl_IsValidRecord.f k bt407.1 bt407.2).bind fun t448 => ((spec_IsValidRecord.f k bt407.1 bt407.2).bind fun t449 => (if (t448 != t449) = true then (laws_FnLogs.j0 k bt438.2.2.2 true bt431.1 bt431.2.1 bt431.2.2.1 bt431.2.2.2.1 bt431.2.2.2.2 bt438.1 bt438.2.1 bt438.2.2.1) else (if bt417.1.toList = bt419.1.toList then (if (bt417.2 != bt419.2) = true then (laws_FnLogs.j0 k bt438.2.2.2 true bt431.1 bt431.2.1 bt431.2.2.1 bt431.2.2.2.1 bt431.2.2.2.2 bt438.1 bt438.2.1 bt438.2.2.1) else ((impl_IsValidLog.f k bt424.1 bt424.2.1 bt424.2.2).bind fun t450 => ((spec_IsValidLog.f k bt424.1 bt424.2.1 bt424.2.2).bind fun t451 => (if (t450 != t451) = true then (laws_FnLogs.j0 k bt438.2.2.2 true bt431.1 bt431.2.1 bt431.2.2.1 bt431.2.2.2.1 bt431.2.2.2.2 bt438.1 bt438.2.1 bt438.2.2.1) else (if (!(bt438.1.toList == bt443.1.toList) || (!(bt438.2.1.toList == bt443.2.1.toList) || (!(bt438.2.2.1 == bt443.2.2.1)))) = true then (laws_FnLogs.j0 k bt438.2.2.2 true bt431.1 bt431.2.1 bt431.2.2.1 bt431.2.2.2.1 bt431.2.2.2.2 bt438.1 bt438.2.1 bt438.2.2.1) else (laws_FnLogs.j0 k bt438.2.2.2 (bt438.2.2.2 != bt443.2.2.2) bt431.1 bt431.2.1 bt431.2.2.1 bt431.2.2.2.1 bt431.2.2.2.2 bt438.1 bt438.2.1 bt438.2.2.1)))))) else (laws_FnLogs.j0 k bt438.2.2.2 true bt431.1 bt431.2.1 bt431.2.2.1 bt431.2.2.2.1 bt431.2.2.2.2 bt438.1 bt438.2.1 bt438.2.2.1))))))))))))))))) = some r := H
 have A2 := am A20
 clear A20
 by_cases c3 : t406 = true
 ·subst c3
  have H1 : (some true) = some r := by rw [if_pos rfl] at H; exact H
  clear H
  have H := H1
  clear H1
  obtain rfl := Option.some.inj H; clear hr
  go_enter Tryd.func11, Tryd.ntmps11
  go_wp2_with (first | ((with_reducible refine gate_callee (f := 14) rfl ?_); refine goesL_ (some 30) rfl rfl Tryd.func14 zq21 rfl #[.slice A0 l0.length c0] rfl zq5 ?_; (with_reducible refine (laws_vBig.calls _ _ l0 true _ ?side1 ?side2 A2.out).mono ?_); (case side1 => repeat (first | exact HR0.out | (with_reducible refine Kd.C_alloc ?_ _) | (with_reducible refine Kd.C_drewN ?_ _) | (with_reducible refine Kd.C_drew ?_))); (case side2 => exact HC0.out); rintro e w' ⟨rfl, ⟨nd, rfl⟩⟩; refine ⟨_, rfl, ?_⟩))
  go_ret
  exact ⟨zq7, zq0⟩
 ·replace c3 := Bool.eq_false_iff.mpr c3
  subst c3
  have H1 : ((spec_DrawIsValidRecord.f l0).bind fun bt407 => ((laws_vCut.f k l0 1).bind fun t410 => ((spec_DrawEncodeRecord.f t410).bind fun bt413 => ((impl_EncodeRecord.f k bt413.1 bt413.2.1 bt413.2.2).bind fun bt417 => ((spec_EncodeRecord.f k bt413.1 bt413.2.1 bt413.2.2).bind fun bt419 => ((laws_vCut.f k l0 2).bind fun t421 => ((spec_DrawIsValidLog.f k t421).bind fun bt424 => ((laws_vCut.f k l0 3).bind fun t428 => ((spec_DrawAppendRecord.f k t428).bind fun bt431 => ((impl_AppendRecord.f k bt431.1 bt431.2.1 bt431.2.2.1 bt431.2.2.2.1 bt431.2.2.2.2).bind fun bt438 => ((spec_AppendRecord.f k bt431.1 bt431.2.1 bt431.2.2.1 bt431.2.2.2.1 bt431.2.2.2.2).bind fun bt443 => ((impl_IsValidRecord.f k bt407.1 bt407.2).bind fun t448 => ((spec_IsValidRecord.f k bt407.1 bt407.2).bind fun t449 => (if (t448 != t449) = true then (laws_FnLogs.j0 k bt438.2.2.2 true bt431.1 bt431.2.1 bt431.2.2.1 bt431.2.2.2.1 bt431.2.2.2.2 bt438.1 bt438.2.1 bt438.2.2.1) else (if bt417.1.toList = bt419.1.toList then (if (bt417.2 != bt419.2) = true then (laws_FnLogs.j0 k bt438.2.2.2 true bt431.1 bt431.2.1 bt431.2.2.1 bt431.2.2.2.1 bt431.2.2.2.2 bt438.1 bt438.2.1 bt438.2.2.1) else ((impl_IsValidLog.f k bt424.1 bt424.2.1 bt424.2.2).bind fun t450 => ((spec_IsValidLog.f k bt424.1 bt424.2.1 bt424.2.2).bind fun t451 => (if (t450 != t451) = true then (laws_FnLogs.j0 k bt438.2.2.2 true bt431.1 bt431.2.1 bt431.2.2.1 bt431.2.2.2.1 bt431.2.2.2.2 bt438.1 bt438.2.1 bt438.2.2.1) else (if (!(bt438.1.toList == bt443.1.toList) || (!(bt438.2.1.toList == bt443.2.1.toList) || (!(bt438.2.2.1 == bt443.2.2.1)))) = true then (laws_FnLogs.j0 k bt438.2.2.2 true bt431.1 bt431.2.1 bt431.2.2.1 bt431.2.2.2.1 bt431.2.2.2.2 bt438.1 bt438.2.1 bt438.2.2.1) else (laws_FnLogs.j0 k bt438.2.2.2 (bt438.2.2.2 != bt443.2.2.2) bt431.1 bt431.2.1 bt431.2.2.1 bt431.2.2.2.1 bt431.2.2.2.2 bt438.1 bt438.2.1 bt438.2.2.1)))))) else (laws_FnLogs.j0 k bt438.2.2.2 true bt431.1 bt431.2.1 bt431.2.2.1 bt431.2.2.2.1 bt431.2.2.2.2 bt438.1 bt438.2.1 bt438.2.2.1)))))))))))))))) = some r := by rw [if_neg (show ¬ (false = true) by decide)] at H; exact H
  clear H
  have H := H1
  clear H1
  replace H := bem H
  obtain ⟨⟨t407, t408⟩, A40, H⟩ := H
  replace H : ((laws_vCut.f k l0 1).bind fun t410 => ((spec_DrawEncodeRecord.f t410).bind fun bt413 => ((impl_EncodeRecord.f k bt413.1 bt413.2.1 bt413.2.2).bind fun bt417 => ((spec_EncodeRecord.f k bt413.1 bt413.2.1 bt413.2.2).bind fun bt419 => ((laws_vCut.f k l0 2).bind fun t421 => ((spec_DrawIsValidLog.f k t421).bind fun bt424 => ((laws_vCut.f k l0 3).bind fun t428 => ((spec_DrawAppendRecord.f k t428).bind fun bt431 => ((impl_AppendRecord.f k bt431.1 bt431.2.1 bt431.2.2.1 bt431.2.2.2.1 bt431.2.2.2.2).bind fun bt438 => ((spec_AppendRecord.f k bt431.1 bt431.2.1 bt431.2.2.1 bt431.2.2.2.1 bt431.2.2.2.2).bind fun bt443 => ((impl_IsValidRecord.f k t407 t408).bind fun t448 => ((spec_IsValidRecord.f k t407 t408).bind fun t449 => (if (t448 != t449) = true then (laws_FnLogs.j0 k bt438.2.2.2 true bt431.1 bt431.2.1 bt431.2.2.1 bt431.2.2.2.1 bt431.2.2.2.2 bt438.1 bt438.2.1 bt438.2.2.1) else (if bt417.1.toList = bt419.1.toList then (if (bt417.2 != bt419.2) = true then (laws_FnLogs.j0 k bt438.2.2.2 true bt431.1 bt431.2.1 bt431.2.2.1 bt431.2.2.2.1 bt431.2.2.2.2 bt438.1 bt438.2.1 bt438.2.2.1) else ((impl_IsValidLog.f k bt424.1 bt424.2.1 bt424.2.2).bind fun t450 => ((spec_IsValidLog.f k bt424.1 bt424.2.1 bt424.2.2).bind fun t451 => (if (t450 != t451) = true then (laws_FnLogs.j0 k bt438.2.2.2 true bt431.1 bt431.2.1 bt431.2.2.1 bt431.2.2.2.1 bt431.2.2.2.2 bt438.1 bt438.2.1 bt438.2.2.1) else (if (!(bt438.1.toList == bt443.1.toList) || (!(bt438.2.1.toList == bt443.2.1.toList) || (!(bt438.2.2.1 == bt443.2.2.1)))) = true then (laws_FnLogs.j0 k bt438.2.2.2 true bt431.1 bt431.2.1 bt431.2.2.1 bt431.2.2.2.1 bt431.2.2.2.2 bt438.1 bt438.2.1 bt438.2.2.1) else (laws_FnLogs.j0 k bt438.2.2.2 (bt438.2.2.2 != bt443.2.2.2) bt431.1 bt431.2.1 bt431.2.2.1 bt431.2.2.2.1 bt431.2.2.2.2 bt438.1 bt438.2.1 bt438.2.2.1)))))) else (laws_FnLogs.j0 k bt438.2.2.2 true bt431.1 bt431.2.1 bt431.2.2.1 bt431.2.2.2.1 bt431.2.2.2.2 bt438.1 bt438.2.1 bt438.2.2.1))))))))))))))) = some r := H
  have A4 := am A40
  clear A40
  replace H := bem H
  obtain ⟨t410, A50, H⟩ := H
  replace H : ((spec_DrawEncodeRecord.f t410).bind fun bt413 => ((impl_EncodeRecord.f k bt413.1 bt413.2.1 bt413.2.2).bind fun bt417 => ((spec_EncodeRecord.f k bt413.1 bt413.2.1 bt413.2.2).bind fun bt419 => ((laws_vCut.f k l0 2).bind fun t421 => ((spec_DrawIsValidLog.f k t421).bind fun bt424 => ((laws_vCut.f k l0 3).bind fun t428 => ((spec_DrawAppendRecord.f k t428).bind fun bt431 => ((impl_AppendRecord.f k bt431.1 bt431.2.1 bt431.2.2.1 bt431.2.2.2.1 bt431.2.2.2.2).bind fun bt438 => ((spec_AppendRecord.f k bt431.1 bt431.2.1 bt431.2.2.1 bt431.2.2.2.1 bt431.2.2.2.2).bind fun bt443 => ((impl_IsValidRecord.f k t407 t408).bind fun t448 => ((spec_IsValidRecord.f k t407 t408).bind fun t449 => (if (t448 != t449) = true then (laws_FnLogs.j0 k bt438.2.2.2 true bt431.1 bt431.2.1 bt431.2.2.1 bt431.2.2.2.1 bt431.2.2.2.2 bt438.1 bt438.2.1 bt438.2.2.1) else (if bt417.1.toList = bt419.1.toList then (if (bt417.2 != bt419.2) = true then (laws_FnLogs.j0 k bt438.2.2.2 true bt431.1 bt431.2.1 bt431.2.2.1 bt431.2.2.2.1 bt431.2.2.2.2 bt438.1 bt438.2.1 bt438.2.2.1) else ((impl_IsValidLog.f k bt424.1 bt424.2.1 bt424.2.2).bind fun t450 => ((spec_IsValidLog.f k bt424.1 bt424.2.1 bt424.2.2).bind fun t451 => (if (t450 != t451) = true then (laws_FnLogs.j0 k bt438.2.2.2 true bt431.1 bt431.2.1 bt431.2.2.1 bt431.2.2.2.1 bt431.2.2.2.2 bt438.1 bt438.2.1 bt438.2.2.1) else (if (!(bt438.1.toList == bt443.1.toList) || (!(bt438.2.1.toList == bt443.2.1.toList) || (!(bt438.2.2.1 == bt443.2.2.1)))) = true then (laws_FnLogs.j0 k bt438.2.2.2 true bt431.1 bt431.2.1 bt431.2.2.1 bt431.2.2.2.1 bt431.2.2.2.2 bt438.1 bt438.2.1 bt438.2.2.1) else (laws_FnLogs.j0 k bt438.2.2.2 (bt438.2.2.2 != bt443.2.2.2) bt431.1 bt431.2.1 bt431.2.2.1 bt431.2.2.2.1 bt431.2.2.2.2 bt438.1 bt438.2.1 bt438.2.2.1)))))) else (laws_FnLogs.j0 k bt438.2.2.2 true bt431.1 bt431.2.1 bt431.2.2.1 bt431.2.2.2.1 bt431.2.2.2.2 bt438.1 bt438.2.1 bt438.2.2.1)))))))))))))) = some r := H
  have A5 := am A50
  clear A50
  replace H := bem H
  obtain ⟨⟨t413, t414, t415⟩, A60, H⟩ := H
  replace H : ((impl_EncodeRecord.f k t413 t414 t415).bind fun bt417 => ((spec_EncodeRecord.f k t413 t414 t415).bind fun bt419 => ((laws_vCut.f k l0 2).bind fun t421 => ((spec_DrawIsValidLog.f k t421).bind fun bt424 => ((laws_vCut.f k l0 3).bind fun t428 => ((spec_DrawAppendRecord.f k t428).bind fun bt431 => ((impl_AppendRecord.f k bt431.1 bt431.2.1 bt431.2.2.1 bt431.2.2.2.1 bt431.2.2.2.2).bind fun bt438 => ((spec_AppendRecord.f k bt431.1 bt431.2.1 bt431.2.2.1 bt431.2.2.2.1 bt431.2.2.2.2).bind fun bt443 => ((impl_IsValidRecord.f k t407 t408).bind fun t448 => ((spec_IsValidRecord.f k t407 t408).bind fun t449 => (if (t448 != t449) = true then (laws_FnLogs.j0 k bt438.2.2.2 true bt431.1 bt431.2.1 bt431.2.2.1 bt431.2.2.2.1 bt431.2.2.2.2 bt438.1 bt438.2.1 bt438.2.2.1) else (if bt417.1.toList = bt419.1.toList then (if (bt417.2 != bt419.2) = true then (laws_FnLogs.j0 k bt438.2.2.2 true bt431.1 bt431.2.1 bt431.2.2.1 bt431.2.2.2.1 bt431.2.2.2.2 bt438.1 bt438.2.1 bt438.2.2.1) else ((impl_IsValidLog.f k bt424.1 bt424.2.1 bt424.2.2).bind fun t450 => ((spec_IsValidLog.f k bt424.1 bt424.2.1 bt424.2.2).bind fun t451 => (if (t450 != t451) = true then (laws_FnLogs.j0 k bt438.2.2.2 true bt431.1 bt431.2.1 bt431.2.2.1 bt431.2.2.2.1 bt431.2.2.2.2 bt438.1 bt438.2.1 bt438.2.2.1) else (if (!(bt438.1.toList == bt443.1.toList) || (!(bt438.2.1.toList == bt443.2.1.toList) || (!(bt438.2.2.1 == bt443.2.2.1)))) = true then (laws_FnLogs.j0 k bt438.2.2.2 true bt431.1 bt431.2.1 bt431.2.2.1 bt431.2.2.2.1 bt431.2.2.2.2 bt438.1 bt438.2.1 bt438.2.2.1) else (laws_FnLogs.j0 k bt438.2.2.2 (bt438.2.2.2 != bt443.2.2.2) bt431.1 bt431.2.1 bt431.2.2.1 bt431.2.2.2.1 bt431.2.2.2.2 bt438.1 bt438.2.1 bt438.2.2.1)))))) else (laws_FnLogs.j0 k bt438.2.2.2 true bt431.1 bt431.2.1 bt431.2.2.1 bt431.2.2.2.1 bt431.2.2.2.2 bt438.1 bt438.2.1 bt438.2.2.1))))))))))))) = some r := H
  have A6 := am A60
  clear A60
  replace H := bem H
  obtain ⟨⟨t417, t418⟩, A70, H⟩ := H
  replace H : ((spec_EncodeRecord.f k t413 t414 t415).bind fun bt419 => ((laws_vCut.f k l0 2).bind fun t421 => ((spec_DrawIsValidLog.f k t421).bind fun bt424 => ((laws_vCut.f k l0 3).bind fun t428 => ((spec_DrawAppendRecord.f k t428).bind fun bt431 => ((impl_AppendRecord.f k bt431.1 bt431.2.1 bt431.2.2.1 bt431.2.2.2.1 bt431.2.2.2.2).bind fun bt438 => ((spec_AppendRecord.f k bt431.1 bt431.2.1 bt431.2.2.1 bt431.2.2.2.1 bt431.2.2.2.2).bind fun bt443 => ((impl_IsValidRecord.f k t407 t408).bind fun t448 => ((spec_IsValidRecord.f k t407 t408).bind fun t449 => (if (t448 != t449) = true then (laws_FnLogs.j0 k bt438.2.2.2 true bt431.1 bt431.2.1 bt431.2.2.1 bt431.2.2.2.1 bt431.2.2.2.2 bt438.1 bt438.2.1 bt438.2.2.1) else (if t417.toList = bt419.1.toList then (if (t418 != bt419.2) = true then (laws_FnLogs.j0 k bt438.2.2.2 true bt431.1 bt431.2.1 bt431.2.2.1 bt431.2.2.2.1 bt431.2.2.2.2 bt438.1 bt438.2.1 bt438.2.2.1) else ((impl_IsValidLog.f k bt424.1 bt424.2.1 bt424.2.2).bind fun t450 => ((spec_IsValidLog.f k bt424.1 bt424.2.1 bt424.2.2).bind fun t451 => (if (t450 != t451) = true then (laws_FnLogs.j0 k bt438.2.2.2 true bt431.1 bt431.2.1 bt431.2.2.1 bt431.2.2.2.1 bt431.2.2.2.2 bt438.1 bt438.2.1 bt438.2.2.1) else (if (!(bt438.1.toList == bt443.1.toList) || (!(bt438.2.1.toList == bt443.2.1.toList) || (!(bt438.2.2.1 == bt443.2.2.1)))) = true then (laws_FnLogs.j0 k bt438.2.2.2 true bt431.1 bt431.2.1 bt431.2.2.1 bt431.2.2.2.1 bt431.2.2.2.2 bt438.1 bt438.2.1 bt438.2.2.1) else (laws_FnLogs.j0 k bt438.2.2.2 (bt438.2.2.2 != bt443.2.2.2) bt431.1 bt431.2.1 bt431.2.2.1 bt431.2.2.2.1 bt431.2.2.2.2 bt438.1 bt438.2.1 bt438.2.2.1)))))) else (laws_FnLogs.j0 k bt438.2.2.2 true bt431.1 bt431.2.1 bt431.2.2.1 bt431.2.2.2.1 bt431.2.2.2.2 bt438.1 bt438.2.1 bt438.2.2.1)))))))))))) = some r := H
  have A7 := am A70
  clear A70
  replace H := bem H
  obtain ⟨⟨t419, t420⟩, A80, H⟩ := H
  replace H : ((laws_vCut.f k l0 2).bind fun t421 => ((spec_DrawIsValidLog.f k t421).bind fun bt424 => ((laws_vCut.f k l0 3).bind fun t428 => ((spec_DrawAppendRecord.f k t428).bind fun bt431 => ((impl_AppendRecord.f k bt431.1 bt431.2.1 bt431.2.2.1 bt431.2.2.2.1 bt431.2.2.2.2).bind fun bt438 => ((spec_AppendRecord.f k bt431.1 bt431.2.1 bt431.2.2.1 bt431.2.2.2.1 bt431.2.2.2.2).bind fun bt443 => ((impl_IsValidRecord.f k t407 t408).bind fun t448 => ((spec_IsValidRecord.f k t407 t408).bind fun t449 => (if (t448 != t449) = true then (laws_FnLogs.j0 k bt438.2.2.2 true bt431.1 bt431.2.1 bt431.2.2.1 bt431.2.2.2.1 bt431.2.2.2.2 bt438.1 bt438.2.1 bt438.2.2.1) else (if t417.toList = t419.toList then (if (t418 != t420) = true then (laws_FnLogs.j0 k bt438.2.2.2 true bt431.1 bt431.2.1 bt431.2.2.1 bt431.2.2.2.1 bt431.2.2.2.2 bt438.1 bt438.2.1 bt438.2.2.1) else ((impl_IsValidLog.f k bt424.1 bt424.2.1 bt424.2.2).bind fun t450 => ((spec_IsValidLog.f k bt424.1 bt424.2.1 bt424.2.2).bind fun t451 => (if (t450 != t451) = true then (laws_FnLogs.j0 k bt438.2.2.2 true bt431.1 bt431.2.1 bt431.2.2.1 bt431.2.2.2.1 bt431.2.2.2.2 bt438.1 bt438.2.1 bt438.2.2.1) else (if (!(bt438.1.toList == bt443.1.toList) || (!(bt438.2.1.toList == bt443.2.1.toList) || (!(bt438.2.2.1 == bt443.2.2.1)))) = true then (laws_FnLogs.j0 k bt438.2.2.2 true bt431.1 bt431.2.1 bt431.2.2.1 bt431.2.2.2.1 bt431.2.2.2.2 bt438.1 bt438.2.1 bt438.2.2.1) else (laws_FnLogs.j0 k bt438.2.2.2 (bt438.2.2.2 != bt443.2.2.2) bt431.1 bt431.2.1 bt431.2.2.1 bt431.2.2.2.1 bt431.2.2.2.2 bt438.1 bt438.2.1 bt438.2.2.1)))))) else (laws_FnLogs.j0 k bt438.2.2.2 true bt431.1 bt431.2.1 bt431.2.2.1 bt431.2.2.2.1 bt431.2.2.2.2 bt438.1 bt438.2.1 bt438.2.2.1))))))))))) = some r := H
  have A8 := am A80
  clear A80
  replace H := bem H
  obtain ⟨t421, A90, H⟩ := H
  replace H : ((spec_DrawIsValidLog.f k t421).bind fun bt424 => ((laws_vCut.f k l0 3).bind fun t428 => ((spec_DrawAppendRecord.f k t428).bind fun bt431 => ((impl_AppendRecord.f k bt431.1 bt431.2.1 bt431.2.2.1 bt431.2.2.2.1 bt431.2.2.2.2).bind fun bt438 => ((spec_AppendRecord.f k bt431.1 bt431.2.1 bt431.2.2.1 bt431.2.2.2.1 bt431.2.2.2.2).bind fun bt443 => ((impl_IsValidRecord.f k t407 t408).bind fun t448 => ((spec_IsValidRecord.f k t407 t408).bind fun t449 => (if (t448 != t449) = true then (laws_FnLogs.j0 k bt438.2.2.2 true bt431.1 bt431.2.1 bt431.2.2.1 bt431.2.2.2.1 bt431.2.2.2.2 bt438.1 bt438.2.1 bt438.2.2.1) else (if t417.toList = t419.toList then (if (t418 != t420) = true then (laws_FnLogs.j0 k bt438.2.2.2 true bt431.1 bt431.2.1 bt431.2.2.1 bt431.2.2.2.1 bt431.2.2.2.2 bt438.1 bt438.2.1 bt438.2.2.1) else ((impl_IsValidLog.f k bt424.1 bt424.2.1 bt424.2.2).bind fun t450 => ((spec_IsValidLog.f k bt424.1 bt424.2.1 bt424.2.2).bind fun t451 => (if (t450 != t451) = true then (laws_FnLogs.j0 k bt438.2.2.2 true bt431.1 bt431.2.1 bt431.2.2.1 bt431.2.2.2.1 bt431.2.2.2.2 bt438.1 bt438.2.1 bt438.2.2.1) else (if (!(bt438.1.toList == bt443.1.toList) || (!(bt438.2.1.toList == bt443.2.1.toList) || (!(bt438.2.2.1 == bt443.2.2.1)))) = true then (laws_FnLogs.j0 k bt438.2.2.2 true bt431.1 bt431.2.1 bt431.2.2.1 bt431.2.2.2.1 bt431.2.2.2.2 bt438.1 bt438.2.1 bt438.2.2.1) else (laws_FnLogs.j0 k bt438.2.2.2 (bt438.2.2.2 != bt443.2.2.2) bt431.1 bt431.2.1 bt431.2.2.1 bt431.2.2.2.1 bt431.2.2.2.2 bt438.1 bt438.2.1 bt438.2.2.1)))))) else (laws_FnLogs.j0 k bt438.2.2.2 true bt431.1 bt431.2.1 bt431.2.2.1 bt431.2.2.2.1 bt431.2.2.2.2 bt438.1 bt438.2.1 bt438.2.2.1)))))))))) = some r := H
  have A9 := am A90
  clear A90
  replace H := bem H
  obtain ⟨⟨t424, t425, t426⟩, A100, H⟩ := H
  replace H : ((laws_vCut.f k l0 3).bind fun t428 => ((spec_DrawAppendRecord.f k t428).bind fun bt431 => ((impl_AppendRecord.f k bt431.1 bt431.2.1 bt431.2.2.1 bt431.2.2.2.1 bt431.2.2.2.2).bind fun bt438 => ((spec_AppendRecord.f k bt431.1 bt431.2.1 bt431.2.2.1 bt431.2.2.2.1 bt431.2.2.2.2).bind fun bt443 => ((impl_IsValidRecord.f k t407 t408).bind fun t448 => ((spec_IsValidRecord.f k t407 t408).bind fun t449 => (if (t448 != t449) = true then (laws_FnLogs.j0 k bt438.2.2.2 true bt431.1 bt431.2.1 bt431.2.2.1 bt431.2.2.2.1 bt431.2.2.2.2 bt438.1 bt438.2.1 bt438.2.2.1) else (if t417.toList = t419.toList then (if (t418 != t420) = true then (laws_FnLogs.j0 k bt438.2.2.2 true bt431.1 bt431.2.1 bt431.2.2.1 bt431.2.2.2.1 bt431.2.2.2.2 bt438.1 bt438.2.1 bt438.2.2.1) else ((impl_IsValidLog.f k t424 t425 t426).bind fun t450 => ((spec_IsValidLog.f k t424 t425 t426).bind fun t451 => (if (t450 != t451) = true then (laws_FnLogs.j0 k bt438.2.2.2 true bt431.1 bt431.2.1 bt431.2.2.1 bt431.2.2.2.1 bt431.2.2.2.2 bt438.1 bt438.2.1 bt438.2.2.1) else (if (!(bt438.1.toList == bt443.1.toList) || (!(bt438.2.1.toList == bt443.2.1.toList) || (!(bt438.2.2.1 == bt443.2.2.1)))) = true then (laws_FnLogs.j0 k bt438.2.2.2 true bt431.1 bt431.2.1 bt431.2.2.1 bt431.2.2.2.1 bt431.2.2.2.2 bt438.1 bt438.2.1 bt438.2.2.1) else (laws_FnLogs.j0 k bt438.2.2.2 (bt438.2.2.2 != bt443.2.2.2) bt431.1 bt431.2.1 bt431.2.2.1 bt431.2.2.2.1 bt431.2.2.2.2 bt438.1 bt438.2.1 bt438.2.2.1)))))) else (laws_FnLogs.j0 k bt438.2.2.2 true bt431.1 bt431.2.1 bt431.2.2.1 bt431.2.2.2.1 bt431.2.2.2.2 bt438.1 bt438.2.1 bt438.2.2.1))))))))) = some r := H
  have A10 := am A100
  clear A100
  replace H := bem H
  obtain ⟨t428, A110, H⟩ := H
  replace H : ((spec_DrawAppendRecord.f k t428).bind fun bt431 => ((impl_AppendRecord.f k bt431.1 bt431.2.1 bt431.2.2.1 bt431.2.2.2.1 bt431.2.2.2.2).bind fun bt438 => ((spec_AppendRecord.f k bt431.1 bt431.2.1 bt431.2.2.1 bt431.2.2.2.1 bt431.2.2.2.2).bind fun bt443 => ((impl_IsValidRecord.f k t407 t408).bind fun t448 => ((spec_IsValidRecord.f k t407 t408).bind fun t449 => (if (t448 != t449) = true then (laws_FnLogs.j0 k bt438.2.2.2 true bt431.1 bt431.2.1 bt431.2.2.1 bt431.2.2.2.1 bt431.2.2.2.2 bt438.1 bt438.2.1 bt438.2.2.1) else (if t417.toList = t419.toList then (if (t418 != t420) = true then (laws_FnLogs.j0 k bt438.2.2.2 true bt431.1 bt431.2.1 bt431.2.2.1 bt431.2.2.2.1 bt431.2.2.2.2 bt438.1 bt438.2.1 bt438.2.2.1) else ((impl_IsValidLog.f k t424 t425 t426).bind fun t450 => ((spec_IsValidLog.f k t424 t425 t426).bind fun t451 => (if (t450 != t451) = true then (laws_FnLogs.j0 k bt438.2.2.2 true bt431.1 bt431.2.1 bt431.2.2.1 bt431.2.2.2.1 bt431.2.2.2.2 bt438.1 bt438.2.1 bt438.2.2.1) else (if (!(bt438.1.toList == bt443.1.toList) || (!(bt438.2.1.toList == bt443.2.1.toList) || (!(bt438.2.2.1 == bt443.2.2.1)))) = true then (laws_FnLogs.j0 k bt438.2.2.2 true bt431.1 bt431.2.1 bt431.2.2.1 bt431.2.2.2.1 bt431.2.2.2.2 bt438.1 bt438.2.1 bt438.2.2.1) else (laws_FnLogs.j0 k bt438.2.2.2 (bt438.2.2.2 != bt443.2.2.2) bt431.1 bt431.2.1 bt431.2.2.1 bt431.2.2.2.1 bt431.2.2.2.2 bt438.1 bt438.2.1 bt438.2.2.1)))))) else (laws_FnLogs.j0 k bt438.2.2.2 true bt431.1 bt431.2.1 bt431.2.2.1 bt431.2.2.2.1 bt431.2.2.2.2 bt438.1 bt438.2.1 bt438.2.2.1)))))))) = some r := H
  have A11 := am A110
  clear A110
  replace H := bem H
  obtain ⟨⟨t431, t432, t433, t434, t435⟩, A120, H⟩ := H
  replace H : ((impl_AppendRecord.f k t431 t432 t433 t434 t435).bind fun bt438 => ((spec_AppendRecord.f k t431 t432 t433 t434 t435).bind fun bt443 => ((impl_IsValidRecord.f k t407 t408).bind fun t448 => ((spec_IsValidRecord.f k t407 t408).bind fun t449 => (if (t448 != t449) = true then (laws_FnLogs.j0 k bt438.2.2.2 true t431 t432 t433 t434 t435 bt438.1 bt438.2.1 bt438.2.2.1) else (if t417.toList = t419.toList then (if (t418 != t420) = true then (laws_FnLogs.j0 k bt438.2.2.2 true t431 t432 t433 t434 t435 bt438.1 bt438.2.1 bt438.2.2.1) else ((impl_IsValidLog.f k t424 t425 t426).bind fun t450 => ((spec_IsValidLog.f k t424 t425 t426).bind fun t451 => (if (t450 != t451) = true then (laws_FnLogs.j0 k bt438.2.2.2 true t431 t432 t433 t434 t435 bt438.1 bt438.2.1 bt438.2.2.1) else (if (!(bt438.1.toList == bt443.1.toList) || (!(bt438.2.1.toList == bt443.2.1.toList) || (!(bt438.2.2.1 == bt443.2.2.1)))) = true then (laws_FnLogs.j0 k bt438.2.2.2 true t431 t432 t433 t434 t435 bt438.1 bt438.2.1 bt438.2.2.1) else (laws_FnLogs.j0 k bt438.2.2.2 (bt438.2.2.2 != bt443.2.2.2) t431 t432 t433 t434 t435 bt438.1 bt438.2.1 bt438.2.2.1)))))) else (laws_FnLogs.j0 k bt438.2.2.2 true t431 t432 t433 t434 t435 bt438.1 bt438.2.1 bt438.2.2.1))))))) = some r := H
  have A12 := am A120
  clear A120
  replace H := bem H
  obtain ⟨⟨t438, t439, t440, t441⟩, A130, H⟩ := H
  replace H : ((spec_AppendRecord.f k t431 t432 t433 t434 t435).bind fun bt443 => ((impl_IsValidRecord.f k t407 t408).bind fun t448 => ((spec_IsValidRecord.f k t407 t408).bind fun t449 => (if (t448 != t449) = true then (laws_FnLogs.j0 k t441 true t431 t432 t433 t434 t435 t438 t439 t440) else (if t417.toList = t419.toList then (if (t418 != t420) = true then (laws_FnLogs.j0 k t441 true t431 t432 t433 t434 t435 t438 t439 t440) else ((impl_IsValidLog.f k t424 t425 t426).bind fun t450 => ((spec_IsValidLog.f k t424 t425 t426).bind fun t451 => (if (t450 != t451) = true then (laws_FnLogs.j0 k t441 true t431 t432 t433 t434 t435 t438 t439 t440) else (if (!(t438.toList == bt443.1.toList) || (!(t439.toList == bt443.2.1.toList) || (!(t440 == bt443.2.2.1)))) = true then (laws_FnLogs.j0 k t441 true t431 t432 t433 t434 t435 t438 t439 t440) else (laws_FnLogs.j0 k t441 (t441 != bt443.2.2.2) t431 t432 t433 t434 t435 t438 t439 t440)))))) else (laws_FnLogs.j0 k t441 true t431 t432 t433 t434 t435 t438 t439 t440)))))) = some r := H
  have A13 := am A130
  clear A130
  replace H := bem H
  obtain ⟨⟨t443, t444, t445, t446⟩, A140, H⟩ := H
  replace H : ((impl_IsValidRecord.f k t407 t408).bind fun t448 => ((spec_IsValidRecord.f k t407 t408).bind fun t449 => (if (t448 != t449) = true then (laws_FnLogs.j0 k t441 true t431 t432 t433 t434 t435 t438 t439 t440) else (if t417.toList = t419.toList then (if (t418 != t420) = true then (laws_FnLogs.j0 k t441 true t431 t432 t433 t434 t435 t438 t439 t440) else ((impl_IsValidLog.f k t424 t425 t426).bind fun t450 => ((spec_IsValidLog.f k t424 t425 t426).bind fun t451 => (if (t450 != t451) = true then (laws_FnLogs.j0 k t441 true t431 t432 t433 t434 t435 t438 t439 t440) else (if (!(t438.toList == t443.toList) || (!(t439.toList == t444.toList) || (!(t440 == t445)))) = true then (laws_FnLogs.j0 k t441 true t431 t432 t433 t434 t435 t438 t439 t440) else (laws_FnLogs.j0 k t441 (t441 != t446) t431 t432 t433 t434 t435 t438 t439 t440)))))) else (laws_FnLogs.j0 k t441 true t431 t432 t433 t434 t435 t438 t439 t440))))) = some r := H
  have A14 := am A140
  clear A140
  have HC15 := am H
  clear H
  go_enter Tryd.func11, Tryd.ntmps11
  go_upto_region 11 with (first | ((with_reducible refine gate_callee (f := 14) rfl ?_); refine goesL_ (some 30) rfl rfl Tryd.func14 zq21 rfl #[.slice A0 l0.length c0] rfl zq5 ?_; (with_reducible refine (laws_vBig.calls _ _ l0 false _ ?side1 ?side2 A2.out).mono ?_); (case side1 => repeat (first | exact HR0.out | (with_reducible refine Kd.C_alloc ?_ _) | (with_reducible refine Kd.C_drewN ?_ _) | (with_reducible refine Kd.C_drew ?_))); (case side2 => exact HC0.out); rintro e w' ⟨rfl, ⟨nd, rfl⟩⟩; refine ⟨_, rfl, ?_⟩) | ((with_reducible refine gate_callee (f := 45) rfl ?_); refine goesL_ (some 32) rfl rfl Tryd.func45 zq21 rfl #[.slice A0 l0.length c0] rfl zq5 ?_; (with_reducible refine (spec_DrawIsValidRecord.calls _ _ l0 t407 t408 _ ?side1 ?side2 A4.out).mono ?_); (case side1 => repeat (first | exact HR0.out | (with_reducible refine Kd.C_alloc ?_ _) | (with_reducible refine Kd.C_drewN ?_ _) | (with_reducible refine Kd.C_drew ?_))); (case side2 => exact HC0.out); rintro e w16 ⟨rfl, hb⟩; refine ⟨_, rfl, ?_⟩; have n0_ := am (below_step zq0 hb); clear HB; have HB := n0_; clear n0_; (try clear hb); (try clear hb2); (try clear hk); (try clear hi)) | ((with_reducible refine gate_dst (N := 3) rfl ?_); (try (refine gate_guard (by rfl) ?_; dsimp only)); refine box_event ?hg (N := 3) ?hd (cs := #[.string ⟨#[]⟩, .string ⟨#[]⟩]) (t := 38) ?hr ?_; (case hd => rfl); (case hg => rfl); (case hr => first | (go_simp; done) | (go_simp; rfl)); intro gb409 hg w17 hbox hb; have n0_ := am (below_step zq0 hb); have n1_ := am (hbox); have n2_ := am ((zq8 : w.heap.size ≤ gb409)); have n3_ := am ((zq8 : w.heap.size ≤ gb409)); clear HB; have HB := n0_; have BK409 := n1_; have GW409 := n2_; have GE409 := n3_; clear n0_ n1_ n2_ n3_; clear hb hbox hg; have hcz18_0 : w17.cell? ⟨gb409, 0, none⟩ = some (.string ⟨#[]⟩) := (blk_cell BK409.out 0).trans rfl; have hcz18_1 : w17.cell? ⟨gb409, 1, none⟩ = some (.string ⟨#[]⟩) := (blk_cell BK409.out 1).trans rfl; have hfz18_0 := blk_frozen BK409.out 0; have hfz18_1 := blk_frozen BK409.out 1) | ((with_reducible refine gate_callee (f := 47) rfl ?_); refine goesL_ (some 35) rfl rfl Tryd.func47 zq21 rfl #[.slice A0 l0.length c0, .int .i64 1] rfl zq5 ?_; (with_reducible refine (laws_vCut.calls k _ _ l0 1 t410 _ ?side1 ?side2 A5.out).mono ?_); (case side1 => exact Kd.C_below HR0.out zq149); (case side2 => exact HC0.out); rintro e w19 ⟨v411, rfl, ho0, hb⟩; refine ⟨_, rfl, ?_⟩; have n0_ := am (Kd.R_lower ho0 (below_size zq149)); have n1_ := am (blk_below (g := gb409) (o := .cells #[.string t407, .string t408] 38 (0, 0)) (by (with_reducible repeat (first | refine blk_drewN ?_ _ | refine blk_drew ?_ | refine blk_alloc ?_ _)); refine blk_put (cs := #[.string t407, .string ⟨#[]⟩]) ?_ 1 _ rfl; (with_reducible repeat (first | refine blk_drewN ?_ _ | refine blk_drew ?_ | refine blk_alloc ?_ _)); refine blk_put (cs := #[.string ⟨#[]⟩, .string ⟨#[]⟩]) ?_ 0 _ rfl; (with_reducible repeat (first | refine blk_drewN ?_ _ | refine blk_drew ?_ | refine blk_alloc ?_ _)); exact BK409.out) hb); have n2_ := am (below_step zq149 hb); clear BK409; clear HB; have HO412 := n0_; have BK409 := n1_; have HB := n2_; clear n0_ n1_ n2_; (try clear hb); (try clear hb2); (try clear hk); (try clear hi); (try clear ho0); obtain ⟨Ao20, co20, eo20⟩ := Kd.R_slice HO412.out; subst eo20) | ((with_reducible refine gate_callee (f := 46) rfl ?_); refine goesL_ (some 36) rfl rfl Tryd.func46 zq21 rfl #[.slice Ao20 t410.length co20] rfl zq5 ?_; (with_reducible refine (spec_DrawEncodeRecord.calls _ _ t410 t413 t414 t415 _ ?side1 ?side2 A6.out).mono ?_); (case side1 => repeat (first | exact (Kd.R_reads' HO412.out).2.2 | (with_reducible refine Kd.C_alloc ?_ _) | (with_reducible refine Kd.C_drewN ?_ _) | (with_reducible refine Kd.C_drew ?_))); (case side2 => exact (Kd.R_reads' HO412.out).2.1); rintro e w21 ⟨rfl, hb⟩; refine ⟨_, rfl, ?_⟩; have n0_ := am (Kd.R_below zq143 hb); have n1_ := am (blk_below (g := gb409) (o := .cells #[.string t407, .string t408] 38 (0, 0)) zq134 hb); have n2_ := am (below_step zq149 hb); clear HO412; clear BK409; clear HB; have HO412 := n0_; have BK409 := n1_; have HB := n2_; clear n0_ n1_ n2_; (try clear hb); (try clear hb2); (try clear hk); (try clear hi)) | ((with_reducible refine gate_dst (N := 5) rfl ?_); (try (refine gate_guard (by rfl) ?_; dsimp only)); refine box_event ?hg (N := 5) ?hd (cs := #[.string ⟨#[]⟩, .string ⟨#[]⟩]) (t := 38) ?hr ?_; (case hd => rfl); (case hg => rfl); (case hr => first | (go_simp; done) | (go_simp; rfl)); intro gb416 hg w22 hbox hb; have n0_ := am (Kd.R_below zq143 hb); have n1_ := am (blk_below (g := gb409) (o := .cells #[.string t407, .string t408] 38 (0, 0)) zq134 hb); have n2_ := am (below_step zq149 hb); have n3_ := am (hbox); have n4_ := am ((by rw [hg]; exact (below_size zq149) : w.heap.size ≤ gb416)); have n5_ := am ((by rw [hg]; exact (below_size zq149) : w.heap.size ≤ gb416)); have n6_ := am ((zq152 : gb409 ≠ gb416)); have n7_ := am ((zq153 : gb416 ≠ gb409)); clear HO412; clear BK409; clear HB; have HO412 := n0_; have BK409 := n1_; have HB := n2_; have BK416 := n3_; have GW416 := n4_; have GE416 := n5_; have NB409_416 := n6_; have NB416_409 := n7_; clear n0_ n1_ n2_ n3_ n4_ n5_ n6_ n7_; clear hb hbox hg; have hnb23 := NB416_409.out; have hnc23 := NB409_416.out; have hcz24_0 : w22.cell? ⟨gb416, 0, none⟩ = some (.string ⟨#[]⟩) := (blk_cell BK416.out 0).trans rfl; have hcz24_1 : w22.cell? ⟨gb416, 1, none⟩ = some (.string ⟨#[]⟩) := (blk_cell BK416.out 1).trans rfl; have hfz24_0 := blk_frozen BK416.out 0; have hfz24_1 := blk_frozen BK416.out 1) | ((with_reducible refine gate_callee (f := 26) rfl ?_); refine goesL_ (some 42) rfl rfl Tryd.func26 zq21 rfl #[.int .i64 t413, .agg #[.string t414, .string t415]] rfl zq5 ?_; (with_reducible refine (impl_EncodeRecord.calls k t413 t414 t415 t417 t418 _ ?side1 A7.out).mono ?_); (case side1 => exact Glob.below HGL.out zq142); rintro e w25 ⟨rfl, hb⟩; refine ⟨_, rfl, ?_⟩; have n0_ := am (Kd.R_below (by (with_reducible repeat (first | apply Kd.R_alloc | apply Kd.R_drewN | apply Kd.R_drew)); exact (Kd.R_mono (Kd.R_far (p := ⟨gb416, 1, none⟩) (Kd.R_far (p := ⟨gb416, 0, none⟩) (Kd.R_types HO412.out BK416.out zq173) (fun _ hk => hk.2) (.string t414)) (fun _ hk => hk.2) (.string t415)) (fun _ h_ => h_.1))) hb); have n1_ := am (blk_below (g := gb409) (o := .cells #[.string t407, .string t408] 38 (0, 0)) (by (with_reducible repeat (first | refine blk_drewN ?_ _ | refine blk_drew ?_ | refine blk_alloc ?_ _)); refine blk_far ?_ NB409_416.out _; (with_reducible repeat (first | refine blk_drewN ?_ _ | refine blk_drew ?_ | refine blk_alloc ?_ _)); refine blk_far ?_ NB409_416.out _; (with_reducible repeat (first | refine blk_drewN ?_ _ | refine blk_drew ?_ | refine blk_alloc ?_ _)); exact BK409.out) hb); have n2_ := am (blk_below (g := gb416) (o := .cells #[.string t414, .string t415] 38 (0, 0)) (by (with_reducible repeat (first | refine blk_drewN ?_ _ | refine blk_drew ?_ | refine blk_alloc ?_ _)); refine blk_put (cs := #[.string t414, .string ⟨#[]⟩]) ?_ 1 _ rfl; (with_reducible repeat (first | refine blk_drewN ?_ _ | refine blk_drew ?_ | refine blk_alloc ?_ _)); refine blk_put (cs := #[.string ⟨#[]⟩, .string ⟨#[]⟩]) ?_ 0 _ rfl; (with_reducible repeat (first | refine blk_drewN ?_ _ | refine blk_drew ?_ | refine blk_alloc ?_ _)); exact BK416.out) hb); have n3_ := am (below_step zq142 hb); clear HO412; clear BK409; clear BK416; clear HB; have HO412 := n0_; have BK409 := n1_; have BK416 := n2_; have HB := n3_; clear n0_ n1_ n2_ n3_; (try clear hb); (try clear hb2); (try clear hk); (try clear hi); have hcz26_0 : w25.cell? ⟨gb416, 0, none⟩ = some (.string t414) := (blk_cell BK416.out 0).trans rfl; have hcz26_1 : w25.cell? ⟨gb416, 1, none⟩ = some (.string t415) := (blk_cell BK416.out 1).trans rfl; have hfz26_0 := blk_frozen BK416.out 0; have hfz26_1 := blk_frozen BK416.out 1) | ((with_reducible refine gate_callee (f := 24) rfl ?_); refine goesL_ (some 48) rfl rfl Tryd.func24 zq21 rfl #[.int .i64 t413, .agg #[.string t414, .string t415]] rfl zq5 ?_; (with_reducible refine (spec_EncodeRecord.calls k t413 t414 t415 t419 t420 _ A8.out).mono ?_); rintro e w27 ⟨rfl, hb⟩; refine ⟨_, rfl, ?_⟩; have n0_ := am (Kd.R_below zq143 hb); have n1_ := am (blk_below (g := gb409) (o := .cells #[.string t407, .string t408] 38 (0, 0)) zq134 hb); have n2_ := am (blk_below (g := gb416) (o := .cells #[.string t414, .string t415] 38 (0, 0)) zq135 hb); have n3_ := am (below_step zq142 hb); clear HO412; clear BK409; clear BK416; clear HB; have HO412 := n0_; have BK409 := n1_; have BK416 := n2_; have HB := n3_; clear n0_ n1_ n2_ n3_; (try clear hb); (try clear hb2); (try clear hk); (try clear hi)) | ((with_reducible refine gate_callee (f := 47) rfl ?_); refine goesL_ (some 52) rfl rfl Tryd.func47 zq21 rfl #[.slice A0 l0.length c0, .int .i64 2] rfl zq5 ?_; (with_reducible refine (laws_vCut.calls k _ _ l0 2 t421 _ ?side1 ?side2 A9.out).mono ?_); (case side1 => repeat (first | exact (Kd.C_below HR0.out HB.out) | (with_reducible refine Kd.C_alloc ?_ _) | (with_reducible refine Kd.C_drewN ?_ _) | (with_reducible refine Kd.C_drew ?_))); (case side2 => exact HC0.out); rintro e w28 ⟨v422, rfl, ho0, hb⟩; refine ⟨_, rfl, ?_⟩; have n0_ := am (Kd.R_elder' zq143 (Kd.R_base ho0) hb); have n1_ := am (Kd.R_lower (Kd.R_new' ho0 (Kd.R_lt zq143)) (below_size zq142)); have n2_ := am (blk_below (g := gb409) (o := .cells #[.string t407, .string t408] 38 (0, 0)) zq134 hb); have n3_ := am (blk_below (g := gb416) (o := .cells #[.string t414, .string t415] 38 (0, 0)) zq135 hb); have n4_ := am (below_step zq142 hb); clear HO412; clear BK409; clear BK416; clear HB; have HO412 := n0_; have HO423 := n1_; have BK409 := n2_; have BK416 := n3_; have HB := n4_; clear n0_ n1_ n2_ n3_ n4_; (try clear hb); (try clear hb2); (try clear hk); (try clear hi); (try clear ho0); obtain ⟨Ao29, co29, eo29⟩ := Kd.R_slice HO423.out; subst eo29) | ((with_reducible refine gate_callee (f := 48) rfl ?_); refine goesL_ (some 53) rfl rfl Tryd.func48 zq21 rfl #[.slice Ao29 t421.length co29] rfl zq5 ?_; (with_reducible refine (spec_DrawIsValidLog.calls k _ _ t421 t424 t425 t426 _ ?side1 ?side2 A10.out).mono ?_); (case side1 => repeat (first | exact (Kd.R_reads' HO423.out).2.2 | (with_reducible refine Kd.C_alloc ?_ _) | (with_reducible refine Kd.C_drewN ?_ _) | (with_reducible refine Kd.C_drew ?_))); (case side2 => exact (Kd.R_reads' HO423.out).2.1); rintro e w30 ⟨rfl, hb⟩; refine ⟨_, rfl, ?_⟩; have n0_ := am (Kd.R_below zq143 hb); have n1_ := am (Kd.R_below zq148 hb); have n2_ := am (blk_below (g := gb409) (o := .cells #[.string t407, .string t408] 38 (0, 0)) zq134 hb); have n3_ := am (blk_below (g := gb416) (o := .cells #[.string t414, .string t415] 38 (0, 0)) zq135 hb); have n4_ := am (below_step zq142 hb); clear HO412; clear HO423; clear BK409; clear BK416; clear HB; have HO412 := n0_; have HO423 := n1_; have BK409 := n2_; have BK416 := n3_; have HB := n4_; clear n0_ n1_ n2_ n3_ n4_; (try clear hb); (try clear hb2); (try clear hk); (try clear hi)) | ((with_reducible refine gate_dst (N := 10) rfl ?_); (try (refine gate_guard (by rfl) ?_; dsimp only)); refine box_event ?hg (N := 10) ?hd (cs := #[.string ⟨#[]⟩, .string ⟨#[]⟩, .int .i64 0]) (t := 42) ?hr ?_; (case hd => rfl); (case hg => rfl); (case hr => first | (go_simp; done) | (go_simp; rfl)); intro gb427 hg w31 hbox hb; have n0_ := am (Kd.R_below zq143 hb); have n1_ := am (Kd.R_below zq148 hb); have n2_ := am (blk_below (g := gb409) (o := .cells #[.string t407, .string t408] 38 (0, 0)) zq134 hb); have n3_ := am (blk_below (g := gb416) (o := .cells #[.string t414, .string t415] 38 (0, 0)) zq135 hb); have n4_ := am (below_step zq142 hb); have n5_ := am (hbox); have n6_ := am ((by rw [hg]; exact (below_size zq142) : w.heap.size ≤ gb427)); have n7_ := am ((by rw [hg]; exact (below_size zq142) : w.heap.size ≤ gb427)); have n8_ := am ((zq152 : gb409 ≠ gb427)); have n9_ := am ((zq153 : gb427 ≠ gb409)); have n10_ := am ((zq155 : gb416 ≠ gb427)); have n11_ := am ((zq156 : gb427 ≠ gb416)); clear HO412; clear HO423; clear BK409; clear BK416; clear HB; have HO412 := n0_; have HO423 := n1_; have BK409 := n2_; have BK416 := n3_; have HB := n4_; have BK427 := n5_; have GW427 := n6_; have GE427 := n7_; have NB409_427 := n8_; have NB427_409 := n9_; have NB416_427 := n10_; have NB427_416 := n11_; clear n0_ n1_ n2_ n3_ n4_ n5_ n6_ n7_ n8_ n9_ n10_ n11_; clear hb hbox hg; have hnb32 := NB427_409.out; have hnc32 := NB409_427.out; have hnb33 := NB427_416.out; have hnc33 := NB416_427.out; have hcz34_0 : w31.cell? ⟨gb427, 0, none⟩ = some (.string ⟨#[]⟩) := (blk_cell BK427.out 0).trans rfl; have hcz34_1 : w31.cell? ⟨gb427, 1, none⟩ = some (.string ⟨#[]⟩) := (blk_cell BK427.out 1).trans rfl; have hcz34_2 : w31.cell? ⟨gb427, 2, none⟩ = some (.int .i64 0) := (blk_cell BK427.out 2).trans rfl; have hfz34_0 := blk_frozen BK427.out 0; have hfz34_1 := blk_frozen BK427.out 1; have hfz34_2 := blk_frozen BK427.out 2) | ((with_reducible refine gate_callee (f := 47) rfl ?_); refine goesL_ (some 56) rfl rfl Tryd.func47 zq21 rfl #[.slice A0 l0.length c0, .int .i64 3] rfl zq5 ?_; (with_reducible refine (laws_vCut.calls k _ _ l0 3 t428 _ ?side1 ?side2 A11.out).mono ?_); (case side1 => exact Kd.C_below HR0.out zq144); (case side2 => exact HC0.out); rintro e w35 ⟨v429, rfl, ho0, hb⟩; refine ⟨_, rfl, ?_⟩; have n0_ := am (Kd.R_elder' zq164 (Kd.R_base ho0) hb); have n1_ := am (Kd.R_elder' zq165 (Kd.R_base ho0) hb); have n2_ := am (Kd.R_lower (Kd.R_new' (Kd.R_new' ho0 (Kd.R_lt zq164)) (Kd.R_lt zq165)) (below_size zq144)); have n3_ := am (blk_below (g := gb409) (o := .cells #[.string t407, .string t408] 38 (0, 0)) (by (with_reducible repeat (first | refine blk_drewN ?_ _ | refine blk_drew ?_ | refine blk_alloc ?_ _)); refine blk_far ?_ NB409_427.out _; (with_reducible repeat (first | refine blk_drewN ?_ _ | refine blk_drew ?_ | refine blk_alloc ?_ _)); refine blk_far ?_ NB409_427.out _; (with_reducible repeat (first | refine blk_drewN ?_ _ | refine blk_drew ?_ | refine blk_alloc ?_ _)); refine blk_far ?_ NB409_427.out _; (with_reducible repeat (first | refine blk_drewN ?_ _ | refine blk_drew ?_ | refine blk_alloc ?_ _)); exact BK409.out) hb); have n4_ := am (blk_below (g := gb416) (o := .cells #[.string t414, .string t415] 38 (0, 0)) (by (with_reducible repeat (first | refine blk_drewN ?_ _ | refine blk_drew ?_ | refine blk_alloc ?_ _)); refine blk_far ?_ NB416_427.out _; (with_reducible repeat (first | refine blk_drewN ?_ _ | refine blk_drew ?_ | refine blk_alloc ?_ _)); refine blk_far ?_ NB416_427.out _; (with_reducible repeat (first | refine blk_drewN ?_ _ | refine blk_drew ?_ | refine blk_alloc ?_ _)); refine blk_far ?_ NB416_427.out _; (with_reducible repeat (first | refine blk_drewN ?_ _ | refine blk_drew ?_ | refine blk_alloc ?_ _)); exact BK416.out) hb); have n5_ := am (blk_below (g := gb427) (o := .cells #[.string t424, .string t425, .int .i64 t426] 42 (0, 0)) (by (with_reducible repeat (first | refine blk_drewN ?_ _ | refine blk_drew ?_ | refine blk_alloc ?_ _)); refine blk_put (cs := #[.string t424, .string t425, .int .i64 0]) ?_ 2 _ rfl; (with_reducible repeat (first | refine blk_drewN ?_ _ | refine blk_drew ?_ | refine blk_alloc ?_ _)); refine blk_put (cs := #[.string t424, .string ⟨#[]⟩, .int .i64 0]) ?_ 1 _ rfl; (with_reducible repeat (first | refine blk_drewN ?_ _ | refine blk_drew ?_ | refine blk_alloc ?_ _)); refine blk_put (cs := #[.string ⟨#[]⟩, .string ⟨#[]⟩, .int .i64 0]) ?_ 0 _ rfl; (with_reducible repeat (first | refine blk_drewN ?_ _ | refine blk_drew ?_ | refine blk_alloc ?_ _)); exact BK427.out) hb); have n6_ := am (below_step zq144 hb); clear HO412; clear HO423; clear BK409; clear BK416; clear BK427; clear HB; have HO412 := n0_; have HO423 := n1_; have HO430 := n2_; have BK409 := n3_; have BK416 := n4_; have BK427 := n5_; have HB := n6_; clear n0_ n1_ n2_ n3_ n4_ n5_ n6_; (try clear hb); (try clear hb2); (try clear hk); (try clear hi); (try clear ho0); obtain ⟨Ao36, co36, eo36⟩ := Kd.R_slice HO430.out; subst eo36) | ((with_reducible refine gate_callee (f := 49) rfl ?_); refine goesL_ (some 57) rfl rfl Tryd.func49 zq21 rfl #[.slice Ao36 t428.length co36] rfl zq5 ?_; (with_reducible refine (spec_DrawAppendRecord.calls k _ _ t428 t431 t432 t433 t434 t435 _ ?side1 ?side2 A12.out).mono ?_); (case side1 => repeat (first | exact (Kd.R_reads' HO430.out).2.2 | (with_reducible refine Kd.C_alloc ?_ _) | (with_reducible refine Kd.C_drewN ?_ _) | (with_reducible refine Kd.C_drew ?_))); (case side2 => exact (Kd.R_reads' HO430.out).2.1); rintro e w37 ⟨rfl, hb⟩; refine ⟨_, rfl, ?_⟩; have n0_ := am (Kd.R_below zq143 hb); have n1_ := am (Kd.R_below zq148 hb); have n2_ := am (Kd.R_below zq151 hb); have n3_ := am (blk_below (g := gb409) (o := .cells #[.string t407, .string t408] 38 (0, 0)) zq134 hb); have n4_ := am (blk_below (g := gb416) (o := .cells #[.string t414, .string t415] 38 (0, 0)) zq135 hb); have n5_ := am (blk_below (g := gb427) (o := .cells #[.string t424, .string t425, .int .i64 t426] 42 (0, 0)) zq137 hb); have n6_ := am (below_step zq144 hb); clear HO412; clear HO423; clear HO430; clear BK409; clear BK416; clear BK427; clear HB; have HO412 := n0_; have HO423 := n1_; have HO430 := n2_; have BK409 := n3_; have BK416 := n4_; have BK427 := n5_; have HB := n6_; clear n0_ n1_ n2_ n3_ n4_ n5_ n6_; (try clear hb); (try clear hb2); (try clear hk); (try clear hi)) | ((with_reducible refine gate_dst (N := 11) rfl ?_); (try (refine gate_guard (by rfl) ?_; dsimp only)); refine box_event ?hg (N := 11) ?hd (cs := #[.string ⟨#[]⟩, .string ⟨#[]⟩, .int .i64 0]) (t := 42) ?hr ?_; (case hd => rfl); (case hg => rfl); (case hr => first | (go_simp; done) | (go_simp; rfl)); intro gb436 hg w38 hbox hb; have n0_ := am (Kd.R_below zq143 hb); have n1_ := am (Kd.R_below zq148 hb); have n2_ := am (Kd.R_below zq151 hb); have n3_ := am (blk_below (g := gb409) (o := .cells #[.string t407, .string t408] 38 (0, 0)) zq134 hb); have n4_ := am (blk_below (g := gb416) (o := .cells #[.string t414, .string t415] 38 (0, 0)) zq135 hb); have n5_ := am (blk_below (g := gb427) (o := .cells #[.string t424, .string t425, .int .i64 t426] 42 (0, 0)) zq137 hb); have n6_ := am (below_step zq144 hb); have n7_ := am (hbox); have n8_ := am ((by rw [hg]; exact (below_size zq144) : w.heap.size ≤ gb436)); have n9_ := am ((by rw [hg]; exact (below_size zq144) : w.heap.size ≤ gb436)); have n10_ := am ((zq152 : gb409 ≠ gb436)); have n11_ := am ((zq153 : gb436 ≠ gb409)); have n12_ := am ((zq155 : gb416 ≠ gb436)); have n13_ := am ((zq156 : gb436 ≠ gb416)); have n14_ := am ((zq157 : gb427 ≠ gb436)); have n15_ := am ((zq158 : gb436 ≠ gb427)); clear HO412; clear HO423; clear HO430; clear BK409; clear BK416; clear BK427; clear HB; have HO412 := n0_; have HO423 := n1_; have HO430 := n2_; have BK409 := n3_; have BK416 := n4_; have BK427 := n5_; have HB := n6_; have BK436 := n7_; have GW436 := n8_; have GE436 := n9_; have NB409_436 := n10_; have NB436_409 := n11_; have NB416_436 := n12_; have NB436_416 := n13_; have NB427_436 := n14_; have NB436_427 := n15_; clear n0_ n1_ n2_ n3_ n4_ n5_ n6_ n7_ n8_ n9_ n10_ n11_ n12_ n13_ n14_ n15_; clear hb hbox hg) | ((with_reducible refine gate_dst (N := 12) rfl ?_); (try (refine gate_guard (by rfl) ?_; dsimp only)); refine box_event ?hg (N := 12) ?hd (cs := #[.string ⟨#[]⟩, .string ⟨#[]⟩]) (t := 38) ?hr ?_; (case hd => rfl); (case hg => rfl); (case hr => first | (go_simp; done) | (go_simp; rfl)); intro gb437 hg w39 hbox hb; have n0_ := am (Kd.R_below zq143 hb); have n1_ := am (Kd.R_below zq148 hb); have n2_ := am (Kd.R_below zq151 hb); have n3_ := am (blk_below (g := gb409) (o := .cells #[.string t407, .string t408] 38 (0, 0)) zq134 hb); have n4_ := am (blk_below (g := gb416) (o := .cells #[.string t414, .string t415] 38 (0, 0)) zq135 hb); have n5_ := am (blk_below (g := gb427) (o := .cells #[.string t424, .string t425, .int .i64 t426] 42 (0, 0)) zq137 hb); have n6_ := am (blk_below (g := gb436) (o := .cells #[.string ⟨#[]⟩, .string ⟨#[]⟩, .int .i64 0] 42 (0, 0)) zq138 hb); have n7_ := am (below_step zq162 hb); have n8_ := am (hbox); have n9_ := am ((by rw [hg]; exact (below_size zq162) : w.heap.size ≤ gb437)); have n10_ := am ((by rw [hg]; exact (below_size zq162) : w.heap.size ≤ gb437)); have n11_ := am ((zq152 : gb409 ≠ gb437)); have n12_ := am ((zq153 : gb437 ≠ gb409)); have n13_ := am ((zq155 : gb416 ≠ gb437)); have n14_ := am ((zq156 : gb437 ≠ gb416)); have n15_ := am ((zq157 : gb427 ≠ gb437)); have n16_ := am ((zq158 : gb437 ≠ gb427)); have n17_ := am ((by rw [hg]; exact Nat.ne_of_lt (blk_lt (g := gb436) (o := .cells #[.string ⟨#[]⟩, .string ⟨#[]⟩, .int .i64 0] 42 (0, 0)) zq138) : gb436 ≠ gb437)); have n18_ := am ((by rw [hg]; exact Nat.ne_of_gt (blk_lt (g := gb436) (o := .cells #[.string ⟨#[]⟩, .string ⟨#[]⟩, .int .i64 0] 42 (0, 0)) zq138) : gb437 ≠ gb436)); clear HO412; clear HO423; clear HO430; clear BK409; clear BK416; clear BK427; clear BK436; clear HB; have HO412 := n0_; have HO423 := n1_; have HO430 := n2_; have BK409 := n3_; have BK416 := n4_; have BK427 := n5_; have BK436 := n6_; have HB := n7_; have BK437 := n8_; have GW437 := n9_; have GE437 := n10_; have NB409_437 := n11_; have NB437_409 := n12_; have NB416_437 := n13_; have NB437_416 := n14_; have NB427_437 := n15_; have NB437_427 := n16_; have NB436_437 := n17_; have NB437_436 := n18_; clear n0_ n1_ n2_ n3_ n4_ n5_ n6_ n7_ n8_ n9_ n10_ n11_ n12_ n13_ n14_ n15_ n16_ n17_ n18_; clear hb hbox hg; have hnb40 := NB436_409.out; have hnc40 := NB409_436.out; have hnb41 := NB436_416.out; have hnc41 := NB416_436.out; have hnb42 := NB436_427.out; have hnc42 := NB427_436.out; have hnb43 := NB436_437.out; have hnc43 := NB437_436.out; have hcz44_0 : w39.cell? ⟨gb436, 0, none⟩ = some (.string ⟨#[]⟩) := (blk_cell BK436.out 0).trans rfl; have hcz44_1 : w39.cell? ⟨gb436, 1, none⟩ = some (.string ⟨#[]⟩) := (blk_cell BK436.out 1).trans rfl; have hcz44_2 : w39.cell? ⟨gb436, 2, none⟩ = some (.int .i64 0) := (blk_cell BK436.out 2).trans rfl; have hfz44_0 := blk_frozen BK436.out 0; have hfz44_1 := blk_frozen BK436.out 1; have hfz44_2 := blk_frozen BK436.out 2; have hnb45 := NB437_409.out; have hnc45 := NB409_437.out; have hnb46 := NB437_416.out; have hnc46 := NB416_437.out; have hnb47 := NB437_427.out; have hnc47 := NB427_437.out; have hcz48_0 : w39.cell? ⟨gb437, 0, none⟩ = some (.string ⟨#[]⟩) := (blk_cell BK437.out 0).trans rfl; have hcz48_1 : w39.cell? ⟨gb437, 1, none⟩ = some (.string ⟨#[]⟩) := (blk_cell BK437.out 1).trans rfl; have hfz48_0 := blk_frozen BK437.out 0; have hfz48_1 := blk_frozen BK437.out 1) | ((with_reducible refine gate_callee (f := 39) rfl ?_); refine goesL_ (some 63) rfl rfl Tryd.func39 zq21 rfl #[.agg #[.string t431, .string t432, .int .i64 t433], .agg #[.string t434, .string t435]] rfl zq5 ?_; (with_reducible refine (impl_AppendRecord.calls k t431 t432 t433 t434 t435 t438 t439 t440 t441 _ ?side1 A13.out).mono ?_); (case side1 => exact Glob.below HGL.out zq145); rintro e w49 ⟨rfl, hb⟩; refine ⟨_, rfl, ?_⟩; have n0_ := am (Kd.R_below (by (with_reducible repeat (first | apply Kd.R_alloc | apply Kd.R_drewN | apply Kd.R_drew)); exact (Kd.R_mono (Kd.R_mono (Kd.R_far (p := ⟨gb437, 1, none⟩) (Kd.R_far (p := ⟨gb437, 0, none⟩) (Kd.R_far (p := ⟨gb436, 2, none⟩) (Kd.R_far (p := ⟨gb436, 1, none⟩) (Kd.R_far (p := ⟨gb436, 0, none⟩) (Kd.R_types (Kd.R_types HO412.out BK436.out zq173) BK437.out zq173) (fun _ hk => hk.1.2) (.string t431)) (fun _ hk => hk.1.2) (.string t432)) (fun _ hk => hk.1.2) (.int .i64 t433)) (fun _ hk => hk.2) (.string t434)) (fun _ hk => hk.2) (.string t435)) (fun _ h_ => h_.1)) (fun _ h_ => h_.1))) hb); have n1_ := am (Kd.R_below (by (with_reducible repeat (first | apply Kd.R_alloc | apply Kd.R_drewN | apply Kd.R_drew)); exact (Kd.R_mono (Kd.R_mono (Kd.R_far (p := ⟨gb437, 1, none⟩) (Kd.R_far (p := ⟨gb437, 0, none⟩) (Kd.R_far (p := ⟨gb436, 2, none⟩) (Kd.R_far (p := ⟨gb436, 1, none⟩) (Kd.R_far (p := ⟨gb436, 0, none⟩) (Kd.R_types (Kd.R_types HO423.out BK436.out zq173) BK437.out zq173) (fun _ hk => hk.1.2) (.string t431)) (fun _ hk => hk.1.2) (.string t432)) (fun _ hk => hk.1.2) (.int .i64 t433)) (fun _ hk => hk.2) (.string t434)) (fun _ hk => hk.2) (.string t435)) (fun _ h_ => h_.1)) (fun _ h_ => h_.1))) hb); have n2_ := am (Kd.R_below (by (with_reducible repeat (first | apply Kd.R_alloc | apply Kd.R_drewN | apply Kd.R_drew)); exact (Kd.R_mono (Kd.R_mono (Kd.R_far (p := ⟨gb437, 1, none⟩) (Kd.R_far (p := ⟨gb437, 0, none⟩) (Kd.R_far (p := ⟨gb436, 2, none⟩) (Kd.R_far (p := ⟨gb436, 1, none⟩) (Kd.R_far (p := ⟨gb436, 0, none⟩) (Kd.R_types (Kd.R_types HO430.out BK436.out zq173) BK437.out zq173) (fun _ hk => hk.1.2) (.string t431)) (fun _ hk => hk.1.2) (.string t432)) (fun _ hk => hk.1.2) (.int .i64 t433)) (fun _ hk => hk.2) (.string t434)) (fun _ hk => hk.2) (.string t435)) (fun _ h_ => h_.1)) (fun _ h_ => h_.1))) hb); have n3_ := am (blk_below (g := gb409) (o := .cells #[.string t407, .string t408] 38 (0, 0)) (by (with_reducible repeat (first | refine blk_drewN ?_ _ | refine blk_drew ?_ | refine blk_alloc ?_ _)); refine blk_far ?_ NB409_437.out _; (with_reducible repeat (first | refine blk_drewN ?_ _ | refine blk_drew ?_ | refine blk_alloc ?_ _)); refine blk_far ?_ NB409_437.out _; (with_reducible repeat (first | refine blk_drewN ?_ _ | refine blk_drew ?_ | refine blk_alloc ?_ _)); refine blk_far ?_ NB409_436.out _; (with_reducible repeat (first | refine blk_drewN ?_ _ | refine blk_drew ?_ | refine blk_alloc ?_ _)); refine blk_far ?_ NB409_436.out _; (with_reducible repeat (first | refine blk_drewN ?_ _ | refine blk_drew ?_ | refine blk_alloc ?_ _)); refine blk_far ?_ NB409_436.out _; (with_reducible repeat (first | refine blk_drewN ?_ _ | refine blk_drew ?_ | refine blk_alloc ?_ _)); exact BK409.out) hb); have n4_ := am (blk_below (g := gb416) (o := .cells #[.string t414, .string t415] 38 (0, 0)) (by (with_reducible repeat (first | refine blk_drewN ?_ _ | refine blk_drew ?_ | refine blk_alloc ?_ _)); refine blk_far ?_ NB416_437.out _; (with_reducible repeat (first | refine blk_drewN ?_ _ | refine blk_drew ?_ | refine blk_alloc ?_ _)); refine blk_far ?_ NB416_437.out _; (with_reducible repeat (first | refine blk_drewN ?_ _ | refine blk_drew ?_ | refine blk_alloc ?_ _)); refine blk_far ?_ NB416_436.out _; (with_reducible repeat (first | refine blk_drewN ?_ _ | refine blk_drew ?_ | refine blk_alloc ?_ _)); refine blk_far ?_ NB416_436.out _; (with_reducible repeat (first | refine blk_drewN ?_ _ | refine blk_drew ?_ | refine blk_alloc ?_ _)); refine blk_far ?_ NB416_436.out _; (with_reducible repeat (first | refine blk_drewN ?_ _ | refine blk_drew ?_ | refine blk_alloc ?_ _)); exact BK416.out) hb); have n5_ := am (blk_below (g := gb427) (o := .cells #[.string t424, .string t425, .int .i64 t426] 42 (0, 0)) (by (with_reducible repeat (first | refine blk_drewN ?_ _ | refine blk_drew ?_ | refine blk_alloc ?_ _)); refine blk_far ?_ NB427_437.out _; (with_reducible repeat (first | refine blk_drewN ?_ _ | refine blk_drew ?_ | refine blk_alloc ?_ _)); refine blk_far ?_ NB427_437.out _; (with_reducible repeat (first | refine blk_drewN ?_ _ | refine blk_drew ?_ | refine blk_alloc ?_ _)); refine blk_far ?_ NB427_436.out _; (with_reducible repeat (first | refine blk_drewN ?_ _ | refine blk_drew ?_ | refine blk_alloc ?_ _)); refine blk_far ?_ NB427_436.out _; (with_reducible repeat (first | refine blk_drewN ?_ _ | refine blk_drew ?_ | refine blk_alloc ?_ _)); refine blk_far ?_ NB427_436.out _; (with_reducible repeat (first | refine blk_drewN ?_ _ | refine blk_drew ?_ | refine blk_alloc ?_ _)); exact BK427.out) hb); have n6_ := am (blk_below (g := gb436) (o := .cells #[.string t431, .string t432, .int .i64 t433] 42 (0, 0)) (by (with_reducible repeat (first | refine blk_drewN ?_ _ | refine blk_drew ?_ | refine blk_alloc ?_ _)); refine blk_far ?_ NB436_437.out _; (with_reducible repeat (first | refine blk_drewN ?_ _ | refine blk_drew ?_ | refine blk_alloc ?_ _)); refine blk_far ?_ NB436_437.out _; (with_reducible repeat (first | refine blk_drewN ?_ _ | refine blk_drew ?_ | refine blk_alloc ?_ _)); refine blk_put (cs := #[.string t431, .string t432, .int .i64 0]) ?_ 2 _ rfl; (with_reducible repeat (first | refine blk_drewN ?_ _ | refine blk_drew ?_ | refine blk_alloc ?_ _)); refine blk_put (cs := #[.string t431, .string ⟨#[]⟩, .int .i64 0]) ?_ 1 _ rfl; (with_reducible repeat (first | refine blk_drewN ?_ _ | refine blk_drew ?_ | refine blk_alloc ?_ _)); refine blk_put (cs := #[.string ⟨#[]⟩, .string ⟨#[]⟩, .int .i64 0]) ?_ 0 _ rfl; (with_reducible repeat (first | refine blk_drewN ?_ _ | refine blk_drew ?_ | refine blk_alloc ?_ _)); exact BK436.out) hb); have n7_ := am (blk_below (g := gb437) (o := .cells #[.string t434, .string t435] 38 (0, 0)) (by (with_reducible repeat (first | refine blk_drewN ?_ _ | refine blk_drew ?_ | refine blk_alloc ?_ _)); refine blk_put (cs := #[.string t434, .string ⟨#[]⟩]) ?_ 1 _ rfl; (with_reducible repeat (first | refine blk_drewN ?_ _ | refine blk_drew ?_ | refine blk_alloc ?_ _)); refine blk_put (cs := #[.string ⟨#[]⟩, .string ⟨#[]⟩]) ?_ 0 _ rfl; (with_reducible repeat (first | refine blk_drewN ?_ _ | refine blk_drew ?_ | refine blk_alloc ?_ _)); refine blk_far ?_ NB437_436.out _; (with_reducible repeat (first | refine blk_drewN ?_ _ | refine blk_drew ?_ | refine blk_alloc ?_ _)); refine blk_far ?_ NB437_436.out _; (with_reducible repeat (first | refine blk_drewN ?_ _ | refine blk_drew ?_ | refine blk_alloc ?_ _)); refine blk_far ?_ NB437_436.out _; (with_reducible repeat (first | refine blk_drewN ?_ _ | refine blk_drew ?_ | refine blk_alloc ?_ _)); exact BK437.out) hb); have n8_ := am (below_step zq145 hb); clear HO412; clear HO423; clear HO430; clear BK409; clear BK416; clear BK427; clear BK436; clear BK437; clear HB; have HO412 := n0_; have HO423 := n1_; have HO430 := n2_; have BK409 := n3_; have BK416 := n4_; have BK427 := n5_; have BK436 := n6_; have BK437 := n7_; have HB := n8_; clear n0_ n1_ n2_ n3_ n4_ n5_ n6_ n7_ n8_; (try clear hb); (try clear hb2); (try clear hk); (try clear hi)) | ((with_reducible refine gate_dst (N := 13) rfl ?_); (try (refine gate_guard (by rfl) ?_; dsimp only)); refine box_event ?hg (N := 13) ?hd (cs := #[.string ⟨#[]⟩, .string ⟨#[]⟩, .int .i64 0]) (t := 42) ?hr ?_; (case hd => rfl); (case hg => rfl); (case hr => first | (go_simp; done) | (go_simp; rfl)); intro gb442 hg w50 hbox hb; have n0_ := am (Kd.R_below zq143 hb); have n1_ := am (Kd.R_below zq148 hb); have n2_ := am (Kd.R_below zq151 hb); have n3_ := am (blk_below (g := gb409) (o := .cells #[.string t407, .string t408] 38 (0, 0)) zq134 hb); have n4_ := am (blk_below (g := gb416) (o := .cells #[.string t414, .string t415] 38 (0, 0)) zq135 hb); have n5_ := am (blk_below (g := gb427) (o := .cells #[.string t424, .string t425, .int .i64 t426] 42 (0, 0)) zq137 hb); have n6_ := am (blk_below (g := gb436) (o := .cells #[.string t431, .string t432, .int .i64 t433] 42 (0, 0)) zq138 hb); have n7_ := am (blk_below (g := gb437) (o := .cells #[.string t434, .string t435] 38 (0, 0)) zq139 hb); have n8_ := am (below_step zq145 hb); have n9_ := am (hbox); have n10_ := am ((by rw [hg]; exact (below_size zq145) : w.heap.size ≤ gb442)); have n11_ := am ((by rw [hg]; exact (below_size zq145) : w.heap.size ≤ gb442)); have n12_ := am ((zq152 : gb409 ≠ gb442)); have n13_ := am ((zq153 : gb442 ≠ gb409)); have n14_ := am ((zq155 : gb416 ≠ gb442)); have n15_ := am ((zq156 : gb442 ≠ gb416)); have n16_ := am ((zq157 : gb427 ≠ gb442)); have n17_ := am ((zq158 : gb442 ≠ gb427)); have n18_ := am ((zq166 : gb436 ≠ gb442)); have n19_ := am ((zq167 : gb442 ≠ gb436)); have n20_ := am ((zq168 : gb437 ≠ gb442)); have n21_ := am ((zq169 : gb442 ≠ gb437)); clear HO412; clear HO423; clear HO430; clear BK409; clear BK416; clear BK427; clear BK436; clear BK437; clear HB; have HO412 := n0_; have HO423 := n1_; have HO430 := n2_; have BK409 := n3_; have BK416 := n4_; have BK427 := n5_; have BK436 := n6_; have BK437 := n7_; have HB := n8_; have BK442 := n9_; have GW442 := n10_; have GE442 := n11_; have NB409_442 := n12_; have NB442_409 := n13_; have NB416_442 := n14_; have NB442_416 := n15_; have NB427_442 := n16_; have NB442_427 := n17_; have NB436_442 := n18_; have NB442_436 := n19_; have NB437_442 := n20_; have NB442_437 := n21_; clear n0_ n1_ n2_ n3_ n4_ n5_ n6_ n7_ n8_ n9_ n10_ n11_ n12_ n13_ n14_ n15_ n16_ n17_ n18_ n19_ n20_ n21_; clear hb hbox hg; have hnb51 := NB442_409.out; have hnc51 := NB409_442.out; have hnb52 := NB442_416.out; have hnc52 := NB416_442.out; have hnb53 := NB442_427.out; have hnc53 := NB427_442.out; have hnb54 := NB442_436.out; have hnc54 := NB436_442.out; have hnb55 := NB442_437.out; have hnc55 := NB437_442.out; have hcz56_0 : w50.cell? ⟨gb442, 0, none⟩ = some (.string ⟨#[]⟩) := (blk_cell BK442.out 0).trans rfl; have hcz56_1 : w50.cell? ⟨gb442, 1, none⟩ = some (.string ⟨#[]⟩) := (blk_cell BK442.out 1).trans rfl; have hcz56_2 : w50.cell? ⟨gb442, 2, none⟩ = some (.int .i64 0) := (blk_cell BK442.out 2).trans rfl; have hfz56_0 := blk_frozen BK442.out 0; have hfz56_1 := blk_frozen BK442.out 1; have hfz56_2 := blk_frozen BK442.out 2; have hcz57_0 : w50.cell? ⟨gb436, 0, none⟩ = some (.string t431) := (blk_cell BK436.out 0).trans rfl; have hcz57_1 : w50.cell? ⟨gb436, 1, none⟩ = some (.string t432) := (blk_cell BK436.out 1).trans rfl; have hcz57_2 : w50.cell? ⟨gb436, 2, none⟩ = some (.int .i64 t433) := (blk_cell BK436.out 2).trans rfl; have hfz57_0 := blk_frozen BK436.out 0; have hfz57_1 := blk_frozen BK436.out 1; have hfz57_2 := blk_frozen BK436.out 2; have hcz58_0 : w50.cell? ⟨gb437, 0, none⟩ = some (.string t434) := (blk_cell BK437.out 0).trans rfl; have hcz58_1 : w50.cell? ⟨gb437, 1, none⟩ = some (.string t435) := (blk_cell BK437.out 1).trans rfl; have hfz58_0 := blk_frozen BK437.out 0; have hfz58_1 := blk_frozen BK437.out 1) | ((with_reducible refine gate_callee (f := 38) rfl ?_); refine goesL_ (some 69) rfl rfl Tryd.func38 zq21 rfl #[.agg #[.string t431, .string t432, .int .i64 t433], .agg #[.string t434, .string t435]] rfl zq5 ?_; (with_reducible refine (spec_AppendRecord.calls k t431 t432 t433 t434 t435 t443 t444 t445 t446 _ A14.out).mono ?_); rintro e w59 ⟨rfl, hb⟩; refine ⟨_, rfl, ?_⟩; have n0_ := am (Kd.R_below (by (with_reducible repeat (first | apply Kd.R_alloc | apply Kd.R_drewN | apply Kd.R_drew)); exact (Kd.R_mono (Kd.R_far (p := ⟨gb442, 2, none⟩) (Kd.R_far (p := ⟨gb442, 1, none⟩) (Kd.R_far (p := ⟨gb442, 0, none⟩) (Kd.R_types HO412.out BK442.out zq173) (fun _ hk => hk.2) (.string t438)) (fun _ hk => hk.2) (.string t439)) (fun _ hk => hk.2) (.int .i64 t440)) (fun _ h_ => h_.1))) hb); have n1_ := am (Kd.R_below (by (with_reducible repeat (first | apply Kd.R_alloc | apply Kd.R_drewN | apply Kd.R_drew)); exact (Kd.R_mono (Kd.R_far (p := ⟨gb442, 2, none⟩) (Kd.R_far (p := ⟨gb442, 1, none⟩) (Kd.R_far (p := ⟨gb442, 0, none⟩) (Kd.R_types HO423.out BK442.out zq173) (fun _ hk => hk.2) (.string t438)) (fun _ hk => hk.2) (.string t439)) (fun _ hk => hk.2) (.int .i64 t440)) (fun _ h_ => h_.1))) hb); have n2_ := am (Kd.R_below (by (with_reducible repeat (first | apply Kd.R_alloc | apply Kd.R_drewN | apply Kd.R_drew)); exact (Kd.R_mono (Kd.R_far (p := ⟨gb442, 2, none⟩) (Kd.R_far (p := ⟨gb442, 1, none⟩) (Kd.R_far (p := ⟨gb442, 0, none⟩) (Kd.R_types HO430.out BK442.out zq173) (fun _ hk => hk.2) (.string t438)) (fun _ hk => hk.2) (.string t439)) (fun _ hk => hk.2) (.int .i64 t440)) (fun _ h_ => h_.1))) hb); have n3_ := am (blk_below (g := gb409) (o := .cells #[.string t407, .string t408] 38 (0, 0)) (by (with_reducible repeat (first | refine blk_drewN ?_ _ | refine blk_drew ?_ | refine blk_alloc ?_ _)); refine blk_far ?_ NB409_442.out _; (with_reducible repeat (first | refine blk_drewN ?_ _ | refine blk_drew ?_ | refine blk_alloc ?_ _)); refine blk_far ?_ NB409_442.out _; (with_reducible repeat (first | refine blk_drewN ?_ _ | refine blk_drew ?_ | refine blk_alloc ?_ _)); refine blk_far ?_ NB409_442.out _; (with_reducible repeat (first | refine blk_drewN ?_ _ | refine blk_drew ?_ | refine blk_alloc ?_ _)); exact BK409.out) hb); have n4_ := am (blk_below (g := gb416) (o := .cells #[.string t414, .string t415] 38 (0, 0)) (by (with_reducible repeat (first | refine blk_drewN ?_ _ | refine blk_drew ?_ | refine blk_alloc ?_ _)); refine blk_far ?_ NB416_442.out _; (with_reducible repeat (first | refine blk_drewN ?_ _ | refine blk_drew ?_ | refine blk_alloc ?_ _)); refine blk_far ?_ NB416_442.out _; (with_reducible repeat (first | refine blk_drewN ?_ _ | refine blk_drew ?_ | refine blk_alloc ?_ _)); refine blk_far ?_ NB416_442.out _; (with_reducible repeat (first | refine blk_drewN ?_ _ | refine blk_drew ?_ | refine blk_alloc ?_ _)); exact BK416.out) hb); have n5_ := am (blk_below (g := gb427) (o := .cells #[.string t424, .string t425, .int .i64 t426] 42 (0, 0)) (by (with_reducible repeat (first | refine blk_drewN ?_ _ | refine blk_drew ?_ | refine blk_alloc ?_ _)); refine blk_far ?_ NB427_442.out _; (with_reducible repeat (first | refine blk_drewN ?_ _ | refine blk_drew ?_ | refine blk_alloc ?_ _)); refine blk_far ?_ NB427_442.out _; (with_reducible repeat (first | refine blk_drewN ?_ _ | refine blk_drew ?_ | refine blk_alloc ?_ _)); refine blk_far ?_ NB427_442.out _; (with_reducible repeat (first | refine blk_drewN ?_ _ | refine blk_drew ?_ | refine blk_alloc ?_ _)); exact BK427.out) hb); have n6_ := am (blk_below (g := gb436) (o := .cells #[.string t431, .string t432, .int .i64 t433] 42 (0, 0)) (by (with_reducible repeat (first | refine blk_drewN ?_ _ | refine blk_drew ?_ | refine blk_alloc ?_ _)); refine blk_far ?_ NB436_442.out _; (with_reducible repeat (first | refine blk_drewN ?_ _ | refine blk_drew ?_ | refine blk_alloc ?_ _)); refine blk_far ?_ NB436_442.out _; (with_reducible repeat (first | refine blk_drewN ?_ _ | refine blk_drew ?_ | refine blk_alloc ?_ _)); refine blk_far ?_ NB436_442.out _; (with_reducible repeat (first | refine blk_drewN ?_ _ | refine blk_drew ?_ | refine blk_alloc ?_ _)); exact BK436.out) hb); have n7_ := am (blk_below (g := gb437) (o := .cells #[.string t434, .string t435] 38 (0, 0)) (by (with_reducible repeat (first | refine blk_drewN ?_ _ | refine blk_drew ?_ | refine blk_alloc ?_ _)); refine blk_far ?_ NB437_442.out _; (with_reducible repeat (first | refine blk_drewN ?_ _ | refine blk_drew ?_ | refine blk_alloc ?_ _)); refine blk_far ?_ NB437_442.out _; (with_reducible repeat (first | refine blk_drewN ?_ _ | refine blk_drew ?_ | refine blk_alloc ?_ _)); refine blk_far ?_ NB437_442.out _; (with_reducible repeat (first | refine blk_drewN ?_ _ | refine blk_drew ?_ | refine blk_alloc ?_ _)); exact BK437.out) hb); have n8_ := am (blk_below (g := gb442) (o := .cells #[.string t438, .string t439, .int .i64 t440] 42 (0, 0)) (by (with_reducible repeat (first | refine blk_drewN ?_ _ | refine blk_drew ?_ | refine blk_alloc ?_ _)); refine blk_put (cs := #[.string t438, .string t439, .int .i64 0]) ?_ 2 _ rfl; (with_reducible repeat (first | refine blk_drewN ?_ _ | refine blk_drew ?_ | refine blk_alloc ?_ _)); refine blk_put (cs := #[.string t438, .string ⟨#[]⟩, .int .i64 0]) ?_ 1 _ rfl; (with_reducible repeat (first | refine blk_drewN ?_ _ | refine blk_drew ?_ | refine blk_alloc ?_ _)); refine blk_put (cs := #[.string ⟨#[]⟩, .string ⟨#[]⟩, .int .i64 0]) ?_ 0 _ rfl; (with_reducible repeat (first | refine blk_drewN ?_ _ | refine blk_drew ?_ | refine blk_alloc ?_ _)); exact BK442.out) hb); have n9_ := am (below_step zq150 hb); clear HO412; clear HO423; clear HO430; clear BK409; clear BK416; clear BK427; clear BK436; clear BK437; clear BK442; clear HB; have HO412 := n0_; have HO423 := n1_; have HO430 := n2_; have BK409 := n3_; have BK416 := n4_; have BK427 := n5_; have BK436 := n6_; have BK437 := n7_; have BK442 := n8_; have HB := n9_; clear n0_ n1_ n2_ n3_ n4_ n5_ n6_ n7_ n8_ n9_; (try clear hb); (try clear hb2); (try clear hk); (try clear hi)) | ((with_reducible refine gate_dst (N := 15) rfl ?_); (try (refine gate_guard (by rfl) ?_; dsimp only)); refine box_event ?hg (N := 15) ?hd (cs := #[.string ⟨#[]⟩, .string ⟨#[]⟩, .int .i64 0]) (t := 42) ?hr ?_; (case hd => rfl); (case hg => rfl); (case hr => first | (go_simp; done) | (go_simp; rfl)); intro gb447 hg w60 hbox hb; have n0_ := am (Kd.R_below zq143 hb); have n1_ := am (Kd.R_below zq148 hb); have n2_ := am (Kd.R_below zq151 hb); have n3_ := am (blk_below (g := gb409) (o := .cells #[.string t407, .string t408] 38 (0, 0)) zq134 hb); have n4_ := am (blk_below (g := gb416) (o := .cells #[.string t414, .string t415] 38 (0, 0)) zq135 hb); have n5_ := am (blk_below (g := gb427) (o := .cells #[.string t424, .string t425, .int .i64 t426] 42 (0, 0)) zq137 hb); have n6_ := am (blk_below (g := gb436) (o := .cells #[.string t431, .string t432, .int .i64 t433] 42 (0, 0)) zq138 hb); have n7_ := am (blk_below (g := gb437) (o := .cells #[.string t434, .string t435] 38 (0, 0)) zq139 hb); have n8_ := am (blk_below (g := gb442) (o := .cells #[.string t438, .string t439, .int .i64 t440] 42 (0, 0)) zq140 hb); have n9_ := am (below_step zq150 hb); have n10_ := am (hbox); have n11_ := am ((by rw [hg]; exact (below_size zq150) : w.heap.size ≤ gb447)); have n12_ := am ((by rw [hg]; exact (below_size zq150) : w.heap.size ≤ gb447)); have n13_ := am ((zq152 : gb409 ≠ gb447)); have n14_ := am ((zq153 : gb447 ≠ gb409)); have n15_ := am ((zq155 : gb416 ≠ gb447)); have n16_ := am ((zq156 : gb447 ≠ gb416)); have n17_ := am ((zq157 : gb427 ≠ gb447)); have n18_ := am ((zq158 : gb447 ≠ gb427)); have n19_ := am ((zq166 : gb436 ≠ gb447)); have n20_ := am ((zq167 : gb447 ≠ gb436)); have n21_ := am ((zq168 : gb437 ≠ gb447)); have n22_ := am ((zq169 : gb447 ≠ gb437)); have n23_ := am ((zq170 : gb442 ≠ gb447)); have n24_ := am ((zq171 : gb447 ≠ gb442)); clear HO412; clear HO423; clear HO430; clear BK409; clear BK416; clear BK427; clear BK436; clear BK437; clear BK442; clear HB; have HO412 := n0_; have HO423 := n1_; have HO430 := n2_; have BK409 := n3_; have BK416 := n4_; have BK427 := n5_; have BK436 := n6_; have BK437 := n7_; have BK442 := n8_; have HB := n9_; have BK447 := n10_; have GW447 := n11_; have GE447 := n12_; have NB409_447 := n13_; have NB447_409 := n14_; have NB416_447 := n15_; have NB447_416 := n16_; have NB427_447 := n17_; have NB447_427 := n18_; have NB436_447 := n19_; have NB447_436 := n20_; have NB437_447 := n21_; have NB447_437 := n22_; have NB442_447 := n23_; have NB447_442 := n24_; clear n0_ n1_ n2_ n3_ n4_ n5_ n6_ n7_ n8_ n9_ n10_ n11_ n12_ n13_ n14_ n15_ n16_ n17_ n18_ n19_ n20_ n21_ n22_ n23_ n24_; clear hb hbox hg; have hnb61 := NB447_409.out; have hnc61 := NB409_447.out; have hnb62 := NB447_416.out; have hnc62 := NB416_447.out; have hnb63 := NB447_427.out; have hnc63 := NB427_447.out; have hnb64 := NB447_436.out; have hnc64 := NB436_447.out; have hnb65 := NB447_437.out; have hnc65 := NB437_447.out; have hnb66 := NB447_442.out; have hnc66 := NB442_447.out; have hcz67_0 : w60.cell? ⟨gb447, 0, none⟩ = some (.string ⟨#[]⟩) := (blk_cell BK447.out 0).trans rfl; have hcz67_1 : w60.cell? ⟨gb447, 1, none⟩ = some (.string ⟨#[]⟩) := (blk_cell BK447.out 1).trans rfl; have hcz67_2 : w60.cell? ⟨gb447, 2, none⟩ = some (.int .i64 0) := (blk_cell BK447.out 2).trans rfl; have hfz67_0 := blk_frozen BK447.out 0; have hfz67_1 := blk_frozen BK447.out 1; have hfz67_2 := blk_frozen BK447.out 2))
  (try simp only [Act.put, List.setIfInBounds_toArray, List.set_cons_zero, List.set_cons_succ])
  go_cut [103] (fun v103 wc => ∃ (kq : Nat) (x103_14 : Bool), v103 = .bool x103_14 ∧ Aside0 (laws_FnLogs.j0 kq t441 x103_14 t431 t432 t433 t434 t435 t438 t439 t440 = some r) ∧ Aside0 (kq ≤ k) ∧ Aside0 (wc.heap[gb409]? = some (.cells #[.string t407, .string t408] 38 (0, 0))) ∧ Aside0 (wc.heap[gb416]? = some (.cells #[.string t414, .string t415] 38 (0, 0))) ∧ Aside0 (wc.heap[gb427]? = some (.cells #[.string t424, .string t425, .int .i64 t426] 42 (0, 0))) ∧ Aside0 (wc.heap[gb436]? = some (.cells #[.string t431, .string t432, .int .i64 t433] 42 (0, 0))) ∧ Aside0 (wc.heap[gb437]? = some (.cells #[.string t434, .string t435] 38 (0, 0))) ∧ Aside0 (wc.heap[gb442]? = some (.cells #[.string t438, .string t439, .int .i64 t440] 42 (0, 0))) ∧ Aside0 (wc.heap[gb447]? = some (.cells #[.string t443, .string t444, .int .i64 t445] 42 (0, 0))) ∧ Aside0 (Below w.heap.size w wc))
  case first =>
   have H := HC15.out
   clear HC15
   replace H := bem H
   obtain ⟨t448, A680, H⟩ := H
   replace H : ((spec_IsValidRecord.f k t407 t408).bind fun t449 => (if (t448 != t449) = true then (laws_FnLogs.j0 k t441 true t431 t432 t433 t434 t435 t438 t439 t440) else (if t417.toList = t419.toList then (if (t418 != t420) = true then (laws_FnLogs.j0 k t441 true t431 t432 t433 t434 t435 t438 t439 t440) else ((impl_IsValidLog.f k t424 t425 t426).bind fun t450 => ((spec_IsValidLog.f k t424 t425 t426).bind fun t451 => (if (t450 != t451) = true then (laws_FnLogs.j0 k t441 true t431 t432 t433 t434 t435 t438 t439 t440) else (if (!(t438.toList == t443.toList) || (!(t439.toList == t444.toList) || (!(t440 == t445)))) = true then (laws_FnLogs.j0 k t441 true t431 t432 t433 t434 t435 t438 t439 t440) else (laws_FnLogs.j0 k t441 (t441 != t446) t431 t432 t433 t434 t435 t438 t439 t440)))))) else (laws_FnLogs.j0 k t441 true t431 t432 t433 t434 t435 t438 t439 t440)))) = some r := H
   have A68 := am A680
   clear A680
   replace H := bem H
   obtain ⟨t449, A690, H⟩ := H
   replace H : (if (t448 != t449) = true then (laws_FnLogs.j0 k t441 true t431 t432 t433 t434 t435 t438 t439 t440) else (if t417.toList = t419.toList then (if (t418 != t420) = true then (laws_FnLogs.j0 k t441 true t431 t432 t433 t434 t435 t438 t439 t440) else ((impl_IsValidLog.f k t424 t425 t426).bind fun t450 => ((spec_IsValidLog.f k t424 t425 t426).bind fun t451 => (if (t450 != t451) = true then (laws_FnLogs.j0 k t441 true t431 t432 t433 t434 t435 t438 t439 t440) else (if (!(t438.toList == t443.toList) || (!(t439.toList == t444.toList) || (!(t440 == t445)))) = true then (laws_FnLogs.j0 k t441 true t431 t432 t433 t434 t435 t438 t439 t440) else (laws_FnLogs.j0 k t441 (t441 != t446) t431 t432 t433 t434 t435 t438 t439 t440)))))) else (laws_FnLogs.j0 k t441 true t431 t432 t433 t434 t435 t438 t439 t440))) = some r := H
   have A69 := am A690
   clear A690
   by_cases c70 : (t448 != t449) = true
   ·rw [if_pos c70] at H
    have c70b0 : (t448 != t449) = true := c70
    (try (have c70b1 : decide (t448 = t449) = false := by simpa using c70))
    (try (have c70b2 : (t448 == t449) = false := by simpa using c70))
    (try (have c70b3 : ¬ (t448 = t449) := by simpa using c70))
    clear c70
    (first | rw [c70b0] | (simp only [i64_w, i32_w]; rw [c70b0]) | skip)
    exact absurd H zq187
   ·rw [if_neg c70] at H
    have c70b0 : (t448 != t449) = false := by simpa using c70
    (try (have c70b1 : decide (t448 = t449) = true := by simpa using c70))
    (try (have c70b2 : (t448 == t449) = true := by simpa using c70))
    clear c70
    (first | rw [c70b0] | (simp only [i64_w, i32_w]; rw [c70b0]) | skip)
    by_cases c75 : t417.toList = t419.toList
    ·rw [if_pos c75] at H
     have c75b0 : (t417.toList == t419.toList) = true := beq_iff_eq.mpr c75
     have c75b1 : (t417.toList != t419.toList) = false := bne_eq_false_iff_eq.mpr c75
     clear c75
     by_cases c76 : (t418 != t420) = true
     ·rw [if_pos c76] at H
      have c76b0 : (t418 != t420) = true := c76
      (try (have c76b1 : decide (t418 = t420) = false := by simpa using c76))
      (try (have c76b2 : (t418 == t420) = false := by simpa using c76))
      (try (have c76b3 : ¬ (t418 = t420) := by simpa using c76))
      clear c76
      exact absurd H zq187
     ·rw [if_neg c76] at H
      have c76b0 : (t418 != t420) = false := by simpa using c76
      (try (have c76b1 : decide (t418 = t420) = true := by simpa using c76))
      (try (have c76b2 : (t418 == t420) = true := by simpa using c76))
      clear c76
      replace H := bem H
      obtain ⟨t450, A810, H⟩ := H
      replace H : ((spec_IsValidLog.f k t424 t425 t426).bind fun t451 => (if (t450 != t451) = true then (laws_FnLogs.j0 k t441 true t431 t432 t433 t434 t435 t438 t439 t440) else (if (!(t438.toList == t443.toList) || (!(t439.toList == t444.toList) || (!(t440 == t445)))) = true then (laws_FnLogs.j0 k t441 true t431 t432 t433 t434 t435 t438 t439 t440) else (laws_FnLogs.j0 k t441 (t441 != t446) t431 t432 t433 t434 t435 t438 t439 t440)))) = some r := H
      have A81 := am A810
      clear A810
      replace H := bem H
      obtain ⟨t451, A820, H⟩ := H
      replace H : (if (t450 != t451) = true then (laws_FnLogs.j0 k t441 true t431 t432 t433 t434 t435 t438 t439 t440) else (if (!(t438.toList == t443.toList) || (!(t439.toList == t444.toList) || (!(t440 == t445)))) = true then (laws_FnLogs.j0 k t441 true t431 t432 t433 t434 t435 t438 t439 t440) else (laws_FnLogs.j0 k t441 (t441 != t446) t431 t432 t433 t434 t435 t438 t439 t440))) = some r := H
      have A82 := am A820
      clear A820
      by_cases c83 : (t450 != t451) = true
      ·rw [if_pos c83] at H
       have c83b0 : (t450 != t451) = true := c83
       (try (have c83b1 : decide (t450 = t451) = false := by simpa using c83))
       (try (have c83b2 : (t450 == t451) = false := by simpa using c83))
       (try (have c83b3 : ¬ (t450 = t451) := by simpa using c83))
       clear c83
       exact absurd H zq187
      ·rw [if_neg c83] at H
       have c83b0 : (t450 != t451) = false := by simpa using c83
       (try (have c83b1 : decide (t450 = t451) = true := by simpa using c83))
       (try (have c83b2 : (t450 == t451) = true := by simpa using c83))
       clear c83
       by_cases c90 : (!(t438.toList == t443.toList) || (!(t439.toList == t444.toList) || (!(t440 == t445)))) = true
       ·rw [if_pos c90] at H
        have c90b0 : (!(t438.toList == t443.toList) || (!(t439.toList == t444.toList) || (!(t440 == t445)))) = true := c90
        clear c90
        exact absurd H zq187
       ·rw [if_neg c90] at H
        have c90b0 : (!(t438.toList == t443.toList) || (!(t439.toList == t444.toList) || (!(t440 == t445)))) = false := by simpa using c90
        clear c90
        have H' := am H
        clear H
        try go_wp2
        have n0_ : Aside0 (Kd.R (Kd.int .u8) 5 (((w60.setCell ⟨gb447, 0, none⟩ (.string t443)).setCell ⟨gb447, 1, none⟩ (.string t444)).setCell ⟨gb447, 2, none⟩ (.int .i64 t445)) w.heap.size (fun k_ => some k_ ≠ (.slice Ao29 t421.length co29 : Value).ownBlock ∧ some k_ ≠ (.slice Ao36 t428.length co36 : Value).ownBlock) (.slice Ao20 t410.length co20) t410) := ⟨by (with_reducible repeat (first | apply Kd.R_alloc | apply Kd.R_drewN | apply Kd.R_drew)); exact Kd.R_mono (Kd.R_far (p := ⟨gb447, 2, none⟩) (Kd.R_far (p := ⟨gb447, 1, none⟩) (Kd.R_far (p := ⟨gb447, 0, none⟩) (Kd.R_types HO412.out BK447.out zq173) (fun _ hk => hk.2) (.string t443)) (fun _ hk => hk.2) (.string t444)) (fun _ hk => hk.2) (.int .i64 t445)) (fun _ hk => ⟨hk.1.1.2, hk.1.2⟩)⟩
        have n1_ : Aside0 (Kd.R (Kd.int .u8) 5 (((w60.setCell ⟨gb447, 0, none⟩ (.string t443)).setCell ⟨gb447, 1, none⟩ (.string t444)).setCell ⟨gb447, 2, none⟩ (.int .i64 t445)) w.heap.size (fun k_ => some k_ ≠ (.slice Ao20 t410.length co20 : Value).ownBlock ∧ some k_ ≠ (.slice Ao36 t428.length co36 : Value).ownBlock) (.slice Ao29 t421.length co29) t421) := ⟨by (with_reducible repeat (first | apply Kd.R_alloc | apply Kd.R_drewN | apply Kd.R_drew)); exact Kd.R_mono (Kd.R_far (p := ⟨gb447, 2, none⟩) (Kd.R_far (p := ⟨gb447, 1, none⟩) (Kd.R_far (p := ⟨gb447, 0, none⟩) (Kd.R_types HO423.out BK447.out zq173) (fun _ hk => hk.2) (.string t443)) (fun _ hk => hk.2) (.string t444)) (fun _ hk => hk.2) (.int .i64 t445)) (fun _ hk => ⟨hk.1.1.2, hk.1.2⟩)⟩
        have n2_ : Aside0 (Kd.R (Kd.int .u8) 5 (((w60.setCell ⟨gb447, 0, none⟩ (.string t443)).setCell ⟨gb447, 1, none⟩ (.string t444)).setCell ⟨gb447, 2, none⟩ (.int .i64 t445)) w.heap.size (fun k_ => some k_ ≠ (.slice Ao20 t410.length co20 : Value).ownBlock ∧ some k_ ≠ (.slice Ao29 t421.length co29 : Value).ownBlock) (.slice Ao36 t428.length co36) t428) := ⟨by (with_reducible repeat (first | apply Kd.R_alloc | apply Kd.R_drewN | apply Kd.R_drew)); exact Kd.R_mono (Kd.R_far (p := ⟨gb447, 2, none⟩) (Kd.R_far (p := ⟨gb447, 1, none⟩) (Kd.R_far (p := ⟨gb447, 0, none⟩) (Kd.R_types HO430.out BK447.out zq173) (fun _ hk => hk.2) (.string t443)) (fun _ hk => hk.2) (.string t444)) (fun _ hk => hk.2) (.int .i64 t445)) (fun _ hk => ⟨hk.1.1.2, hk.1.2⟩)⟩
        have n3_ : Aside0 ((((w60.setCell ⟨gb447, 0, none⟩ (.string t443)).setCell ⟨gb447, 1, none⟩ (.string t444)).setCell ⟨gb447, 2, none⟩ (.int .i64 t445)).heap[gb409]? = some (.cells #[.string t407, .string t408] 38 (0, 0))) := ⟨by (with_reducible repeat (first | refine blk_drewN ?_ _ | refine blk_drew ?_ | refine blk_alloc ?_ _)); refine blk_far ?_ NB409_447.out _; (with_reducible repeat (first | refine blk_drewN ?_ _ | refine blk_drew ?_ | refine blk_alloc ?_ _)); refine blk_far ?_ NB409_447.out _; (with_reducible repeat (first | refine blk_drewN ?_ _ | refine blk_drew ?_ | refine blk_alloc ?_ _)); refine blk_far ?_ NB409_447.out _; (with_reducible repeat (first | refine blk_drewN ?_ _ | refine blk_drew ?_ | refine blk_alloc ?_ _)); exact BK409.out⟩
        have n4_ : Aside0 ((((w60.setCell ⟨gb447, 0, none⟩ (.string t443)).setCell ⟨gb447, 1, none⟩ (.string t444)).setCell ⟨gb447, 2, none⟩ (.int .i64 t445)).heap[gb416]? = some (.cells #[.string t414, .string t415] 38 (0, 0))) := ⟨by (with_reducible repeat (first | refine blk_drewN ?_ _ | refine blk_drew ?_ | refine blk_alloc ?_ _)); refine blk_far ?_ NB416_447.out _; (with_reducible repeat (first | refine blk_drewN ?_ _ | refine blk_drew ?_ | refine blk_alloc ?_ _)); refine blk_far ?_ NB416_447.out _; (with_reducible repeat (first | refine blk_drewN ?_ _ | refine blk_drew ?_ | refine blk_alloc ?_ _)); refine blk_far ?_ NB416_447.out _; (with_reducible repeat (first | refine blk_drewN ?_ _ | refine blk_drew ?_ | refine blk_alloc ?_ _)); exact BK416.out⟩
        have n5_ : Aside0 ((((w60.setCell ⟨gb447, 0, none⟩ (.string t443)).setCell ⟨gb447, 1, none⟩ (.string t444)).setCell ⟨gb447, 2, none⟩ (.int .i64 t445)).heap[gb427]? = some (.cells #[.string t424, .string t425, .int .i64 t426] 42 (0, 0))) := ⟨by (with_reducible repeat (first | refine blk_drewN ?_ _ | refine blk_drew ?_ | refine blk_alloc ?_ _)); refine blk_far ?_ NB427_447.out _; (with_reducible repeat (first | refine blk_drewN ?_ _ | refine blk_drew ?_ | refine blk_alloc ?_ _)); refine blk_far ?_ NB427_447.out _; (with_reducible repeat (first | refine blk_drewN ?_ _ | refine blk_drew ?_ | refine blk_alloc ?_ _)); refine blk_far ?_ NB427_447.out _; (with_reducible repeat (first | refine blk_drewN ?_ _ | refine blk_drew ?_ | refine blk_alloc ?_ _)); exact BK427.out⟩
        have n6_ : Aside0 ((((w60.setCell ⟨gb447, 0, none⟩ (.string t443)).setCell ⟨gb447, 1, none⟩ (.string t444)).setCell ⟨gb447, 2, none⟩ (.int .i64 t445)).heap[gb436]? = some (.cells #[.string t431, .string t432, .int .i64 t433] 42 (0, 0))) := ⟨by (with_reducible repeat (first | refine blk_drewN ?_ _ | refine blk_drew ?_ | refine blk_alloc ?_ _)); refine blk_far ?_ NB436_447.out _; (with_reducible repeat (first | refine blk_drewN ?_ _ | refine blk_drew ?_ | refine blk_alloc ?_ _)); refine blk_far ?_ NB436_447.out _; (with_reducible repeat (first | refine blk_drewN ?_ _ | refine blk_drew ?_ | refine blk_alloc ?_ _)); refine blk_far ?_ NB436_447.out _; (with_reducible repeat (first | refine blk_drewN ?_ _ | refine blk_drew ?_ | refine blk_alloc ?_ _)); exact BK436.out⟩
        have n7_ : Aside0 ((((w60.setCell ⟨gb447, 0, none⟩ (.string t443)).setCell ⟨gb447, 1, none⟩ (.string t444)).setCell ⟨gb447, 2, none⟩ (.int .i64 t445)).heap[gb437]? = some (.cells #[.string t434, .string t435] 38 (0, 0))) := ⟨by (with_reducible repeat (first | refine blk_drewN ?_ _ | refine blk_drew ?_ | refine blk_alloc ?_ _)); refine blk_far ?_ NB437_447.out _; (with_reducible repeat (first | refine blk_drewN ?_ _ | refine blk_drew ?_ | refine blk_alloc ?_ _)); refine blk_far ?_ NB437_447.out _; (with_reducible repeat (first | refine blk_drewN ?_ _ | refine blk_drew ?_ | refine blk_alloc ?_ _)); refine blk_far ?_ NB437_447.out _; (with_reducible repeat (first | refine blk_drewN ?_ _ | refine blk_drew ?_ | refine blk_alloc ?_ _)); exact BK437.out⟩
        have n8_ : Aside0 ((((w60.setCell ⟨gb447, 0, none⟩ (.string t443)).setCell ⟨gb447, 1, none⟩ (.string t444)).setCell ⟨gb447, 2, none⟩ (.int .i64 t445)).heap[gb442]? = some (.cells #[.string t438, .string t439, .int .i64 t440] 42 (0, 0))) := ⟨by (with_reducible repeat (first | refine blk_drewN ?_ _ | refine blk_drew ?_ | refine blk_alloc ?_ _)); refine blk_far ?_ NB442_447.out _; (with_reducible repeat (first | refine blk_drewN ?_ _ | refine blk_drew ?_ | refine blk_alloc ?_ _)); refine blk_far ?_ NB442_447.out _; (with_reducible repeat (first | refine blk_drewN ?_ _ | refine blk_drew ?_ | refine blk_alloc ?_ _)); refine blk_far ?_ NB442_447.out _; (with_reducible repeat (first | refine blk_drewN ?_ _ | refine blk_drew ?_ | refine blk_alloc ?_ _)); exact BK442.out⟩
        have n9_ : Aside0 ((((w60.setCell ⟨gb447, 0, none⟩ (.string t443)).setCell ⟨gb447, 1, none⟩ (.string t444)).setCell ⟨gb447, 2, none⟩ (.int .i64 t445)).heap[gb447]? = some (.cells #[.string t443, .string t444, .int .i64 t445] 42 (0, 0))) := ⟨by (with_reducible repeat (first | refine blk_drewN ?_ _ | refine blk_drew ?_ | refine blk_alloc ?_ _)); refine blk_put (cs := #[.string t443, .string t444, .int .i64 0]) ?_ 2 _ rfl; (with_reducible repeat (first | refine blk_drewN ?_ _ | refine blk_drew ?_ | refine blk_alloc ?_ _)); refine blk_put (cs := #[.string t443, .string ⟨#[]⟩, .int .i64 0]) ?_ 1 _ rfl; (with_reducible repeat (first | refine blk_drewN ?_ _ | refine blk_drew ?_ | refine blk_alloc ?_ _)); refine blk_put (cs := #[.string ⟨#[]⟩, .string ⟨#[]⟩, .int .i64 0]) ?_ 0 _ rfl; (with_reducible repeat (first | refine blk_drewN ?_ _ | refine blk_drew ?_ | refine blk_alloc ?_ _)); exact BK447.out⟩
        have n10_ : Aside0 (Below w.heap.size w (((w60.setCell ⟨gb447, 0, none⟩ (.string t443)).setCell ⟨gb447, 1, none⟩ (.string t444)).setCell ⟨gb447, 2, none⟩ (.int .i64 t445))) := ⟨zq136⟩
        (try clear HO412)
        (try clear HO423)
        (try clear HO430)
        (try clear BK409)
        (try clear BK416)
        (try clear BK427)
        (try clear BK436)
        (try clear BK437)
        (try clear BK442)
        (try clear BK447)
        (try clear HB)
        generalize (((w60.setCell ⟨gb447, 0, none⟩ (.string t443)).setCell ⟨gb447, 1, none⟩ (.string t444)).setCell ⟨gb447, 2, none⟩ (.int .i64 t445)) = w97 at n0_ n1_ n2_ n3_ n4_ n5_ n6_ n7_ n8_ n9_ n10_ ⊢
        have HO412 := n0_
        have HO423 := n1_
        have HO430 := n2_
        have BK409 := n3_
        have BK416 := n4_
        have BK427 := n5_
        have BK436 := n6_
        have BK437 := n7_
        have BK442 := n8_
        have BK447 := n9_
        have HB := n10_
        clear n0_ n1_ n2_ n3_ n4_ n5_ n6_ n7_ n8_ n9_ n10_
        have n0_ := am (Kd.R_drew HO412.out)
        have n1_ := am (Kd.R_drew HO423.out)
        have n2_ := am (Kd.R_drew HO430.out)
        have n3_ := am (blk_drew BK409.out)
        have n4_ := am (blk_drew BK416.out)
        have n5_ := am (blk_drew BK427.out)
        have n6_ := am (blk_drew BK436.out)
        have n7_ := am (blk_drew BK437.out)
        have n8_ := am (blk_drew BK442.out)
        have n9_ := am (blk_drew BK447.out)
        have n10_ := am (below_drew1 HB.out)
        clear HO412
        clear HO423
        clear HO430
        clear BK409
        clear BK416
        clear BK427
        clear BK436
        clear BK437
        clear BK442
        clear BK447
        clear HB
        have HO412 := n0_
        have HO423 := n1_
        have HO430 := n2_
        have BK409 := n3_
        have BK416 := n4_
        have BK427 := n5_
        have BK436 := n6_
        have BK437 := n7_
        have BK442 := n8_
        have BK447 := n9_
        have HB := n10_
        clear n0_ n1_ n2_ n3_ n4_ n5_ n6_ n7_ n8_ n9_ n10_
        refine start_ (n := 32) (S := fun w' => w'.cell? ⟨gb409, 0, none⟩ = some (.string t407) ∧ w'.cell? ⟨gb409, 1, none⟩ = some (.string t408) ∧ w'.cell? ⟨gb427, 0, none⟩ = some (.string t424) ∧ w'.cell? ⟨gb427, 1, none⟩ = some (.string t425) ∧ w'.cell? ⟨gb427, 2, none⟩ = some (.int .i64 t426) ∧ w'.cell? ⟨gb442, 0, none⟩ = some (.string t438) ∧ w'.cell? ⟨gb442, 1, none⟩ = some (.string t439) ∧ w'.cell? ⟨gb442, 2, none⟩ = some (.int .i64 t440) ∧ w'.cell? ⟨gb447, 0, none⟩ = some (.string t443) ∧ w'.cell? ⟨gb447, 1, none⟩ = some (.string t444) ∧ w'.cell? ⟨gb447, 2, none⟩ = some (.int .i64 t445)) (ds := []) #[false, false, false, false, false, false, false, false, false, false, false, false, false, false, false, false, false, false, false, false, false, false, false, false, false, false, false, false, false, false, false, false] zq21 rfl rfl ⟨(blk_cell BK409.out 0).trans rfl, (blk_cell BK409.out 1).trans rfl, (blk_cell BK427.out 0).trans rfl, (blk_cell BK427.out 1).trans rfl, (blk_cell BK427.out 2).trans rfl, (blk_cell BK442.out 0).trans rfl, (blk_cell BK442.out 1).trans rfl, (blk_cell BK442.out 2).trans rfl, (blk_cell BK447.out 0).trans rfl, (blk_cell BK447.out 1).trans rfl, (blk_cell BK447.out 2).trans rfl⟩ (fun hHeld => ?_); refine with_tabW laws_FnLogs.tab11 laws_FnLogs.bits11 (fun HT_ HW_ => ?_)
        generalize w97.drew = w98 at HO412 HO423 HO430 BK409 BK416 BK427 BK436 BK437 BK442 BK447 HB hHeld ⊢
        refine take_ (i := 0) (N := some 72) (v := ?_) (a' := ?_) #[true, false, false, false, false, false, false, false, false, false, false, false, false, false, false, false, false, false, false, false, false, false, false, false, false, false, false, false, false, false, false, false] rfl rfl (take_ofW HT_.out HW_.out zq21) (fun _ _ _ h => h) (Or.inl ⟨by rfl, ?_⟩) hHeld ?_ ?_
        rotate_left
        ·rintro w' ⟨s0, s1, s2, s3, s4, s5, s6, s7, s8, s9, s10⟩
         go_simp
         with_reducible rfl
        rotate_left
        ·simp only [Act.put, List.setIfInBounds_toArray, List.set_cons_zero, List.set_cons_succ, i64_w, i32_w]
         rfl
        refine take_ (i := 2) (N := some 74) (v := ?_) (a' := ?_) #[true, false, true, false, false, false, false, false, false, false, false, false, false, false, false, false, false, false, false, false, false, false, false, false, false, false, false, false, false, false, false, false] rfl rfl (take_ofW HT_.out HW_.out zq21) (fun _ _ _ h => h) (Or.inl ⟨by rfl, ?_⟩) hHeld ?_ ?_
        rotate_left
        ·rintro w' ⟨s0, s1, s2, s3, s4, s5, s6, s7, s8, s9, s10⟩
         go_simp
         with_reducible rfl
        rotate_left
        ·simp only [Act.put, List.setIfInBounds_toArray, List.set_cons_zero, List.set_cons_succ, i64_w, i32_w]
         rfl
        refine one_ (i := 1) (N := some 73) #[true, true, true, false, false, false, false, false, false, false, false, false, false, false, false, false, false, false, false, false, false, false, false, false, false, false, false, false, false, false, false, false] rfl rfl (one_of HT_.out zq21) zq173 (fun K hK => ?_)
        refine goes_ Tryd.func50 zq21 rfl #[.agg #[.string t407, .string t408]] (by rfl) rfl rfl zq5 ?_
        with_reducible refine (impl_IsValidRecord.calls k t407 t408 t448 _ A68.out).mono ?_
        rintro e w99 ⟨rfl, hb⟩
        refine ⟨_, rfl, ?_⟩
        have n0_ := am (Kd.R_below zq143 hb)
        have n1_ := am (Kd.R_below zq148 hb)
        have n2_ := am (Kd.R_below zq151 hb)
        have n3_ := am (blk_below (g := gb409) (o := .cells #[.string t407, .string t408] 38 (0, 0)) zq134 hb)
        have n4_ := am (blk_below (g := gb416) (o := .cells #[.string t414, .string t415] 38 (0, 0)) zq135 hb)
        have n5_ := am (blk_below (g := gb427) (o := .cells #[.string t424, .string t425, .int .i64 t426] 42 (0, 0)) zq137 hb)
        have n6_ := am (blk_below (g := gb436) (o := .cells #[.string t431, .string t432, .int .i64 t433] 42 (0, 0)) zq138 hb)
        have n7_ := am (blk_below (g := gb437) (o := .cells #[.string t434, .string t435] 38 (0, 0)) zq139 hb)
        have n8_ := am (blk_below (g := gb442) (o := .cells #[.string t438, .string t439, .int .i64 t440] 42 (0, 0)) zq140 hb)
        have n9_ := am (blk_below (g := gb447) (o := .cells #[.string t443, .string t444, .int .i64 t445] 42 (0, 0)) zq141 hb)
        have n10_ := am (below_step zq136 hb)
        clear HO412
        clear HO423
        clear HO430
        clear BK409
        clear BK416
        clear BK427
        clear BK436
        clear BK437
        clear BK442
        clear BK447
        clear HB
        have HO412 := n0_
        have HO423 := n1_
        have HO430 := n2_
        have BK409 := n3_
        have BK416 := n4_
        have BK427 := n5_
        have BK436 := n6_
        have BK437 := n7_
        have BK442 := n8_
        have BK447 := n9_
        have HB := n10_
        clear n0_ n1_ n2_ n3_ n4_ n5_ n6_ n7_ n8_ n9_ n10_
        (try clear hb)
        (try clear hb2)
        (try clear hk)
        (try clear hi)
        refine hK.out _ _ ⟨(blk_cell BK409.out 0).trans rfl, (blk_cell BK409.out 1).trans rfl, (blk_cell BK427.out 0).trans rfl, (blk_cell BK427.out 1).trans rfl, (blk_cell BK427.out 2).trans rfl, (blk_cell BK442.out 0).trans rfl, (blk_cell BK442.out 1).trans rfl, (blk_cell BK442.out 2).trans rfl, (blk_cell BK447.out 0).trans rfl, (blk_cell BK447.out 1).trans rfl, (blk_cell BK447.out 2).trans rfl⟩ (fun hHeld => ?_)
        clear hK K
        refine norm_ (a' := ?_) ?_ ?_
        rotate_left
        ·show Act.put _ (some 73) _ = _
         simp only [Act.put, List.setIfInBounds_toArray, List.set_cons_zero, List.set_cons_succ, i64_w, i32_w]
         rfl
        refine one_ (i := 3) (N := some 75) #[true, true, true, true, false, false, false, false, false, false, false, false, false, false, false, false, false, false, false, false, false, false, false, false, false, false, false, false, false, false, false, false] rfl rfl (one_of HT_.out zq21) zq173 (fun K hK => ?_)
        refine goes_ Tryd.func51 zq21 rfl #[.agg #[.string t407, .string t408]] (by rfl) rfl rfl zq5 ?_
        with_reducible refine (spec_IsValidRecord.calls k t407 t408 t449 _ A69.out).mono ?_
        rintro e w100 ⟨rfl, hb⟩
        refine ⟨_, rfl, ?_⟩
        have n0_ := am (Kd.R_below zq143 hb)
        have n1_ := am (Kd.R_below zq148 hb)
        have n2_ := am (Kd.R_below zq151 hb)
        have n3_ := am (blk_below (g := gb409) (o := .cells #[.string t407, .string t408] 38 (0, 0)) zq134 hb)
        have n4_ := am (blk_below (g := gb416) (o := .cells #[.string t414, .string t415] 38 (0, 0)) zq135 hb)
        have n5_ := am (blk_below (g := gb427) (o := .cells #[.string t424, .string t425, .int .i64 t426] 42 (0, 0)) zq137 hb)
        have n6_ := am (blk_below (g := gb436) (o := .cells #[.string t431, .string t432, .int .i64 t433] 42 (0, 0)) zq138 hb)
        have n7_ := am (blk_below (g := gb437) (o := .cells #[.string t434, .string t435] 38 (0, 0)) zq139 hb)
        have n8_ := am (blk_below (g := gb442) (o := .cells #[.string t438, .string t439, .int .i64 t440] 42 (0, 0)) zq140 hb)
        have n9_ := am (blk_below (g := gb447) (o := .cells #[.string t443, .string t444, .int .i64 t445] 42 (0, 0)) zq141 hb)
        have n10_ := am (below_step zq136 hb)
        clear HO412
        clear HO423
        clear HO430
        clear BK409
        clear BK416
        clear BK427
        clear BK436
        clear BK437
        clear BK442
        clear BK447
        clear HB
        have HO412 := n0_
        have HO423 := n1_
        have HO430 := n2_
        have BK409 := n3_
        have BK416 := n4_
        have BK427 := n5_
        have BK436 := n6_
        have BK437 := n7_
        have BK442 := n8_
        have BK447 := n9_
        have HB := n10_
        clear n0_ n1_ n2_ n3_ n4_ n5_ n6_ n7_ n8_ n9_ n10_
        (try clear hb)
        (try clear hb2)
        (try clear hk)
        (try clear hi)
        refine hK.out _ _ ⟨(blk_cell BK409.out 0).trans rfl, (blk_cell BK409.out 1).trans rfl, (blk_cell BK427.out 0).trans rfl, (blk_cell BK427.out 1).trans rfl, (blk_cell BK427.out 2).trans rfl, (blk_cell BK442.out 0).trans rfl, (blk_cell BK442.out 1).trans rfl, (blk_cell BK442.out 2).trans rfl, (blk_cell BK447.out 0).trans rfl, (blk_cell BK447.out 1).trans rfl, (blk_cell BK447.out 2).trans rfl⟩ (fun hHeld => ?_)
        clear hK K
        refine norm_ (a' := ?_) ?_ ?_
        rotate_left
        ·show Act.put _ (some 75) _ = _
         simp only [Act.put, List.setIfInBounds_toArray, List.set_cons_zero, List.set_cons_succ, i64_w, i32_w]
         rfl
        refine pure_ (i := 4) (N := some 76) (v := ?_) (a' := ?_) #[true, true, true, true, true, false, false, false, false, false, false, false, false, false, false, false, false, false, false, false, false, false, false, false, false, false, false, false, false, false, false, false] rfl rfl (any_of HT_.out zq21) (fun _ _ _ h => h) (Or.inl ⟨by rfl, ?_⟩) ?_ ?_
        rotate_left
        ·intro w'
         go_simp
         with_reducible rfl
        rotate_left
        ·simp only [Act.put, List.setIfInBounds_toArray, List.set_cons_zero, List.set_cons_succ, i64_w, i32_w]
         rfl
        refine pure_ (i := 5) (N := some 77) (v := ?_) (a' := ?_) #[true, true, true, true, true, true, false, false, false, false, false, false, false, false, false, false, false, false, false, false, false, false, false, false, false, false, false, false, false, false, false, false] rfl rfl (any_of HT_.out zq21) (fun _ _ _ h => h) (Or.inl ⟨by rfl, ?_⟩) ?_ ?_
        rotate_left
        ·intro w'
         go_simp
         with_reducible rfl
        rotate_left
        ·simp only [Act.put, List.setIfInBounds_toArray, List.set_cons_zero, List.set_cons_succ, i64_w, i32_w]
         rfl
        refine pure_ (i := 6) (N := some 78) (v := ?_) (a' := ?_) #[true, true, true, true, true, true, true, false, false, false, false, false, false, false, false, false, false, false, false, false, false, false, false, false, false, false, false, false, false, false, false, false] rfl rfl (any_of HT_.out zq21) (fun _ _ _ h => h) (Or.inl ⟨by rfl, ?_⟩) ?_ ?_
        rotate_left
        ·intro w'
         go_simp
         with_reducible rfl
        rotate_left
        ·simp only [Act.put, List.setIfInBounds_toArray, List.set_cons_zero, List.set_cons_succ, i64_w, i32_w]
         rfl
        refine pure_ (i := 7) (N := some 79) (v := ?_) (a' := ?_) #[true, true, true, true, true, true, true, true, false, false, false, false, false, false, false, false, false, false, false, false, false, false, false, false, false, false, false, false, false, false, false, false] rfl rfl (any_of HT_.out zq21) (fun _ _ _ h => h) (Or.inl ⟨by rfl, ?_⟩) ?_ ?_
        rotate_left
        ·intro w'
         go_simp
         with_reducible rfl
        rotate_left
        ·simp only [Act.put, List.setIfInBounds_toArray, List.set_cons_zero, List.set_cons_succ, i64_w, i32_w]
         rfl
        refine pure_ (i := 8) (N := some 80) (v := ?_) (a' := ?_) #[true, true, true, true, true, true, true, true, true, false, false, false, false, false, false, false, false, false, false, false, false, false, false, false, false, false, false, false, false, false, false, false] rfl rfl (any_of HT_.out zq21) (fun _ _ _ h => h) (Or.inl ⟨by rfl, ?_⟩) ?_ ?_
        rotate_left
        ·intro w'
         go_simp
         with_reducible rfl
        rotate_left
        ·simp only [Act.put, List.setIfInBounds_toArray, List.set_cons_zero, List.set_cons_succ, i64_w, i32_w]
         rfl
        refine pure_ (i := 9) (N := some 81) (v := ?_) (a' := ?_) #[true, true, true, true, true, true, true, true, true, true, false, false, false, false, false, false, false, false, false, false, false, false, false, false, false, false, false, false, false, false, false, false] rfl rfl (any_of HT_.out zq21) (fun _ _ _ h => h) (Or.inl ⟨by rfl, ?_⟩) ?_ ?_
        rotate_left
        ·intro w'
         go_simp
         with_reducible rfl
        rotate_left
        ·simp only [Act.put, List.setIfInBounds_toArray, List.set_cons_zero, List.set_cons_succ, i64_w, i32_w]
         rfl
        refine pure_ (i := 10) (N := some 82) (v := ?_) (a' := ?_) #[true, true, true, true, true, true, true, true, true, true, true, false, false, false, false, false, false, false, false, false, false, false, false, false, false, false, false, false, false, false, false, false] rfl rfl (any_of HT_.out zq21) (fun _ _ _ h => h) (Or.inl ⟨by rfl, ?_⟩) ?_ ?_
        rotate_left
        ·intro w'
         go_simp
         with_reducible rfl
        rotate_left
        ·simp only [Act.put, List.setIfInBounds_toArray, List.set_cons_zero, List.set_cons_succ, i64_w, i32_w]
         rfl
        refine pure_ (i := 11) (N := some 83) (v := ?_) (a' := ?_) #[true, true, true, true, true, true, true, true, true, true, true, true, false, false, false, false, false, false, false, false, false, false, false, false, false, false, false, false, false, false, false, false] rfl rfl (any_of HT_.out zq21) (fun _ _ _ h => h) (Or.inl ⟨by rfl, ?_⟩) ?_ ?_
        rotate_left
        ·intro w'
         go_simp
         with_reducible rfl
        rotate_left
        ·simp only [Act.put, List.setIfInBounds_toArray, List.set_cons_zero, List.set_cons_succ, i64_w, i32_w]
         rfl
        refine pure_ (i := 12) (N := some 84) (v := ?_) (a' := ?_) #[true, true, true, true, true, true, true, true, true, true, true, true, true, false, false, false, false, false, false, false, false, false, false, false, false, false, false, false, false, false, false, false] rfl rfl (any_of HT_.out zq21) (fun _ _ _ h => h) (Or.inl ⟨by rfl, ?_⟩) ?_ ?_
        rotate_left
        ·intro w'
         go_simp
         with_reducible rfl
        rotate_left
        ·simp only [Act.put, List.setIfInBounds_toArray, List.set_cons_zero, List.set_cons_succ, i64_w, i32_w]
         rfl
        refine pure_ (i := 13) (N := some 85) (v := ?_) (a' := ?_) #[true, true, true, true, true, true, true, true, true, true, true, true, true, true, false, false, false, false, false, false, false, false, false, false, false, false, false, false, false, false, false, false] rfl rfl (any_of HT_.out zq21) (fun _ _ _ h => h) (Or.inl ⟨by rfl, ?_⟩) ?_ ?_
        rotate_left
        ·intro w'
         go_simp
         with_reducible rfl
        rotate_left
        ·simp only [Act.put, List.setIfInBounds_toArray, List.set_cons_zero, List.set_cons_succ, i64_w, i32_w]
         rfl
        refine pure_ (i := 14) (N := some 86) (v := ?_) (a' := ?_) #[true, true, true, true, true, true, true, true, true, true, true, true, true, true, true, false, false, false, false, false, false, false, false, false, false, false, false, false, false, false, false, false] rfl rfl (any_of HT_.out zq21) (fun _ _ _ h => h) (Or.inl ⟨by rfl, ?_⟩) ?_ ?_
        rotate_left
        ·intro w'
         go_simp
         with_reducible rfl
        rotate_left
        ·simp only [Act.put, List.setIfInBounds_toArray, List.set_cons_zero, List.set_cons_succ, i64_w, i32_w]
         rfl
        refine pure_ (i := 15) (N := some 87) (v := ?_) (a' := ?_) #[true, true, true, true, true, true, true, true, true, true, true, true, true, true, true, true, false, false, false, false, false, false, false, false, false, false, false, false, false, false, false, false] rfl rfl (any_of HT_.out zq21) (fun _ _ _ h => h) (Or.inl ⟨by rfl, ?_⟩) ?_ ?_
        rotate_left
        ·intro w'
         go_simp
         with_reducible rfl
        rotate_left
        ·simp only [Act.put, List.setIfInBounds_toArray, List.set_cons_zero, List.set_cons_succ, i64_w, i32_w]
         rfl
        refine take_ (i := 16) (N := some 88) (v := ?_) (a' := ?_) #[true, true, true, true, true, true, true, true, true, true, true, true, true, true, true, true, true, false, false, false, false, false, false, false, false, false, false, false, false, false, false, false] rfl rfl (take_ofW HT_.out HW_.out zq21) (fun _ _ _ h => h) (Or.inl ⟨by rfl, ?_⟩) hHeld ?_ ?_
        rotate_left
        ·rintro w' ⟨s0, s1, s2, s3, s4, s5, s6, s7, s8, s9, s10⟩
         go_simp
         with_reducible rfl
        rotate_left
        ·simp only [Act.put, List.setIfInBounds_toArray, List.set_cons_zero, List.set_cons_succ, i64_w, i32_w]
         rfl
        refine take_ (i := 18) (N := some 90) (v := ?_) (a' := ?_) #[true, true, true, true, true, true, true, true, true, true, true, true, true, true, true, true, true, false, true, false, false, false, false, false, false, false, false, false, false, false, false, false] rfl rfl (take_ofW HT_.out HW_.out zq21) (fun _ _ _ h => h) (Or.inl ⟨by rfl, ?_⟩) hHeld ?_ ?_
        rotate_left
        ·rintro w' ⟨s0, s1, s2, s3, s4, s5, s6, s7, s8, s9, s10⟩
         go_simp
         with_reducible rfl
        rotate_left
        ·simp only [Act.put, List.setIfInBounds_toArray, List.set_cons_zero, List.set_cons_succ, i64_w, i32_w]
         rfl
        refine one_ (i := 17) (N := some 89) #[true, true, true, true, true, true, true, true, true, true, true, true, true, true, true, true, true, true, true, false, false, false, false, false, false, false, false, false, false, false, false, false] rfl rfl (one_of HT_.out zq21) zq173 (fun K hK => ?_)
        refine goes_ Tryd.func33 zq21 rfl #[.agg #[.string t424, .string t425, .int .i64 t426]] (by rfl) rfl rfl zq5 ?_
        with_reducible refine (impl_IsValidLog.calls k t424 t425 t426 t450 _ ?side1 A81.out).mono ?_
        (case side1 => exact Glob.below HGL.out zq136)
        rintro e w101 ⟨rfl, hb⟩
        refine ⟨_, rfl, ?_⟩
        have n0_ := am (Kd.R_below zq143 hb)
        have n1_ := am (Kd.R_below zq148 hb)
        have n2_ := am (Kd.R_below zq151 hb)
        have n3_ := am (blk_below (g := gb409) (o := .cells #[.string t407, .string t408] 38 (0, 0)) zq134 hb)
        have n4_ := am (blk_below (g := gb416) (o := .cells #[.string t414, .string t415] 38 (0, 0)) zq135 hb)
        have n5_ := am (blk_below (g := gb427) (o := .cells #[.string t424, .string t425, .int .i64 t426] 42 (0, 0)) zq137 hb)
        have n6_ := am (blk_below (g := gb436) (o := .cells #[.string t431, .string t432, .int .i64 t433] 42 (0, 0)) zq138 hb)
        have n7_ := am (blk_below (g := gb437) (o := .cells #[.string t434, .string t435] 38 (0, 0)) zq139 hb)
        have n8_ := am (blk_below (g := gb442) (o := .cells #[.string t438, .string t439, .int .i64 t440] 42 (0, 0)) zq140 hb)
        have n9_ := am (blk_below (g := gb447) (o := .cells #[.string t443, .string t444, .int .i64 t445] 42 (0, 0)) zq141 hb)
        have n10_ := am (below_step zq136 hb)
        clear HO412
        clear HO423
        clear HO430
        clear BK409
        clear BK416
        clear BK427
        clear BK436
        clear BK437
        clear BK442
        clear BK447
        clear HB
        have HO412 := n0_
        have HO423 := n1_
        have HO430 := n2_
        have BK409 := n3_
        have BK416 := n4_
        have BK427 := n5_
        have BK436 := n6_
        have BK437 := n7_
        have BK442 := n8_
        have BK447 := n9_
        have HB := n10_
        clear n0_ n1_ n2_ n3_ n4_ n5_ n6_ n7_ n8_ n9_ n10_
        (try clear hb)
        (try clear hb2)
        (try clear hk)
        (try clear hi)
        refine hK.out _ _ ⟨(blk_cell BK409.out 0).trans rfl, (blk_cell BK409.out 1).trans rfl, (blk_cell BK427.out 0).trans rfl, (blk_cell BK427.out 1).trans rfl, (blk_cell BK427.out 2).trans rfl, (blk_cell BK442.out 0).trans rfl, (blk_cell BK442.out 1).trans rfl, (blk_cell BK442.out 2).trans rfl, (blk_cell BK447.out 0).trans rfl, (blk_cell BK447.out 1).trans rfl, (blk_cell BK447.out 2).trans rfl⟩ (fun hHeld => ?_)
        clear hK K
        refine norm_ (a' := ?_) ?_ ?_
        rotate_left
        ·show Act.put _ (some 89) _ = _
         simp only [Act.put, List.setIfInBounds_toArray, List.set_cons_zero, List.set_cons_succ, i64_w, i32_w]
         rfl
        refine one_ (i := 19) (N := some 91) #[true, true, true, true, true, true, true, true, true, true, true, true, true, true, true, true, true, true, true, true, false, false, false, false, false, false, false, false, false, false, false, false] rfl rfl (one_of HT_.out zq21) zq173 (fun K hK => ?_)
        refine goes_ Tryd.func31 zq21 rfl #[.agg #[.string t424, .string t425, .int .i64 t426]] (by rfl) rfl rfl zq5 ?_
        with_reducible refine (spec_IsValidLog.calls k t424 t425 t426 t451 _ A82.out).mono ?_
        rintro e w102 ⟨rfl, hb⟩
        refine ⟨_, rfl, ?_⟩
        have n0_ := am (Kd.R_below zq143 hb)
        have n1_ := am (Kd.R_below zq148 hb)
        have n2_ := am (Kd.R_below zq151 hb)
        have n3_ := am (blk_below (g := gb409) (o := .cells #[.string t407, .string t408] 38 (0, 0)) zq134 hb)
        have n4_ := am (blk_below (g := gb416) (o := .cells #[.string t414, .string t415] 38 (0, 0)) zq135 hb)
        have n5_ := am (blk_below (g := gb427) (o := .cells #[.string t424, .string t425, .int .i64 t426] 42 (0, 0)) zq137 hb)
        have n6_ := am (blk_below (g := gb436) (o := .cells #[.string t431, .string t432, .int .i64 t433] 42 (0, 0)) zq138 hb)
        have n7_ := am (blk_below (g := gb437) (o := .cells #[.string t434, .string t435] 38 (0, 0)) zq139 hb)
        have n8_ := am (blk_below (g := gb442) (o := .cells #[.string t438, .string t439, .int .i64 t440] 42 (0, 0)) zq140 hb)
        have n9_ := am (blk_below (g := gb447) (o := .cells #[.string t443, .string t444, .int .i64 t445] 42 (0, 0)) zq141 hb)
        have n10_ := am (below_step zq136 hb)
        clear HO412
        clear HO423
        clear HO430
        clear BK409
        clear BK416
        clear BK427
        clear BK436
        clear BK437
        clear BK442
        clear BK447
        clear HB
        have HO412 := n0_
        have HO423 := n1_
        have HO430 := n2_
        have BK409 := n3_
        have BK416 := n4_
        have BK427 := n5_
        have BK436 := n6_
        have BK437 := n7_
        have BK442 := n8_
        have BK447 := n9_
        have HB := n10_
        clear n0_ n1_ n2_ n3_ n4_ n5_ n6_ n7_ n8_ n9_ n10_
        (try clear hb)
        (try clear hb2)
        (try clear hk)
        (try clear hi)
        refine hK.out _ _ ⟨(blk_cell BK409.out 0).trans rfl, (blk_cell BK409.out 1).trans rfl, (blk_cell BK427.out 0).trans rfl, (blk_cell BK427.out 1).trans rfl, (blk_cell BK427.out 2).trans rfl, (blk_cell BK442.out 0).trans rfl, (blk_cell BK442.out 1).trans rfl, (blk_cell BK442.out 2).trans rfl, (blk_cell BK447.out 0).trans rfl, (blk_cell BK447.out 1).trans rfl, (blk_cell BK447.out 2).trans rfl⟩ (fun hHeld => ?_)
        clear hK K
        refine norm_ (a' := ?_) ?_ ?_
        rotate_left
        ·show Act.put _ (some 91) _ = _
         simp only [Act.put, List.setIfInBounds_toArray, List.set_cons_zero, List.set_cons_succ, i64_w, i32_w]
         rfl
        refine pure_ (i := 20) (N := some 92) (v := ?_) (a' := ?_) #[true, true, true, true, true, true, true, true, true, true, true, true, true, true, true, true, true, true, true, true, true, false, false, false, false, false, false, false, false, false, false, false] rfl rfl (any_of HT_.out zq21) (fun _ _ _ h => h) (Or.inl ⟨by rfl, ?_⟩) ?_ ?_
        rotate_left
        ·intro w'
         go_simp
         with_reducible rfl
        rotate_left
        ·simp only [Act.put, List.setIfInBounds_toArray, List.set_cons_zero, List.set_cons_succ, i64_w, i32_w]
         rfl
        refine pure_ (i := 21) (N := some 93) (v := ?_) (a' := ?_) #[true, true, true, true, true, true, true, true, true, true, true, true, true, true, true, true, true, true, true, true, true, true, false, false, false, false, false, false, false, false, false, false] rfl rfl (any_of HT_.out zq21) (fun _ _ _ h => h) (Or.inl ⟨by rfl, ?_⟩) ?_ ?_
        rotate_left
        ·intro w'
         go_simp
         with_reducible rfl
        rotate_left
        ·simp only [Act.put, List.setIfInBounds_toArray, List.set_cons_zero, List.set_cons_succ, i64_w, i32_w]
         rfl
        refine pure_ (i := 22) (N := some 94) (v := ?_) (a' := ?_) #[true, true, true, true, true, true, true, true, true, true, true, true, true, true, true, true, true, true, true, true, true, true, true, false, false, false, false, false, false, false, false, false] rfl rfl (any_of HT_.out zq21) (fun _ _ _ h => h) (Or.inl ⟨by rfl, ?_⟩) ?_ ?_
        rotate_left
        ·intro w'
         go_simp
         with_reducible rfl
        rotate_left
        ·simp only [Act.put, List.setIfInBounds_toArray, List.set_cons_zero, List.set_cons_succ, i64_w, i32_w]
         rfl
        refine take_ (i := 23) (N := some 95) (v := ?_) (a' := ?_) #[true, true, true, true, true, true, true, true, true, true, true, true, true, true, true, true, true, true, true, true, true, true, true, true, false, false, false, false, false, false, false, false] rfl rfl (take_ofW HT_.out HW_.out zq21) (fun _ _ _ h => h) (Or.inl ⟨by rfl, ?_⟩) hHeld ?_ ?_
        rotate_left
        ·rintro w' ⟨s0, s1, s2, s3, s4, s5, s6, s7, s8, s9, s10⟩
         go_simp
         with_reducible rfl
        rotate_left
        ·simp only [Act.put, List.setIfInBounds_toArray, List.set_cons_zero, List.set_cons_succ, i64_w, i32_w]
         rfl
        refine take_ (i := 24) (N := some 96) (v := ?_) (a' := ?_) #[true, true, true, true, true, true, true, true, true, true, true, true, true, true, true, true, true, true, true, true, true, true, true, true, true, false, false, false, false, false, false, false] rfl rfl (take_ofW HT_.out HW_.out zq21) (fun _ _ _ h => h) (Or.inl ⟨by rfl, ?_⟩) hHeld ?_ ?_
        rotate_left
        ·rintro w' ⟨s0, s1, s2, s3, s4, s5, s6, s7, s8, s9, s10⟩
         go_simp
         with_reducible rfl
        rotate_left
        ·simp only [Act.put, List.setIfInBounds_toArray, List.set_cons_zero, List.set_cons_succ, i64_w, i32_w]
         rfl
        refine pure_ (i := 25) (N := some 97) (v := ?_) (a' := ?_) #[true, true, true, true, true, true, true, true, true, true, true, true, true, true, true, true, true, true, true, true, true, true, true, true, true, true, false, false, false, false, false, false] rfl rfl (any_of HT_.out zq21) (fun _ _ _ h => h) (Or.inl ⟨by rfl, ?_⟩) ?_ ?_
        rotate_left
        ·intro w'
         go_simp
         with_reducible rfl
        rotate_left
        ·simp only [Act.put, List.setIfInBounds_toArray, List.set_cons_zero, List.set_cons_succ, i64_w, i32_w]
         rfl
        refine pure_ (i := 26) (N := some 98) (v := ?_) (a' := ?_) #[true, true, true, true, true, true, true, true, true, true, true, true, true, true, true, true, true, true, true, true, true, true, true, true, true, true, true, false, false, false, false, false] rfl rfl (any_of HT_.out zq21) (fun _ _ _ h => h) (Or.inl ⟨by rfl, ?_⟩) ?_ ?_
        rotate_left
        ·intro w'
         go_simp
         with_reducible rfl
        rotate_left
        ·simp only [Act.put, List.setIfInBounds_toArray, List.set_cons_zero, List.set_cons_succ, i64_w, i32_w]
         rfl
        refine pure_ (i := 27) (N := some 99) (v := ?_) (a' := ?_) #[true, true, true, true, true, true, true, true, true, true, true, true, true, true, true, true, true, true, true, true, true, true, true, true, true, true, true, true, false, false, false, false] rfl rfl (any_of HT_.out zq21) (fun _ _ _ h => h) (Or.inl ⟨by rfl, ?_⟩) ?_ ?_
        rotate_left
        ·intro w'
         go_simp
         with_reducible rfl
        rotate_left
        ·simp only [Act.put, List.setIfInBounds_toArray, List.set_cons_zero, List.set_cons_succ, i64_w, i32_w]
         rfl
        refine pure_ (i := 28) (N := some 100) (v := ?_) (a' := ?_) #[true, true, true, true, true, true, true, true, true, true, true, true, true, true, true, true, true, true, true, true, true, true, true, true, true, true, true, true, true, false, false, false] rfl rfl (any_of HT_.out zq21) (fun _ _ _ h => h) (Or.inl ⟨by rfl, ?_⟩) ?_ ?_
        rotate_left
        ·intro w'
         go_simp
         with_reducible rfl
        rotate_left
        ·simp only [Act.put, List.setIfInBounds_toArray, List.set_cons_zero, List.set_cons_succ, i64_w, i32_w]
         rfl
        refine pure_ (i := 29) (N := some 101) (v := ?_) (a' := ?_) #[true, true, true, true, true, true, true, true, true, true, true, true, true, true, true, true, true, true, true, true, true, true, true, true, true, true, true, true, true, true, false, false] rfl rfl (any_of HT_.out zq21) (fun _ _ _ h => h) (Or.inl ⟨by rfl, ?_⟩) ?_ ?_
        rotate_left
        ·intro w'
         go_simp
         with_reducible rfl
        rotate_left
        ·simp only [Act.put, List.setIfInBounds_toArray, List.set_cons_zero, List.set_cons_succ, i64_w, i32_w]
         rfl
        refine pure_ (i := 30) (N := some 102) (v := ?_) (a' := ?_) #[true, true, true, true, true, true, true, true, true, true, true, true, true, true, true, true, true, true, true, true, true, true, true, true, true, true, true, true, true, true, true, false] rfl rfl (any_of HT_.out zq21) (fun _ _ _ h => h) (Or.inl ⟨by rfl, ?_⟩) ?_ ?_
        rotate_left
        ·intro w'
         go_simp
         with_reducible rfl
        rotate_left
        ·simp only [Act.put, List.setIfInBounds_toArray, List.set_cons_zero, List.set_cons_succ, i64_w, i32_w]
         rfl
        refine pure_ (i := 31) (N := some 103) (v := ?_) (a' := ?_) #[true, true, true, true, true, true, true, true, true, true, true, true, true, true, true, true, true, true, true, true, true, true, true, true, true, true, true, true, true, true, true, true] rfl rfl (any_of HT_.out zq21) (fun _ _ _ h => h) (Or.inl ⟨by rfl, ?_⟩) ?_ ?_
        rotate_left
        ·intro w'
         go_simp
         with_reducible rfl
        rotate_left
        ·simp only [Act.put, List.setIfInBounds_toArray, List.set_cons_zero, List.set_cons_succ, i64_w, i32_w]
         rfl
        refine done_ (done_of HT_.out zq21) ?_
        try go_wp2
        go_meet
        case rel => exact ⟨_, ((t441 != t446)), zq1, H', ⟨zq172⟩, ⟨zq134⟩, ⟨zq135⟩, ⟨zq137⟩, ⟨zq138⟩, ⟨zq139⟩, ⟨zq140⟩, ⟨zq141⟩, ⟨zq136⟩⟩
    ·rw [if_neg c75] at H
     have c75b0 : (t417.toList == t419.toList) = false := beq_eq_false_iff_ne.mpr c75
     have c75b1 : (t417.toList != t419.toList) = true := bne_iff_ne.mpr c75
     exact absurd H zq187
  case rest =>
   clear HC15
   try clear p2
   try clear c3
   try clear c5
   try clear c7
   try clear c31
   try clear c33
   try clear c50
   try clear c51
   try clear c75
   try clear c75b0
   try clear c75b1
   obtain ⟨kq, x103_14, rfl, HA, HJ14, BK409, BK416, BK427, BK436, BK437, BK442, BK447, HB⟩ := hcut
   cases kq with
   | zero => exact absurd HA.out (by simp [laws_FnLogs.j0])
   | succ kj14 =>
    have H := HA.out
    clear HA
    simp only [laws_FnLogs.j0] at H
    by_cases c107 : x103_14 = true
    ·subst c107
     have H1 : (some false) = some r := by rw [if_pos rfl] at H; exact H
     clear H
     have H := H1
     clear H1
     exact absurd (Option.some.inj H) (by rw [hr]; decide)
    ·replace c107 := Bool.eq_false_iff.mpr c107
     subst c107
     have H1 : ((impl_SyncLog.f kj14 t431 t432 t433).bind fun bt452 => ((spec_SyncLog.f kj14 t431 t432 t433).bind fun bt457 => ((impl_LogRecords.f kj14 t431 t432 t433).bind fun bt462 => ((spec_LogRecords.f kj14 t431 t432 t433).bind fun bt466 => (if (!(bt452.1.toList == bt457.1.toList) || (!(bt452.2.1.toList == bt457.2.1.toList) || (!(bt452.2.2.1 == bt457.2.2.1)))) = true then (laws_FnLogs.j1 kj14 t441 bt452.2.2.2 bt462.1 true t431 t432 t433 t434 t435 t438 t439 t440 bt452.1 bt452.2.1 bt452.2.2.1) else (if (bt452.2.2.2 != bt457.2.2.2) = true then (laws_FnLogs.j1 kj14 t441 bt452.2.2.2 bt462.1 true t431 t432 t433 t434 t435 t438 t439 t440 bt452.1 bt452.2.1 bt452.2.2.1) else (if (bt462.2 != bt466.2) = true then (laws_FnLogs.j1 kj14 t441 bt452.2.2.2 bt462.1 true t431 t432 t433 t434 t435 t438 t439 t440 bt452.1 bt452.2.1 bt452.2.2.1) else ((laws_vRecords.f kj14 bt462.1 bt466.1).bind fun t470 => (laws_FnLogs.j1 kj14 t441 bt452.2.2.2 bt462.1 (!t470) t431 t432 t433 t434 t435 t438 t439 t440 bt452.1 bt452.2.1 bt452.2.2.1))))))))) = some r := by rw [if_neg (show ¬ (false = true) by decide)] at H; exact H
     clear H
     have H := H1
     clear H1
     replace H := bem H
     obtain ⟨⟨t452, t453, t454, t455⟩, A1080, H⟩ := H
     replace H : ((spec_SyncLog.f kj14 t431 t432 t433).bind fun bt457 => ((impl_LogRecords.f kj14 t431 t432 t433).bind fun bt462 => ((spec_LogRecords.f kj14 t431 t432 t433).bind fun bt466 => (if (!(t452.toList == bt457.1.toList) || (!(t453.toList == bt457.2.1.toList) || (!(t454 == bt457.2.2.1)))) = true then (laws_FnLogs.j1 kj14 t441 t455 bt462.1 true t431 t432 t433 t434 t435 t438 t439 t440 t452 t453 t454) else (if (t455 != bt457.2.2.2) = true then (laws_FnLogs.j1 kj14 t441 t455 bt462.1 true t431 t432 t433 t434 t435 t438 t439 t440 t452 t453 t454) else (if (bt462.2 != bt466.2) = true then (laws_FnLogs.j1 kj14 t441 t455 bt462.1 true t431 t432 t433 t434 t435 t438 t439 t440 t452 t453 t454) else ((laws_vRecords.f kj14 bt462.1 bt466.1).bind fun t470 => (laws_FnLogs.j1 kj14 t441 t455 bt462.1 (!t470) t431 t432 t433 t434 t435 t438 t439 t440 t452 t453 t454)))))))) = some r := H
     have A108 := am A1080
     clear A1080
     replace H := bem H
     obtain ⟨⟨t457, t458, t459, t460⟩, A1090, H⟩ := H
     replace H : ((impl_LogRecords.f kj14 t431 t432 t433).bind fun bt462 => ((spec_LogRecords.f kj14 t431 t432 t433).bind fun bt466 => (if (!(t452.toList == t457.toList) || (!(t453.toList == t458.toList) || (!(t454 == t459)))) = true then (laws_FnLogs.j1 kj14 t441 t455 bt462.1 true t431 t432 t433 t434 t435 t438 t439 t440 t452 t453 t454) else (if (t455 != t460) = true then (laws_FnLogs.j1 kj14 t441 t455 bt462.1 true t431 t432 t433 t434 t435 t438 t439 t440 t452 t453 t454) else (if (bt462.2 != bt466.2) = true then (laws_FnLogs.j1 kj14 t441 t455 bt462.1 true t431 t432 t433 t434 t435 t438 t439 t440 t452 t453 t454) else ((laws_vRecords.f kj14 bt462.1 bt466.1).bind fun t470 => (laws_FnLogs.j1 kj14 t441 t455 bt462.1 (!t470) t431 t432 t433 t434 t435 t438 t439 t440 t452 t453 t454))))))) = some r := H
     have A109 := am A1090
     clear A1090
     replace H := bem H
     obtain ⟨⟨t462, t465⟩, A1100, H⟩ := H
     replace H : ((spec_LogRecords.f kj14 t431 t432 t433).bind fun bt466 => (if (!(t452.toList == t457.toList) || (!(t453.toList == t458.toList) || (!(t454 == t459)))) = true then (laws_FnLogs.j1 kj14 t441 t455 t462 true t431 t432 t433 t434 t435 t438 t439 t440 t452 t453 t454) else (if (t455 != t460) = true then (laws_FnLogs.j1 kj14 t441 t455 t462 true t431 t432 t433 t434 t435 t438 t439 t440 t452 t453 t454) else (if (t465 != bt466.2) = true then (laws_FnLogs.j1 kj14 t441 t455 t462 true t431 t432 t433 t434 t435 t438 t439 t440 t452 t453 t454) else ((laws_vRecords.f kj14 t462 bt466.1).bind fun t470 => (laws_FnLogs.j1 kj14 t441 t455 t462 (!t470) t431 t432 t433 t434 t435 t438 t439 t440 t452 t453 t454)))))) = some r := H
     have A110 := am A1100
     clear A1100
     replace H := bem H
     obtain ⟨⟨t466, t469⟩, A1110, H⟩ := H
     replace H : (if (!(t452.toList == t457.toList) || (!(t453.toList == t458.toList) || (!(t454 == t459)))) = true then (laws_FnLogs.j1 kj14 t441 t455 t462 true t431 t432 t433 t434 t435 t438 t439 t440 t452 t453 t454) else (if (t455 != t460) = true then (laws_FnLogs.j1 kj14 t441 t455 t462 true t431 t432 t433 t434 t435 t438 t439 t440 t452 t453 t454) else (if (t465 != t469) = true then (laws_FnLogs.j1 kj14 t441 t455 t462 true t431 t432 t433 t434 t435 t438 t439 t440 t452 t453 t454) else ((laws_vRecords.f kj14 t462 t466).bind fun t470 => (laws_FnLogs.j1 kj14 t441 t455 t462 (!t470) t431 t432 t433 t434 t435 t438 t439 t440 t452 t453 t454))))) = some r := H
     have A111 := am A1110
     clear A1110
     have HC112 := am H
     clear H
     have hnb113 := NB436_409.out
     have hnc113 := NB409_436.out
     have hnb114 := NB436_416.out
     have hnc114 := NB416_436.out
     have hnb115 := NB436_427.out
     have hnc115 := NB427_436.out
     have hnb116 := NB436_437.out
     have hnc116 := NB437_436.out
     have hnb117 := NB436_442.out
     have hnc117 := NB442_436.out
     have hnb118 := NB436_447.out
     have hnc118 := NB447_436.out
     have hcz119_0 : wc.cell? ⟨gb436, 0, none⟩ = some (.string t431) := (blk_cell BK436.out 0).trans rfl
     have hcz119_1 : wc.cell? ⟨gb436, 1, none⟩ = some (.string t432) := (blk_cell BK436.out 1).trans rfl
     have hcz119_2 : wc.cell? ⟨gb436, 2, none⟩ = some (.int .i64 t433) := (blk_cell BK436.out 2).trans rfl
     have hfz119_0 := blk_frozen BK436.out 0
     have hfz119_1 := blk_frozen BK436.out 1
     have hfz119_2 := blk_frozen BK436.out 2
     go_upto_region 17 with (first | ((with_reducible refine gate_callee (f := 37) rfl ?_); refine goesL_ (some 106) rfl rfl Tryd.func37 zq21 rfl #[.agg #[.string t431, .string t432, .int .i64 t433]] rfl zq5 ?_; (with_reducible refine (impl_SyncLog.calls kj14 t431 t432 t433 t452 t453 t454 t455 _ ?side1 A108.out).mono ?_); (case side1 => exact Glob.below HGL.out zq136); rintro e w120 ⟨rfl, hb⟩; refine ⟨_, rfl, ?_⟩; have n0_ := am (blk_below (g := gb409) (o := .cells #[.string t407, .string t408] 38 (0, 0)) zq134 hb); have n1_ := am (blk_below (g := gb416) (o := .cells #[.string t414, .string t415] 38 (0, 0)) zq135 hb); have n2_ := am (blk_below (g := gb427) (o := .cells #[.string t424, .string t425, .int .i64 t426] 42 (0, 0)) zq137 hb); have n3_ := am (blk_below (g := gb436) (o := .cells #[.string t431, .string t432, .int .i64 t433] 42 (0, 0)) zq138 hb); have n4_ := am (blk_below (g := gb437) (o := .cells #[.string t434, .string t435] 38 (0, 0)) zq139 hb); have n5_ := am (blk_below (g := gb442) (o := .cells #[.string t438, .string t439, .int .i64 t440] 42 (0, 0)) zq140 hb); have n6_ := am (blk_below (g := gb447) (o := .cells #[.string t443, .string t444, .int .i64 t445] 42 (0, 0)) zq141 hb); have n7_ := am (below_step zq136 hb); clear BK409; clear BK416; clear BK427; clear BK436; clear BK437; clear BK442; clear BK447; clear HB; have BK409 := n0_; have BK416 := n1_; have BK427 := n2_; have BK436 := n3_; have BK437 := n4_; have BK442 := n5_; have BK447 := n6_; have HB := n7_; clear n0_ n1_ n2_ n3_ n4_ n5_ n6_ n7_; (try clear hb); (try clear hb2); (try clear hk); (try clear hi)) | ((with_reducible refine gate_dst (N := 17) rfl ?_); (try (refine gate_guard (by rfl) ?_; dsimp only)); refine box_event ?hg (N := 17) ?hd (cs := #[.string ⟨#[]⟩, .string ⟨#[]⟩, .int .i64 0]) (t := 42) ?hr ?_; (case hd => rfl); (case hg => rfl); (case hr => first | (go_simp; done) | (go_simp; rfl)); intro gb456 hg w121 hbox hb; have n0_ := am (blk_below (g := gb409) (o := .cells #[.string t407, .string t408] 38 (0, 0)) zq134 hb); have n1_ := am (blk_below (g := gb416) (o := .cells #[.string t414, .string t415] 38 (0, 0)) zq135 hb); have n2_ := am (blk_below (g := gb427) (o := .cells #[.string t424, .string t425, .int .i64 t426] 42 (0, 0)) zq137 hb); have n3_ := am (blk_below (g := gb436) (o := .cells #[.string t431, .string t432, .int .i64 t433] 42 (0, 0)) zq138 hb); have n4_ := am (blk_below (g := gb437) (o := .cells #[.string t434, .string t435] 38 (0, 0)) zq139 hb); have n5_ := am (blk_below (g := gb442) (o := .cells #[.string t438, .string t439, .int .i64 t440] 42 (0, 0)) zq140 hb); have n6_ := am (blk_below (g := gb447) (o := .cells #[.string t443, .string t444, .int .i64 t445] 42 (0, 0)) zq141 hb); have n7_ := am (below_step zq136 hb); have n8_ := am (hbox); have n9_ := am ((by rw [hg]; exact (below_size zq136) : w.heap.size ≤ gb456)); have n10_ := am ((by rw [hg]; exact (below_size zq136) : w.heap.size ≤ gb456)); have n11_ := am ((zq152 : gb409 ≠ gb456)); have n12_ := am ((zq153 : gb456 ≠ gb409)); have n13_ := am ((zq155 : gb416 ≠ gb456)); have n14_ := am ((zq156 : gb456 ≠ gb416)); have n15_ := am ((zq157 : gb427 ≠ gb456)); have n16_ := am ((zq158 : gb456 ≠ gb427)); have n17_ := am ((zq166 : gb436 ≠ gb456)); have n18_ := am ((zq167 : gb456 ≠ gb436)); have n19_ := am ((zq168 : gb437 ≠ gb456)); have n20_ := am ((zq169 : gb456 ≠ gb437)); have n21_ := am ((zq170 : gb442 ≠ gb456)); have n22_ := am ((zq171 : gb456 ≠ gb442)); have n23_ := am ((zq191 : gb447 ≠ gb456)); have n24_ := am ((zq192 : gb456 ≠ gb447)); clear BK409; clear BK416; clear BK427; clear BK436; clear BK437; clear BK442; clear BK447; clear HB; have BK409 := n0_; have BK416 := n1_; have BK427 := n2_; have BK436 := n3_; have BK437 := n4_; have BK442 := n5_; have BK447 := n6_; have HB := n7_; have BK456 := n8_; have GW456 := n9_; have GE456 := n10_; have NB409_456 := n11_; have NB456_409 := n12_; have NB416_456 := n13_; have NB456_416 := n14_; have NB427_456 := n15_; have NB456_427 := n16_; have NB436_456 := n17_; have NB456_436 := n18_; have NB437_456 := n19_; have NB456_437 := n20_; have NB442_456 := n21_; have NB456_442 := n22_; have NB447_456 := n23_; have NB456_447 := n24_; clear n0_ n1_ n2_ n3_ n4_ n5_ n6_ n7_ n8_ n9_ n10_ n11_ n12_ n13_ n14_ n15_ n16_ n17_ n18_ n19_ n20_ n21_ n22_ n23_ n24_; clear hb hbox hg; have hnb122 := NB456_409.out; have hnc122 := NB409_456.out; have hnb123 := NB456_416.out; have hnc123 := NB416_456.out; have hnb124 := NB456_427.out; have hnc124 := NB427_456.out; have hnb125 := NB456_436.out; have hnc125 := NB436_456.out; have hnb126 := NB456_437.out; have hnc126 := NB437_456.out; have hnb127 := NB456_442.out; have hnc127 := NB442_456.out; have hnb128 := NB456_447.out; have hnc128 := NB447_456.out; have hcz129_0 : w121.cell? ⟨gb456, 0, none⟩ = some (.string ⟨#[]⟩) := (blk_cell BK456.out 0).trans rfl; have hcz129_1 : w121.cell? ⟨gb456, 1, none⟩ = some (.string ⟨#[]⟩) := (blk_cell BK456.out 1).trans rfl; have hcz129_2 : w121.cell? ⟨gb456, 2, none⟩ = some (.int .i64 0) := (blk_cell BK456.out 2).trans rfl; have hfz129_0 := blk_frozen BK456.out 0; have hfz129_1 := blk_frozen BK456.out 1; have hfz129_2 := blk_frozen BK456.out 2; have hcz130_0 : w121.cell? ⟨gb436, 0, none⟩ = some (.string t431) := (blk_cell BK436.out 0).trans rfl; have hcz130_1 : w121.cell? ⟨gb436, 1, none⟩ = some (.string t432) := (blk_cell BK436.out 1).trans rfl; have hcz130_2 : w121.cell? ⟨gb436, 2, none⟩ = some (.int .i64 t433) := (blk_cell BK436.out 2).trans rfl; have hfz130_0 := blk_frozen BK436.out 0; have hfz130_1 := blk_frozen BK436.out 1; have hfz130_2 := blk_frozen BK436.out 2) | ((with_reducible refine gate_callee (f := 36) rfl ?_); refine goesL_ (some 111) rfl rfl Tryd.func36 zq21 rfl #[.agg #[.string t431, .string t432, .int .i64 t433]] rfl zq5 ?_; (with_reducible refine (spec_SyncLog.calls kj14 t431 t432 t433 t457 t458 t459 t460 _ A109.out).mono ?_); rintro e w131 ⟨rfl, hb⟩; refine ⟨_, rfl, ?_⟩; have n0_ := am (blk_below (g := gb409) (o := .cells #[.string t407, .string t408] 38 (0, 0)) (by (with_reducible repeat (first | refine blk_drewN ?_ _ | refine blk_drew ?_ | refine blk_alloc ?_ _)); refine blk_far ?_ NB409_456.out _; (with_reducible repeat (first | refine blk_drewN ?_ _ | refine blk_drew ?_ | refine blk_alloc ?_ _)); refine blk_far ?_ NB409_456.out _; (with_reducible repeat (first | refine blk_drewN ?_ _ | refine blk_drew ?_ | refine blk_alloc ?_ _)); refine blk_far ?_ NB409_456.out _; (with_reducible repeat (first | refine blk_drewN ?_ _ | refine blk_drew ?_ | refine blk_alloc ?_ _)); exact BK409.out) hb); have n1_ := am (blk_below (g := gb416) (o := .cells #[.string t414, .string t415] 38 (0, 0)) (by (with_reducible repeat (first | refine blk_drewN ?_ _ | refine blk_drew ?_ | refine blk_alloc ?_ _)); refine blk_far ?_ NB416_456.out _; (with_reducible repeat (first | refine blk_drewN ?_ _ | refine blk_drew ?_ | refine blk_alloc ?_ _)); refine blk_far ?_ NB416_456.out _; (with_reducible repeat (first | refine blk_drewN ?_ _ | refine blk_drew ?_ | refine blk_alloc ?_ _)); refine blk_far ?_ NB416_456.out _; (with_reducible repeat (first | refine blk_drewN ?_ _ | refine blk_drew ?_ | refine blk_alloc ?_ _)); exact BK416.out) hb); have n2_ := am (blk_below (g := gb427) (o := .cells #[.string t424, .string t425, .int .i64 t426] 42 (0, 0)) (by (with_reducible repeat (first | refine blk_drewN ?_ _ | refine blk_drew ?_ | refine blk_alloc ?_ _)); refine blk_far ?_ NB427_456.out _; (with_reducible repeat (first | refine blk_drewN ?_ _ | refine blk_drew ?_ | refine blk_alloc ?_ _)); refine blk_far ?_ NB427_456.out _; (with_reducible repeat (first | refine blk_drewN ?_ _ | refine blk_drew ?_ | refine blk_alloc ?_ _)); refine blk_far ?_ NB427_456.out _; (with_reducible repeat (first | refine blk_drewN ?_ _ | refine blk_drew ?_ | refine blk_alloc ?_ _)); exact BK427.out) hb); have n3_ := am (blk_below (g := gb436) (o := .cells #[.string t431, .string t432, .int .i64 t433] 42 (0, 0)) (by (with_reducible repeat (first | refine blk_drewN ?_ _ | refine blk_drew ?_ | refine blk_alloc ?_ _)); refine blk_far ?_ NB436_456.out _; (with_reducible repeat (first | refine blk_drewN ?_ _ | refine blk_drew ?_ | refine blk_alloc ?_ _)); refine blk_far ?_ NB436_456.out _; (with_reducible repeat (first | refine blk_drewN ?_ _ | refine blk_drew ?_ | refine blk_alloc ?_ _)); refine blk_far ?_ NB436_456.out _; (with_reducible repeat (first | refine blk_drewN ?_ _ | refine blk_drew ?_ | refine blk_alloc ?_ _)); exact BK436.out) hb); have n4_ := am (blk_below (g := gb437) (o := .cells #[.string t434, .string t435] 38 (0, 0)) (by (with_reducible repeat (first | refine blk_drewN ?_ _ | refine blk_drew ?_ | refine blk_alloc ?_ _)); refine blk_far ?_ NB437_456.out _; (with_reducible repeat (first | refine blk_drewN ?_ _ | refine blk_drew ?_ | refine blk_alloc ?_ _)); refine blk_far ?_ NB437_456.out _; (with_reducible repeat (first | refine blk_drewN ?_ _ | refine blk_drew ?_ | refine blk_alloc ?_ _)); refine blk_far ?_ NB437_456.out _; (with_reducible repeat (first | refine blk_drewN ?_ _ | refine blk_drew ?_ | refine blk_alloc ?_ _)); exact BK437.out) hb); have n5_ := am (blk_below (g := gb442) (o := .cells #[.string t438, .string t439, .int .i64 t440] 42 (0, 0)) (by (with_reducible repeat (first | refine blk_drewN ?_ _ | refine blk_drew ?_ | refine blk_alloc ?_ _)); refine blk_far ?_ NB442_456.out _; (with_reducible repeat (first | refine blk_drewN ?_ _ | refine blk_drew ?_ | refine blk_alloc ?_ _)); refine blk_far ?_ NB442_456.out _; (with_reducible repeat (first | refine blk_drewN ?_ _ | refine blk_drew ?_ | refine blk_alloc ?_ _)); refine blk_far ?_ NB442_456.out _; (with_reducible repeat (first | refine blk_drewN ?_ _ | refine blk_drew ?_ | refine blk_alloc ?_ _)); exact BK442.out) hb); have n6_ := am (blk_below (g := gb447) (o := .cells #[.string t443, .string t444, .int .i64 t445] 42 (0, 0)) (by (with_reducible repeat (first | refine blk_drewN ?_ _ | refine blk_drew ?_ | refine blk_alloc ?_ _)); refine blk_far ?_ NB447_456.out _; (with_reducible repeat (first | refine blk_drewN ?_ _ | refine blk_drew ?_ | refine blk_alloc ?_ _)); refine blk_far ?_ NB447_456.out _; (with_reducible repeat (first | refine blk_drewN ?_ _ | refine blk_drew ?_ | refine blk_alloc ?_ _)); refine blk_far ?_ NB447_456.out _; (with_reducible repeat (first | refine blk_drewN ?_ _ | refine blk_drew ?_ | refine blk_alloc ?_ _)); exact BK447.out) hb); have n7_ := am (blk_below (g := gb456) (o := .cells #[.string t452, .string t453, .int .i64 t454] 42 (0, 0)) (by (with_reducible repeat (first | refine blk_drewN ?_ _ | refine blk_drew ?_ | refine blk_alloc ?_ _)); refine blk_put (cs := #[.string t452, .string t453, .int .i64 0]) ?_ 2 _ rfl; (with_reducible repeat (first | refine blk_drewN ?_ _ | refine blk_drew ?_ | refine blk_alloc ?_ _)); refine blk_put (cs := #[.string t452, .string ⟨#[]⟩, .int .i64 0]) ?_ 1 _ rfl; (with_reducible repeat (first | refine blk_drewN ?_ _ | refine blk_drew ?_ | refine blk_alloc ?_ _)); refine blk_put (cs := #[.string ⟨#[]⟩, .string ⟨#[]⟩, .int .i64 0]) ?_ 0 _ rfl; (with_reducible repeat (first | refine blk_drewN ?_ _ | refine blk_drew ?_ | refine blk_alloc ?_ _)); exact BK456.out) hb); have n8_ := am (below_step zq146 hb); clear BK409; clear BK416; clear BK427; clear BK436; clear BK437; clear BK442; clear BK447; clear BK456; clear HB; have BK409 := n0_; have BK416 := n1_; have BK427 := n2_; have BK436 := n3_; have BK437 := n4_; have BK442 := n5_; have BK447 := n6_; have BK456 := n7_; have HB := n8_; clear n0_ n1_ n2_ n3_ n4_ n5_ n6_ n7_ n8_; (try clear hb); (try clear hb2); (try clear hk); (try clear hi)) | ((with_reducible refine gate_dst (N := 19) rfl ?_); (try (refine gate_guard (by rfl) ?_; dsimp only)); refine box_event ?hg (N := 19) ?hd (cs := #[.string ⟨#[]⟩, .string ⟨#[]⟩, .int .i64 0]) (t := 42) ?hr ?_; (case hd => rfl); (case hg => rfl); (case hr => first | (go_simp; done) | (go_simp; rfl)); intro gb461 hg w132 hbox hb; have n0_ := am (blk_below (g := gb409) (o := .cells #[.string t407, .string t408] 38 (0, 0)) zq134 hb); have n1_ := am (blk_below (g := gb416) (o := .cells #[.string t414, .string t415] 38 (0, 0)) zq135 hb); have n2_ := am (blk_below (g := gb427) (o := .cells #[.string t424, .string t425, .int .i64 t426] 42 (0, 0)) zq137 hb); have n3_ := am (blk_below (g := gb436) (o := .cells #[.string t431, .string t432, .int .i64 t433] 42 (0, 0)) zq138 hb); have n4_ := am (blk_below (g := gb437) (o := .cells #[.string t434, .string t435] 38 (0, 0)) zq139 hb); have n5_ := am (blk_below (g := gb442) (o := .cells #[.string t438, .string t439, .int .i64 t440] 42 (0, 0)) zq140 hb); have n6_ := am (blk_below (g := gb447) (o := .cells #[.string t443, .string t444, .int .i64 t445] 42 (0, 0)) zq141 hb); have n7_ := am (blk_below (g := gb456) (o := .cells #[.string t452, .string t453, .int .i64 t454] 42 (0, 0)) zq147 hb); have n8_ := am (below_step zq146 hb); have n9_ := am (hbox); have n10_ := am ((by rw [hg]; exact (below_size zq146) : w.heap.size ≤ gb461)); have n11_ := am ((by rw [hg]; exact (below_size zq146) : w.heap.size ≤ gb461)); have n12_ := am ((zq152 : gb409 ≠ gb461)); have n13_ := am ((zq153 : gb461 ≠ gb409)); have n14_ := am ((zq155 : gb416 ≠ gb461)); have n15_ := am ((zq156 : gb461 ≠ gb416)); have n16_ := am ((zq157 : gb427 ≠ gb461)); have n17_ := am ((zq158 : gb461 ≠ gb427)); have n18_ := am ((zq166 : gb436 ≠ gb461)); have n19_ := am ((zq167 : gb461 ≠ gb436)); have n20_ := am ((zq168 : gb437 ≠ gb461)); have n21_ := am ((zq169 : gb461 ≠ gb437)); have n22_ := am ((zq170 : gb442 ≠ gb461)); have n23_ := am ((zq171 : gb461 ≠ gb442)); have n24_ := am ((zq191 : gb447 ≠ gb461)); have n25_ := am ((zq192 : gb461 ≠ gb447)); have n26_ := am ((by rw [hg]; exact Nat.ne_of_lt (blk_lt (g := gb456) (o := .cells #[.string t452, .string t453, .int .i64 t454] 42 (0, 0)) zq147) : gb456 ≠ gb461)); have n27_ := am ((by rw [hg]; exact Nat.ne_of_gt (blk_lt (g := gb456) (o := .cells #[.string t452, .string t453, .int .i64 t454] 42 (0, 0)) zq147) : gb461 ≠ gb456)); clear BK409; clear BK416; clear BK427; clear BK436; clear BK437; clear BK442; clear BK447; clear BK456; clear HB; have BK409 := n0_; have BK416 := n1_; have BK427 := n2_; have BK436 := n3_; have BK437 := n4_; have BK442 := n5_; have BK447 := n6_; have BK456 := n7_; have HB := n8_; have BK461 := n9_; have GW461 := n10_; have GE461 := n11_; have NB409_461 := n12_; have NB461_409 := n13_; have NB416_461 := n14_; have NB461_416 := n15_; have NB427_461 := n16_; have NB461_427 := n17_; have NB436_461 := n18_; have NB461_436 := n19_; have NB437_461 := n20_; have NB461_437 := n21_; have NB442_461 := n22_; have NB461_442 := n23_; have NB447_461 := n24_; have NB461_447 := n25_; have NB456_461 := n26_; have NB461_456 := n27_; clear n0_ n1_ n2_ n3_ n4_ n5_ n6_ n7_ n8_ n9_ n10_ n11_ n12_ n13_ n14_ n15_ n16_ n17_ n18_ n19_ n20_ n21_ n22_ n23_ n24_ n25_ n26_ n27_; clear hb hbox hg; have hnb133 := NB461_409.out; have hnc133 := NB409_461.out; have hnb134 := NB461_416.out; have hnc134 := NB416_461.out; have hnb135 := NB461_427.out; have hnc135 := NB427_461.out; have hnb136 := NB461_436.out; have hnc136 := NB436_461.out; have hnb137 := NB461_437.out; have hnc137 := NB437_461.out; have hnb138 := NB461_442.out; have hnc138 := NB442_461.out; have hnb139 := NB461_447.out; have hnc139 := NB447_461.out; have hnb140 := NB461_456.out; have hnc140 := NB456_461.out; have hcz141_0 : w132.cell? ⟨gb461, 0, none⟩ = some (.string ⟨#[]⟩) := (blk_cell BK461.out 0).trans rfl; have hcz141_1 : w132.cell? ⟨gb461, 1, none⟩ = some (.string ⟨#[]⟩) := (blk_cell BK461.out 1).trans rfl; have hcz141_2 : w132.cell? ⟨gb461, 2, none⟩ = some (.int .i64 0) := (blk_cell BK461.out 2).trans rfl; have hfz141_0 := blk_frozen BK461.out 0; have hfz141_1 := blk_frozen BK461.out 1; have hfz141_2 := blk_frozen BK461.out 2; have hcz142_0 : w132.cell? ⟨gb436, 0, none⟩ = some (.string t431) := (blk_cell BK436.out 0).trans rfl; have hcz142_1 : w132.cell? ⟨gb436, 1, none⟩ = some (.string t432) := (blk_cell BK436.out 1).trans rfl; have hcz142_2 : w132.cell? ⟨gb436, 2, none⟩ = some (.int .i64 t433) := (blk_cell BK436.out 2).trans rfl; have hfz142_0 := blk_frozen BK436.out 0; have hfz142_1 := blk_frozen BK436.out 1; have hfz142_2 := blk_frozen BK436.out 2) | ((with_reducible refine gate_callee (f := 41) rfl ?_); refine goesL_ (some 116) rfl rfl Tryd.func41 zq21 rfl #[.agg #[.string t431, .string t432, .int .i64 t433]] rfl zq5 ?_; (with_reducible refine (impl_LogRecords.calls kj14 t431 t432 t433 t462 t465 _ ?side1 A110.out).mono ?_); (case side1 => exact Glob.below HGL.out zq133); rintro e w143 ⟨v463, rfl, ho0, hb⟩; refine ⟨_, rfl, ?_⟩; have n0_ := am (Kd.R_lower (Kd.R_newB (Kd.R_newB (Kd.R_newB ho0 (g := gb409) (o := .cells #[.string t407, .string t408] 38 (0, 0)) zq159) (g := gb416) (o := .cells #[.string t414, .string t415] 38 (0, 0)) zq160) (g := gb437) (o := .cells #[.string t434, .string t435] 38 (0, 0)) zq161) (below_size zq133)); have n1_ := am (blk_below (g := gb409) (o := .cells #[.string t407, .string t408] 38 (0, 0)) zq159 hb); have n2_ := am (blk_below (g := gb416) (o := .cells #[.string t414, .string t415] 38 (0, 0)) zq160 hb); have n3_ := am (blk_below (g := gb427) (o := .cells #[.string t424, .string t425, .int .i64 t426] 42 (0, 0)) (by (with_reducible repeat (first | refine blk_drewN ?_ _ | refine blk_drew ?_ | refine blk_alloc ?_ _)); refine blk_far ?_ NB427_461.out _; (with_reducible repeat (first | refine blk_drewN ?_ _ | refine blk_drew ?_ | refine blk_alloc ?_ _)); refine blk_far ?_ NB427_461.out _; (with_reducible repeat (first | refine blk_drewN ?_ _ | refine blk_drew ?_ | refine blk_alloc ?_ _)); refine blk_far ?_ NB427_461.out _; (with_reducible repeat (first | refine blk_drewN ?_ _ | refine blk_drew ?_ | refine blk_alloc ?_ _)); exact BK427.out) hb); have n4_ := am (blk_below (g := gb436) (o := .cells #[.string t431, .string t432, .int .i64 t433] 42 (0, 0)) (by (with_reducible repeat (first | refine blk_drewN ?_ _ | refine blk_drew ?_ | refine blk_alloc ?_ _)); refine blk_far ?_ NB436_461.out _; (with_reducible repeat (first | refine blk_drewN ?_ _ | refine blk_drew ?_ | refine blk_alloc ?_ _)); refine blk_far ?_ NB436_461.out _; (with_reducible repeat (first | refine blk_drewN ?_ _ | refine blk_drew ?_ | refine blk_alloc ?_ _)); refine blk_far ?_ NB436_461.out _; (with_reducible repeat (first | refine blk_drewN ?_ _ | refine blk_drew ?_ | refine blk_alloc ?_ _)); exact BK436.out) hb); have n5_ := am (blk_below (g := gb437) (o := .cells #[.string t434, .string t435] 38 (0, 0)) zq161 hb); have n6_ := am (blk_below (g := gb442) (o := .cells #[.string t438, .string t439, .int .i64 t440] 42 (0, 0)) (by (with_reducible repeat (first | refine blk_drewN ?_ _ | refine blk_drew ?_ | refine blk_alloc ?_ _)); refine blk_far ?_ NB442_461.out _; (with_reducible repeat (first | refine blk_drewN ?_ _ | refine blk_drew ?_ | refine blk_alloc ?_ _)); refine blk_far ?_ NB442_461.out _; (with_reducible repeat (first | refine blk_drewN ?_ _ | refine blk_drew ?_ | refine blk_alloc ?_ _)); refine blk_far ?_ NB442_461.out _; (with_reducible repeat (first | refine blk_drewN ?_ _ | refine blk_drew ?_ | refine blk_alloc ?_ _)); exact BK442.out) hb); have n7_ := am (blk_below (g := gb447) (o := .cells #[.string t443, .string t444, .int .i64 t445] 42 (0, 0)) (by (with_reducible repeat (first | refine blk_drewN ?_ _ | refine blk_drew ?_ | refine blk_alloc ?_ _)); refine blk_far ?_ NB447_461.out _; (with_reducible repeat (first | refine blk_drewN ?_ _ | refine blk_drew ?_ | refine blk_alloc ?_ _)); refine blk_far ?_ NB447_461.out _; (with_reducible repeat (first | refine blk_drewN ?_ _ | refine blk_drew ?_ | refine blk_alloc ?_ _)); refine blk_far ?_ NB447_461.out _; (with_reducible repeat (first | refine blk_drewN ?_ _ | refine blk_drew ?_ | refine blk_alloc ?_ _)); exact BK447.out) hb); have n8_ := am (blk_below (g := gb456) (o := .cells #[.string t452, .string t453, .int .i64 t454] 42 (0, 0)) (by (with_reducible repeat (first | refine blk_drewN ?_ _ | refine blk_drew ?_ | refine blk_alloc ?_ _)); refine blk_far ?_ NB456_461.out _; (with_reducible repeat (first | refine blk_drewN ?_ _ | refine blk_drew ?_ | refine blk_alloc ?_ _)); refine blk_far ?_ NB456_461.out _; (with_reducible repeat (first | refine blk_drewN ?_ _ | refine blk_drew ?_ | refine blk_alloc ?_ _)); refine blk_far ?_ NB456_461.out _; (with_reducible repeat (first | refine blk_drewN ?_ _ | refine blk_drew ?_ | refine blk_alloc ?_ _)); exact BK456.out) hb); have n9_ := am (blk_below (g := gb461) (o := .cells #[.string t457, .string t458, .int .i64 t459] 42 (0, 0)) (by (with_reducible repeat (first | refine blk_drewN ?_ _ | refine blk_drew ?_ | refine blk_alloc ?_ _)); refine blk_put (cs := #[.string t457, .string t458, .int .i64 0]) ?_ 2 _ rfl; (with_reducible repeat (first | refine blk_drewN ?_ _ | refine blk_drew ?_ | refine blk_alloc ?_ _)); refine blk_put (cs := #[.string t457, .string ⟨#[]⟩, .int .i64 0]) ?_ 1 _ rfl; (with_reducible repeat (first | refine blk_drewN ?_ _ | refine blk_drew ?_ | refine blk_alloc ?_ _)); refine blk_put (cs := #[.string ⟨#[]⟩, .string ⟨#[]⟩, .int .i64 0]) ?_ 0 _ rfl; (with_reducible repeat (first | refine blk_drewN ?_ _ | refine blk_drew ?_ | refine blk_alloc ?_ _)); exact BK461.out) hb); have n10_ := am (below_step zq133 hb); clear BK409; clear BK416; clear BK427; clear BK436; clear BK437; clear BK442; clear BK447; clear BK456; clear BK461; clear HB; have HO464 := n0_; have BK409 := n1_; have BK416 := n2_; have BK427 := n3_; have BK436 := n4_; have BK437 := n5_; have BK442 := n6_; have BK447 := n7_; have BK456 := n8_; have BK461 := n9_; have HB := n10_; clear n0_ n1_ n2_ n3_ n4_ n5_ n6_ n7_ n8_ n9_ n10_; (try clear hb); (try clear hb2); (try clear hk); (try clear hi); (try clear ho0); have hcz144_0 : w143.cell? ⟨gb436, 0, none⟩ = some (.string t431) := (blk_cell BK436.out 0).trans rfl; have hcz144_1 : w143.cell? ⟨gb436, 1, none⟩ = some (.string t432) := (blk_cell BK436.out 1).trans rfl; have hcz144_2 : w143.cell? ⟨gb436, 2, none⟩ = some (.int .i64 t433) := (blk_cell BK436.out 2).trans rfl; have hfz144_0 := blk_frozen BK436.out 0; have hfz144_1 := blk_frozen BK436.out 1; have hfz144_2 := blk_frozen BK436.out 2) | ((with_reducible refine gate_callee (f := 40) rfl ?_); refine goesL_ (some 121) rfl rfl Tryd.func40 zq21 rfl #[.agg #[.string t431, .string t432, .int .i64 t433]] rfl zq5 ?_; (with_reducible refine (spec_LogRecords.calls kj14 t431 t432 t433 t466 t469 _ A111.out).mono ?_); rintro e w145 ⟨v467, rfl, ho0, hb⟩; refine ⟨_, rfl, ?_⟩; have n0_ := am (Kd.R_elder' zq209 (Kd.R_base ho0) hb); have n1_ := am (Kd.R_lower (Kd.R_newB (Kd.R_newB (Kd.R_newB (Kd.R_new' ho0 (Kd.R_lt zq209)) (g := gb409) (o := .cells #[.string t407, .string t408] 38 (0, 0)) zq134) (g := gb416) (o := .cells #[.string t414, .string t415] 38 (0, 0)) zq135) (g := gb437) (o := .cells #[.string t434, .string t435] 38 (0, 0)) zq139) (below_size zq133)); have n2_ := am (blk_below (g := gb409) (o := .cells #[.string t407, .string t408] 38 (0, 0)) zq134 hb); have n3_ := am (blk_below (g := gb416) (o := .cells #[.string t414, .string t415] 38 (0, 0)) zq135 hb); have n4_ := am (blk_below (g := gb427) (o := .cells #[.string t424, .string t425, .int .i64 t426] 42 (0, 0)) zq137 hb); have n5_ := am (blk_below (g := gb436) (o := .cells #[.string t431, .string t432, .int .i64 t433] 42 (0, 0)) zq138 hb); have n6_ := am (blk_below (g := gb437) (o := .cells #[.string t434, .string t435] 38 (0, 0)) zq139 hb); have n7_ := am (blk_below (g := gb442) (o := .cells #[.string t438, .string t439, .int .i64 t440] 42 (0, 0)) zq140 hb); have n8_ := am (blk_below (g := gb447) (o := .cells #[.string t443, .string t444, .int .i64 t445] 42 (0, 0)) zq141 hb); have n9_ := am (blk_below (g := gb456) (o := .cells #[.string t452, .string t453, .int .i64 t454] 42 (0, 0)) zq147 hb); have n10_ := am (blk_below (g := gb461) (o := .cells #[.string t457, .string t458, .int .i64 t459] 42 (0, 0)) zq154 hb); have n11_ := am (below_step zq133 hb); clear HO464; clear BK409; clear BK416; clear BK427; clear BK436; clear BK437; clear BK442; clear BK447; clear BK456; clear BK461; clear HB; have HO464 := n0_; have HO468 := n1_; have BK409 := n2_; have BK416 := n3_; have BK427 := n4_; have BK436 := n5_; have BK437 := n6_; have BK442 := n7_; have BK447 := n8_; have BK456 := n9_; have BK461 := n10_; have HB := n11_; clear n0_ n1_ n2_ n3_ n4_ n5_ n6_ n7_ n8_ n9_ n10_ n11_; (try clear hb); (try clear hb2); (try clear hk); (try clear hi); (try clear ho0)))
     (try simp only [Act.put, List.setIfInBounds_toArray, List.set_cons_zero, List.set_cons_succ])
     go_cut [142] (fun v142 wc => ∃ (kq : Nat) (x142_111 : Bool), v142 = .bool x142_111 ∧ Aside0 (laws_FnLogs.j1 kq t441 t455 t462 x142_111 t431 t432 t433 t434 t435 t438 t439 t440 t452 t453 t454 = some r) ∧ Aside0 (kq ≤ kj14) ∧ Aside0 (Kd.R k38 38 wc w.heap.size (fun k_ => k_ ≠ gb409 ∧ k_ ≠ gb416 ∧ k_ ≠ gb437) v463 t462) ∧ Aside0 (wc.heap[gb409]? = some (.cells #[.string t407, .string t408] 38 (0, 0))) ∧ Aside0 (wc.heap[gb416]? = some (.cells #[.string t414, .string t415] 38 (0, 0))) ∧ Aside0 (wc.heap[gb427]? = some (.cells #[.string t424, .string t425, .int .i64 t426] 42 (0, 0))) ∧ Aside0 (wc.heap[gb436]? = some (.cells #[.string t431, .string t432, .int .i64 t433] 42 (0, 0))) ∧ Aside0 (wc.heap[gb437]? = some (.cells #[.string t434, .string t435] 38 (0, 0))) ∧ Aside0 (wc.heap[gb442]? = some (.cells #[.string t438, .string t439, .int .i64 t440] 42 (0, 0))) ∧ Aside0 (wc.heap[gb447]? = some (.cells #[.string t443, .string t444, .int .i64 t445] 42 (0, 0))) ∧ Aside0 (wc.heap[gb456]? = some (.cells #[.string t452, .string t453, .int .i64 t454] 42 (0, 0))) ∧ Aside0 (wc.heap[gb461]? = some (.cells #[.string t457, .string t458, .int .i64 t459] 42 (0, 0))) ∧ Aside0 (Below w.heap.size w wc))
     case first =>
      have H := HC112.out
      clear HC112
      by_cases c146 : (!(t452.toList == t457.toList) || (!(t453.toList == t458.toList) || (!(t454 == t459)))) = true
      ·rw [if_pos c146] at H
       have c146b0 : (!(t452.toList == t457.toList) || (!(t453.toList == t458.toList) || (!(t454 == t459)))) = true := c146
       clear c146
       (first | rw [c146b0] | (simp only [i64_w, i32_w]; rw [c146b0]) | skip)
       exact absurd H (by rw [hr]; cases kj14 <;> simp [laws_FnLogs.j1])
      ·rw [if_neg c146] at H
       have c146b0 : (!(t452.toList == t457.toList) || (!(t453.toList == t458.toList) || (!(t454 == t459)))) = false := by simpa using c146
       clear c146
       (first | rw [c146b0] | (simp only [i64_w, i32_w]; rw [c146b0]) | skip)
       by_cases c164 : (t455 != t460) = true
       ·rw [if_pos c164] at H
        have c164b0 : (t455 != t460) = true := c164
        (try (have c164b1 : decide (t455 = t460) = false := by simpa using c164))
        (try (have c164b2 : (t455 == t460) = false := by simpa using c164))
        (try (have c164b3 : ¬ (t455 = t460) := by simpa using c164))
        clear c164
        exact absurd H (by rw [hr]; cases kj14 <;> simp [laws_FnLogs.j1])
       ·rw [if_neg c164] at H
        have c164b0 : (t455 != t460) = false := by simpa using c164
        (try (have c164b1 : decide (t455 = t460) = true := by simpa using c164))
        (try (have c164b2 : (t455 == t460) = true := by simpa using c164))
        clear c164
        by_cases c182 : (t465 != t469) = true
        ·rw [if_pos c182] at H
         have c182b0 : (t465 != t469) = true := c182
         (try (have c182b1 : decide (t465 = t469) = false := by simpa using c182))
         (try (have c182b2 : (t465 == t469) = false := by simpa using c182))
         (try (have c182b3 : ¬ (t465 = t469) := by simpa using c182))
         clear c182
         exact absurd H (by rw [hr]; cases kj14 <;> simp [laws_FnLogs.j1])
        ·rw [if_neg c182] at H
         have c182b0 : (t465 != t469) = false := by simpa using c182
         (try (have c182b1 : decide (t465 = t469) = true := by simpa using c182))
         (try (have c182b2 : (t465 == t469) = true := by simpa using c182))
         clear c182
         replace H := bem H
         obtain ⟨t470, A2000, H⟩ := H
         replace H : (laws_FnLogs.j1 kj14 t441 t455 t462 (!t470) t431 t432 t433 t434 t435 t438 t439 t440 t452 t453 t454) = some r := H
         have A200 := am A2000
         clear A2000
         have H' := am H
         clear H
         have hnb201 := NB456_409.out
         have hnc201 := NB409_456.out
         have hnb202 := NB456_416.out
         have hnc202 := NB416_456.out
         have hnb203 := NB456_427.out
         have hnc203 := NB427_456.out
         have hnb204 := NB456_436.out
         have hnc204 := NB436_456.out
         have hnb205 := NB456_437.out
         have hnc205 := NB437_456.out
         have hnb206 := NB456_442.out
         have hnc206 := NB442_456.out
         have hnb207 := NB456_447.out
         have hnc207 := NB447_456.out
         have hnb208 := NB456_461.out
         have hnc208 := NB461_456.out
         have hcz209_0 : w145.cell? ⟨gb456, 0, none⟩ = some (.string t452) := (blk_cell BK456.out 0).trans rfl
         have hcz209_1 : w145.cell? ⟨gb456, 1, none⟩ = some (.string t453) := (blk_cell BK456.out 1).trans rfl
         have hcz209_2 : w145.cell? ⟨gb456, 2, none⟩ = some (.int .i64 t454) := (blk_cell BK456.out 2).trans rfl
         have hfz209_0 := blk_frozen BK456.out 0
         have hfz209_1 := blk_frozen BK456.out 1
         have hfz209_2 := blk_frozen BK456.out 2
         have hnb210 := NB461_409.out
         have hnc210 := NB409_461.out
         have hnb211 := NB461_416.out
         have hnc211 := NB416_461.out
         have hnb212 := NB461_427.out
         have hnc212 := NB427_461.out
         have hnb213 := NB461_436.out
         have hnc213 := NB436_461.out
         have hnb214 := NB461_437.out
         have hnc214 := NB437_461.out
         have hnb215 := NB461_442.out
         have hnc215 := NB442_461.out
         have hnb216 := NB461_447.out
         have hnc216 := NB447_461.out
         have hcz217_0 : w145.cell? ⟨gb461, 0, none⟩ = some (.string t457) := (blk_cell BK461.out 0).trans rfl
         have hcz217_1 : w145.cell? ⟨gb461, 1, none⟩ = some (.string t458) := (blk_cell BK461.out 1).trans rfl
         have hcz217_2 : w145.cell? ⟨gb461, 2, none⟩ = some (.int .i64 t459) := (blk_cell BK461.out 2).trans rfl
         have hfz217_0 := blk_frozen BK461.out 0
         have hfz217_1 := blk_frozen BK461.out 1
         have hfz217_2 := blk_frozen BK461.out 2
         obtain ⟨Ao218, co218, eo218⟩ := Kd.R_slice HO464.out
         subst eo218
         obtain ⟨Ao219, co219, eo219⟩ := Kd.R_slice HO468.out
         subst eo219
         go_wp2_with (first | (go_at_call 52; (with_reducible refine (laws_vRecords.calls kj14 _ _ t462 _ _ t466 t470 _ ?side1 ?side2 ?side3 ?side4 A200.out).mono ?_); (case side1 => repeat (first | exact (Kd.R_reads' HO464.out).2.2 | (with_reducible refine Kd.C_alloc ?_ _) | (with_reducible refine Kd.C_drewN ?_ _) | (with_reducible refine Kd.C_drew ?_))); (case side2 => exact (Kd.R_reads' HO464.out).2.1); (case side3 => repeat (first | exact (Kd.R_reads' HO468.out).2.2 | (with_reducible refine Kd.C_alloc ?_ _) | (with_reducible refine Kd.C_drewN ?_ _) | (with_reducible refine Kd.C_drew ?_))); (case side4 => exact (Kd.R_reads' HO468.out).2.1); rintro e w' ⟨rfl, ⟨nd, rfl⟩⟩))
         go_meet
         case rel => exact ⟨_, (!t470), zq1, H', ⟨by have := HJ14.out; first | omega | exact Nat.le_refl _⟩, ⟨by (with_reducible repeat (first | apply Kd.R_alloc | apply Kd.R_drewN | apply Kd.R_drew)); exact Kd.R_mono HO464.out (fun _ hk => ⟨hk.1.1.1.2, ⟨hk.1.1.2, hk.1.2⟩⟩)⟩, ⟨zq134⟩, ⟨zq135⟩, ⟨zq137⟩, ⟨zq138⟩, ⟨zq139⟩, ⟨zq140⟩, ⟨zq141⟩, ⟨zq147⟩, ⟨zq154⟩, ⟨zq133⟩⟩
     case rest =>
      clear HC112
      try clear c1
      try clear c2
      try clear p2
      try clear c3
      try clear c4
      try clear c5
      try clear c7
      try clear c10
      try clear c11
      try clear c12
      try clear c13
      try clear c14
      try clear c15
      try clear c16
      try clear c17
      try clear c18
      try clear c19
      try clear c20
      try clear c21
      try clear c31
      try clear c33
      try clear c36
      try clear c37
      try clear c40
      try clear c41
      try clear c50
      try clear c51
      try clear c75
      try clear c75b0
      try clear c75b1
      try clear c107
      try clear c113
      try clear c114
      try clear c115
      try clear c116
      try clear c117
      try clear c118
      try clear c122
      try clear c123
      try clear c124
      try clear c125
      try clear c126
      try clear c127
      try clear c128
      try clear c133
      try clear c134
      try clear c135
      try clear c136
      try clear c137
      try clear c138
      try clear c139
      try clear c140
      try clear c146
      try clear c146b0
      try clear c147
      try clear c148
      try clear c149
      try clear c150
      try clear c151
      try clear c152
      try clear c153
      try clear c154
      try clear c156
      try clear c157
      try clear c158
      try clear c159
      try clear c160
      try clear c161
      try clear c162
      try clear c164
      try clear c164b0
      try clear c164b1
      try clear c164b2
      try clear c165
      try clear c166
      try clear c167
      try clear c168
      try clear c169
      try clear c170
      try clear c171
      try clear c172
      try clear c174
      try clear c175
      try clear c176
      try clear c177
      try clear c178
      try clear c179
      try clear c180
      try clear c182
      try clear c182b0
      try clear c182b1
      try clear c182b2
      try clear c183
      try clear c184
      try clear c185
      try clear c186
      try clear c187
      try clear c188
      try clear c189
      try clear c190
      try clear c192
      try clear c193
      try clear c194
      try clear c195
      try clear c196
      try clear c197
      try clear c198
      try clear c201
      try clear c202
      try clear c203
      try clear c204
      try clear c205
      try clear c206
      try clear c207
      try clear c208
      try clear c210
      try clear c211
      try clear c212
      try clear c213
      try clear c214
      try clear c215
      try clear c216
      try clear hcz119_0
      try clear hcz119_1
      try clear hcz119_2
      try clear hcz129_0
      try clear hcz129_1
      try clear hcz129_2
      try clear hcz130_0
      try clear hcz130_1
      try clear hcz130_2
      try clear hcz141_0
      try clear hcz141_1
      try clear hcz141_2
      try clear hcz142_0
      try clear hcz142_1
      try clear hcz142_2
      try clear hcz144_0
      try clear hcz144_1
      try clear hcz144_2
      try clear hcz155_0
      try clear hcz155_1
      try clear hcz155_2
      try clear hcz163_0
      try clear hcz163_1
      try clear hcz163_2
      try clear hcz173_0
      try clear hcz173_1
      try clear hcz173_2
      try clear hcz181_0
      try clear hcz181_1
      try clear hcz181_2
      try clear hcz191_0
      try clear hcz191_1
      try clear hcz191_2
      try clear hcz199_0
      try clear hcz199_1
      try clear hcz199_2
      try clear hcz209_0
      try clear hcz209_1
      try clear hcz209_2
      try clear hcz217_0
      try clear hcz217_1
      try clear hcz217_2
      try clear hfz119_0
      try clear hfz119_1
      try clear hfz119_2
      try clear hfz129_0
      try clear hfz129_1
      try clear hfz129_2
      try clear hfz130_0
      try clear hfz130_1
      try clear hfz130_2
      try clear hfz141_0
      try clear hfz141_1
      try clear hfz141_2
      try clear hfz142_0
      try clear hfz142_1
      try clear hfz142_2
      try clear hfz144_0
      try clear hfz144_1
      try clear hfz144_2
      try clear hfz155_0
      try clear hfz155_1
      try clear hfz155_2
      try clear hfz163_0
      try clear hfz163_1
      try clear hfz163_2
      try clear hfz173_0
      try clear hfz173_1
      try clear hfz173_2
      try clear hfz181_0
      try clear hfz181_1
      try clear hfz181_2
      try clear hfz191_0
      try clear hfz191_1
      try clear hfz191_2
      try clear hfz199_0
      try clear hfz199_1
      try clear hfz199_2
      try clear hfz209_0
      try clear hfz209_1
      try clear hfz209_2
      try clear hfz217_0
      try clear hfz217_1
      try clear hfz217_2
      try clear p2
      obtain ⟨kq, x142_111, rfl, HA, HJ111, HO_21, BK409, BK416, BK427, BK436, BK437, BK442, BK447, BK456, BK461, HB⟩ := hcut
      cases kq with
      | zero => exact absurd HA.out (by simp [laws_FnLogs.j1])
      | succ kj111 =>
       have H := HA.out
       clear HA
       simp only [laws_FnLogs.j1] at H
       by_cases c220 : x142_111 = true
       ·subst c220
        have H1 : (some false) = some r := by rw [if_pos rfl] at H; exact H
        clear H
        have H := H1
        clear H1
        exact absurd (Option.some.inj H) (by rw [hr]; decide)
       ·replace c220 := Bool.eq_false_iff.mpr c220
        subst c220
        have H1 : ((impl_LogRecords.f kj111 t452 t453 t454).bind fun bt471 => (if t455 = true then ((laws_vRecords.f kj111 bt471.1 t462).bind fun t475 => (laws_FnLogs.j2 kj111 t441 t462 (!t475) t431 t432 t433 t434 t435 t438 t439 t440)) else (laws_FnLogs.j2 kj111 t441 t462 false t431 t432 t433 t434 t435 t438 t439 t440))) = some r := by rw [if_neg (show ¬ (false = true) by decide)] at H; exact H
        clear H
        have H := H1
        clear H1
        replace H := bem H
        obtain ⟨⟨t471, t474⟩, A2210, H⟩ := H
        replace H : (if t455 = true then ((laws_vRecords.f kj111 t471 t462).bind fun t475 => (laws_FnLogs.j2 kj111 t441 t462 (!t475) t431 t432 t433 t434 t435 t438 t439 t440)) else (laws_FnLogs.j2 kj111 t441 t462 false t431 t432 t433 t434 t435 t438 t439 t440)) = some r := H
        have A221 := am A2210
        clear A2210
        have HC222 := am H
        clear H
        have hnb223 := NB456_409.out
        have hnc223 := NB409_456.out
        have hnb224 := NB456_416.out
        have hnc224 := NB416_456.out
        have hnb225 := NB456_427.out
        have hnc225 := NB427_456.out
        have hnb226 := NB456_436.out
        have hnc226 := NB436_456.out
        have hnb227 := NB456_437.out
        have hnc227 := NB437_456.out
        have hnb228 := NB456_442.out
        have hnc228 := NB442_456.out
        have hnb229 := NB456_447.out
        have hnc229 := NB447_456.out
        have hnb230 := NB456_461.out
        have hnc230 := NB461_456.out
        have hcz231_0 : wc.cell? ⟨gb456, 0, none⟩ = some (.string t452) := (blk_cell BK456.out 0).trans rfl
        have hcz231_1 : wc.cell? ⟨gb456, 1, none⟩ = some (.string t453) := (blk_cell BK456.out 1).trans rfl
        have hcz231_2 : wc.cell? ⟨gb456, 2, none⟩ = some (.int .i64 t454) := (blk_cell BK456.out 2).trans rfl
        have hfz231_0 := blk_frozen BK456.out 0
        have hfz231_1 := blk_frozen BK456.out 1
        have hfz231_2 := blk_frozen BK456.out 2
        go_upto_region 20 with (first | ((with_reducible refine gate_callee (f := 41) rfl ?_); refine goesL_ (some 145) rfl rfl Tryd.func41 zq21 rfl #[.agg #[.string t452, .string t453, .int .i64 t454]] rfl zq5 ?_; (with_reducible refine (impl_LogRecords.calls kj111 t452 t453 t454 t471 t474 _ ?side1 A221.out).mono ?_); (case side1 => exact Glob.below HGL.out zq133); rintro e w232 ⟨v472, rfl, ho0, hb⟩; refine ⟨_, rfl, ?_⟩; have n0_ := am (Kd.R_elder' zq163 (Kd.R_base ho0) hb); have n1_ := am (Kd.R_lower (Kd.R_newB (Kd.R_newB (Kd.R_newB (Kd.R_new' ho0 (Kd.R_lt zq163)) (g := gb409) (o := .cells #[.string t407, .string t408] 38 (0, 0)) zq134) (g := gb416) (o := .cells #[.string t414, .string t415] 38 (0, 0)) zq135) (g := gb437) (o := .cells #[.string t434, .string t435] 38 (0, 0)) zq139) (below_size zq133)); have n2_ := am (blk_below (g := gb409) (o := .cells #[.string t407, .string t408] 38 (0, 0)) zq134 hb); have n3_ := am (blk_below (g := gb416) (o := .cells #[.string t414, .string t415] 38 (0, 0)) zq135 hb); have n4_ := am (blk_below (g := gb427) (o := .cells #[.string t424, .string t425, .int .i64 t426] 42 (0, 0)) zq137 hb); have n5_ := am (blk_below (g := gb436) (o := .cells #[.string t431, .string t432, .int .i64 t433] 42 (0, 0)) zq138 hb); have n6_ := am (blk_below (g := gb437) (o := .cells #[.string t434, .string t435] 38 (0, 0)) zq139 hb); have n7_ := am (blk_below (g := gb442) (o := .cells #[.string t438, .string t439, .int .i64 t440] 42 (0, 0)) zq140 hb); have n8_ := am (blk_below (g := gb447) (o := .cells #[.string t443, .string t444, .int .i64 t445] 42 (0, 0)) zq141 hb); have n9_ := am (blk_below (g := gb456) (o := .cells #[.string t452, .string t453, .int .i64 t454] 42 (0, 0)) zq147 hb); have n10_ := am (blk_below (g := gb461) (o := .cells #[.string t457, .string t458, .int .i64 t459] 42 (0, 0)) zq154 hb); have n11_ := am (below_step zq133 hb); clear HO_21; clear BK409; clear BK416; clear BK427; clear BK436; clear BK437; clear BK442; clear BK447; clear BK456; clear BK461; clear HB; have HO_21 := n0_; have HO473 := n1_; have BK409 := n2_; have BK416 := n3_; have BK427 := n4_; have BK436 := n5_; have BK437 := n6_; have BK442 := n7_; have BK447 := n8_; have BK456 := n9_; have BK461 := n10_; have HB := n11_; clear n0_ n1_ n2_ n3_ n4_ n5_ n6_ n7_ n8_ n9_ n10_ n11_; (try clear hb); (try clear hb2); (try clear hk); (try clear hi); (try clear ho0)))
        (try simp only [Act.put, List.setIfInBounds_toArray, List.set_cons_zero, List.set_cons_succ])
        go_cut [154] (fun v154 wc => ∃ (kq : Nat) (x154_221 : Bool), v154 = .bool x154_221 ∧ Aside0 (laws_FnLogs.j2 kq t441 t462 x154_221 t431 t432 t433 t434 t435 t438 t439 t440 = some r) ∧ Aside0 (kq ≤ kj111) ∧ Aside0 (Kd.R k38 38 wc w.heap.size (fun k_ => k_ ≠ gb409 ∧ k_ ≠ gb416 ∧ k_ ≠ gb437) v463 t462) ∧ Aside0 (wc.heap[gb409]? = some (.cells #[.string t407, .string t408] 38 (0, 0))) ∧ Aside0 (wc.heap[gb416]? = some (.cells #[.string t414, .string t415] 38 (0, 0))) ∧ Aside0 (wc.heap[gb427]? = some (.cells #[.string t424, .string t425, .int .i64 t426] 42 (0, 0))) ∧ Aside0 (wc.heap[gb436]? = some (.cells #[.string t431, .string t432, .int .i64 t433] 42 (0, 0))) ∧ Aside0 (wc.heap[gb437]? = some (.cells #[.string t434, .string t435] 38 (0, 0))) ∧ Aside0 (wc.heap[gb442]? = some (.cells #[.string t438, .string t439, .int .i64 t440] 42 (0, 0))) ∧ Aside0 (wc.heap[gb447]? = some (.cells #[.string t443, .string t444, .int .i64 t445] 42 (0, 0))) ∧ Aside0 (wc.heap[gb456]? = some (.cells #[.string t452, .string t453, .int .i64 t454] 42 (0, 0))) ∧ Aside0 (wc.heap[gb461]? = some (.cells #[.string t457, .string t458, .int .i64 t459] 42 (0, 0))) ∧ Aside0 (Below w.heap.size w wc))
        case first =>
         have H := HC222.out
         clear HC222
         by_cases c233 : t455 = true
         ·subst c233
          have H1 : ((laws_vRecords.f kj111 t471 t462).bind fun t475 => (laws_FnLogs.j2 kj111 t441 t462 (!t475) t431 t432 t433 t434 t435 t438 t439 t440)) = some r := by rw [if_pos rfl] at H; exact H
          clear H
          have H := H1
          clear H1
          replace H := bem H
          obtain ⟨t475, A2340, H⟩ := H
          replace H : (laws_FnLogs.j2 kj111 t441 t462 (!t475) t431 t432 t433 t434 t435 t438 t439 t440) = some r := H
          have A234 := am A2340
          clear A2340
          have H' := am H
          clear H
          obtain ⟨Ao235, co235, eo235⟩ := Kd.R_slice HO473.out
          subst eo235
          obtain ⟨Ao236, co236, eo236⟩ := Kd.R_slice HO_21.out
          subst eo236
          go_wp2_with (first | (go_at_call 52; (with_reducible refine (laws_vRecords.calls kj111 _ _ t471 _ _ t462 t475 _ ?side1 ?side2 ?side3 ?side4 A234.out).mono ?_); (case side1 => repeat (first | exact (Kd.R_reads' HO473.out).2.2 | (with_reducible refine Kd.C_alloc ?_ _) | (with_reducible refine Kd.C_drewN ?_ _) | (with_reducible refine Kd.C_drew ?_))); (case side2 => exact (Kd.R_reads' HO473.out).2.1); (case side3 => repeat (first | exact (Kd.R_reads' HO_21.out).2.2 | (with_reducible refine Kd.C_alloc ?_ _) | (with_reducible refine Kd.C_drewN ?_ _) | (with_reducible refine Kd.C_drew ?_))); (case side4 => exact (Kd.R_reads' HO_21.out).2.1); rintro e w' ⟨rfl, ⟨nd, rfl⟩⟩))
          go_meet
          case rel => exact ⟨_, (!t475), zq1, H', ⟨by have := HJ14.out; have := HJ111.out; first | omega | exact Nat.le_refl _⟩, ⟨zq178⟩, ⟨zq134⟩, ⟨zq135⟩, ⟨zq137⟩, ⟨zq138⟩, ⟨zq139⟩, ⟨zq140⟩, ⟨zq141⟩, ⟨zq147⟩, ⟨zq154⟩, ⟨zq133⟩⟩
         ·replace c233 := Bool.eq_false_iff.mpr c233
          subst c233
          have H1 : (laws_FnLogs.j2 kj111 t441 t462 false t431 t432 t433 t434 t435 t438 t439 t440) = some r := by rw [if_neg (show ¬ (false = true) by decide)] at H; exact H
          clear H
          have H := H1
          clear H1
          have H' := am H
          clear H
          go_wp2
          go_meet
          case rel => exact ⟨_, (false), zq1, H', ⟨by have := HJ14.out; have := HJ111.out; first | omega | exact Nat.le_refl _⟩, ⟨zq178⟩, ⟨zq134⟩, ⟨zq135⟩, ⟨zq137⟩, ⟨zq138⟩, ⟨zq139⟩, ⟨zq140⟩, ⟨zq141⟩, ⟨zq147⟩, ⟨zq154⟩, ⟨zq133⟩⟩
        case rest =>
         clear HC222
         try clear c1
         try clear c2
         try clear p2
         try clear c3
         try clear c4
         try clear c5
         try clear c7
         try clear c10
         try clear c11
         try clear c12
         try clear c13
         try clear c14
         try clear c15
         try clear c16
         try clear c17
         try clear c18
         try clear c19
         try clear c20
         try clear c21
         try clear c22
         try clear c23
         try clear c31
         try clear c33
         try clear c36
         try clear c37
         try clear c40
         try clear c41
         try clear c50
         try clear c51
         try clear c75
         try clear c75b0
         try clear c75b1
         try clear c107
         try clear c113
         try clear c114
         try clear c115
         try clear c116
         try clear c117
         try clear c118
         try clear c122
         try clear c123
         try clear c124
         try clear c125
         try clear c126
         try clear c127
         try clear c128
         try clear c133
         try clear c134
         try clear c135
         try clear c136
         try clear c137
         try clear c138
         try clear c139
         try clear c140
         try clear c146
         try clear c146b0
         try clear c147
         try clear c148
         try clear c149
         try clear c150
         try clear c151
         try clear c152
         try clear c153
         try clear c154
         try clear c156
         try clear c157
         try clear c158
         try clear c159
         try clear c160
         try clear c161
         try clear c162
         try clear c164
         try clear c164b0
         try clear c164b1
         try clear c164b2
         try clear c165
         try clear c166
         try clear c167
         try clear c168
         try clear c169
         try clear c170
         try clear c171
         try clear c172
         try clear c174
         try clear c175
         try clear c176
         try clear c177
         try clear c178
         try clear c179
         try clear c180
         try clear c182
         try clear c182b0
         try clear c182b1
         try clear c182b2
         try clear c183
         try clear c184
         try clear c185
         try clear c186
         try clear c187
         try clear c188
         try clear c189
         try clear c190
         try clear c192
         try clear c193
         try clear c194
         try clear c195
         try clear c196
         try clear c197
         try clear c198
         try clear c201
         try clear c202
         try clear c203
         try clear c204
         try clear c205
         try clear c206
         try clear c207
         try clear c208
         try clear c210
         try clear c211
         try clear c212
         try clear c213
         try clear c214
         try clear c215
         try clear c216
         try clear c220
         try clear c223
         try clear c224
         try clear c225
         try clear c226
         try clear c227
         try clear c228
         try clear c229
         try clear c230
         try clear c233
         try clear hcz119_0
         try clear hcz119_1
         try clear hcz119_2
         try clear hcz129_0
         try clear hcz129_1
         try clear hcz129_2
         try clear hcz130_0
         try clear hcz130_1
         try clear hcz130_2
         try clear hcz141_0
         try clear hcz141_1
         try clear hcz141_2
         try clear hcz142_0
         try clear hcz142_1
         try clear hcz142_2
         try clear hcz144_0
         try clear hcz144_1
         try clear hcz144_2
         try clear hcz155_0
         try clear hcz155_1
         try clear hcz155_2
         try clear hcz163_0
         try clear hcz163_1
         try clear hcz163_2
         try clear hcz173_0
         try clear hcz173_1
         try clear hcz173_2
         try clear hcz181_0
         try clear hcz181_1
         try clear hcz181_2
         try clear hcz191_0
         try clear hcz191_1
         try clear hcz191_2
         try clear hcz199_0
         try clear hcz199_1
         try clear hcz199_2
         try clear hcz209_0
         try clear hcz209_1
         try clear hcz209_2
         try clear hcz217_0
         try clear hcz217_1
         try clear hcz217_2
         try clear hcz231_0
         try clear hcz231_1
         try clear hcz231_2
         try clear hfz119_0
         try clear hfz119_1
         try clear hfz119_2
         try clear hfz129_0
         try clear hfz129_1
         try clear hfz129_2
         try clear hfz130_0
         try clear hfz130_1
         try clear hfz130_2
         try clear hfz141_0
         try clear hfz141_1
         try clear hfz141_2
         try clear hfz142_0
         try clear hfz142_1
         try clear hfz142_2
         try clear hfz144_0
         try clear hfz144_1
         try clear hfz144_2
         try clear hfz155_0
         try clear hfz155_1
         try clear hfz155_2
         try clear hfz163_0
         try clear hfz163_1
         try clear hfz163_2
         try clear hfz173_0
         try clear hfz173_1
         try clear hfz173_2
         try clear hfz181_0
         try clear hfz181_1
         try clear hfz181_2
         try clear hfz191_0
         try clear hfz191_1
         try clear hfz191_2
         try clear hfz199_0
         try clear hfz199_1
         try clear hfz199_2
         try clear hfz209_0
         try clear hfz209_1
         try clear hfz209_2
         try clear hfz217_0
         try clear hfz217_1
         try clear hfz217_2
         try clear hfz231_0
         try clear hfz231_1
         try clear hfz231_2
         try clear p2
         obtain ⟨kq, x154_221, rfl, HA, HJ221, HO_21, BK409, BK416, BK427, BK436, BK437, BK442, BK447, BK456, BK461, HB⟩ := hcut
         cases kq with
         | zero => exact absurd HA.out (by simp [laws_FnLogs.j2])
         | succ kj221 =>
          have H := HA.out
          clear HA
          simp only [laws_FnLogs.j2] at H
          by_cases c237 : x154_221 = true
          ·subst c237
           have H1 : (some false) = some r := by rw [if_pos rfl] at H; exact H
           clear H
           have H := H1
           clear H1
           exact absurd (Option.some.inj H) (by rw [hr]; decide)
          ·replace c237 := Bool.eq_false_iff.mpr c237
           subst c237
           have H1 : (if t441 = 0 then ((impl_LogRecords.f kj221 t438 t439 t440).bind fun bt476 => ((impl_IsValidLog.f kj221 t438 t439 t440).bind fun t480 => (if t480 = true then (if (bt476.1.length : Int) = (wrap64 ((t462.length : Int) + 1)) then (if 0 ≤ (t462.length : Int) then (if (t462.length : Int) ≤ (bt476.1.length : Int) then ((laws_vRecords.f kj221 (bt476.1.take ((t462.length : Int) : Int).toNat) t462).bind fun t485 => (if t485 = true then (if (t462.length : Int) < (bt476.1.length : Int) then (some ((((rd_T38 bt476.1 (t462.length : Int)).f0).toList) == t434.toList && ((((rd_T38 bt476.1 (t462.length : Int)).f1).toList) == t435.toList))) else (none)) else (some false))) else (none)) else (none)) else (some false)) else (some false)))) else (some (t438.toList == t431.toList && (t439.toList == t432.toList && (t440 == t433))))) = some r := by rw [if_neg (show ¬ (false = true) by decide)] at H; exact H
           clear H
           have H := H1
           clear H1
           by_cases c238 : t441 = 0
           ·rw [if_pos c238] at H
            have c238b0 : (t441 == 0) = true := beq_iff_eq.mpr c238
            have c238b1 : (t441 != 0) = false := bne_eq_false_iff_eq.mpr c238
            clear c238
            replace H := bem H
            obtain ⟨⟨t476, t479⟩, A2390, H⟩ := H
            replace H : ((impl_IsValidLog.f kj221 t438 t439 t440).bind fun t480 => (if t480 = true then (if (t476.length : Int) = (wrap64 ((t462.length : Int) + 1)) then (if 0 ≤ (t462.length : Int) then (if (t462.length : Int) ≤ (t476.length : Int) then ((laws_vRecords.f kj221 (t476.take ((t462.length : Int) : Int).toNat) t462).bind fun t485 => (if t485 = true then (if (t462.length : Int) < (t476.length : Int) then (some ((((rd_T38 t476 (t462.length : Int)).f0).toList) == t434.toList && ((((rd_T38 t476 (t462.length : Int)).f1).toList) == t435.toList))) else (none)) else (some false))) else (none)) else (none)) else (some false)) else (some false))) = some r := H
            have A239 := am A2390
            clear A2390
            replace H := bem H
            obtain ⟨t480, A2400, H⟩ := H
            replace H : (if t480 = true then (if (t476.length : Int) = (wrap64 ((t462.length : Int) + 1)) then (if 0 ≤ (t462.length : Int) then (if (t462.length : Int) ≤ (t476.length : Int) then ((laws_vRecords.f kj221 (t476.take ((t462.length : Int) : Int).toNat) t462).bind fun t485 => (if t485 = true then (if (t462.length : Int) < (t476.length : Int) then (some ((((rd_T38 t476 (t462.length : Int)).f0).toList) == t434.toList && ((((rd_T38 t476 (t462.length : Int)).f1).toList) == t435.toList))) else (none)) else (some false))) else (none)) else (none)) else (some false)) else (some false)) = some r := H
            have A240 := am A2400
            clear A2400
            by_cases c241 : t480 = true
            ·subst c241
             have H1 : (if (t476.length : Int) = (wrap64 ((t462.length : Int) + 1)) then (if 0 ≤ (t462.length : Int) then (if (t462.length : Int) ≤ (t476.length : Int) then ((laws_vRecords.f kj221 (t476.take ((t462.length : Int) : Int).toNat) t462).bind fun t485 => (if t485 = true then (if (t462.length : Int) < (t476.length : Int) then (some ((((rd_T38 t476 (t462.length : Int)).f0).toList) == t434.toList && ((((rd_T38 t476 (t462.length : Int)).f1).toList) == t435.toList))) else (none)) else (some false))) else (none)) else (none)) else (some false)) = some r := by rw [if_pos rfl] at H; exact H
             clear H
             have H := H1
             clear H1
             by_cases c242 : (t476.length : Int) = (wrap64 ((t462.length : Int) + 1))
             ·rw [if_pos c242] at H
              have c242b0 : ((t476.length : Int) == (wrap64 ((t462.length : Int) + 1))) = true := beq_iff_eq.mpr c242
              have c242b1 : ((t476.length : Int) != (wrap64 ((t462.length : Int) + 1))) = false := bne_eq_false_iff_eq.mpr c242
              clear c242
              by_cases c243 : 0 ≤ (t462.length : Int)
              ·rw [if_pos c243] at H
               have c243b0 := eq_true c243
               have c243b1 : decide (0 ≤ (t462.length : Int)) = true := decide_eq_true c243
               clear c243
               by_cases c244 : (t462.length : Int) ≤ (t476.length : Int)
               ·rw [if_pos c244] at H
                have c244b0 := eq_true c244
                have c244b1 : decide ((t462.length : Int) ≤ (t476.length : Int)) = true := decide_eq_true c244
                clear c244
                obtain ⟨y481, hy481⟩ : ∃ y_ : List (S38), y_ = (t476.take ((t462.length : Int) : Int).toNat) := ⟨_, rfl⟩
                replace H : ((laws_vRecords.f kj221 y481 t462).bind fun t485 => (if t485 = true then (if (t462.length : Int) < (t476.length : Int) then (some ((((rd_T38 t476 (t462.length : Int)).f0).toList) == t434.toList && ((((rd_T38 t476 (t462.length : Int)).f1).toList) == t435.toList))) else (none)) else (some false))) = some r := by first | (rw [hy481]; with_reducible exact H) | (have H2_ := (Option.bind_some _ _).symm.trans H; rw [hy481]; with_reducible exact H2_) | (have H2_ := (Option.bind_some _ _).symm.trans H; with_reducible exact H2_) | with_reducible exact H | (rw [hy481]; exact H) | exact H
                have Ny481 := am hy481
                clear hy481
                replace H := bem H
                obtain ⟨t485, A2450, H⟩ := H
                replace H : (if t485 = true then (if (t462.length : Int) < (t476.length : Int) then (some ((((rd_T38 t476 (t462.length : Int)).f0).toList) == t434.toList && ((((rd_T38 t476 (t462.length : Int)).f1).toList) == t435.toList))) else (none)) else (some false)) = some r := H
                have A245 := am A2450
                clear A2450
                by_cases c246 : t485 = true
                ·subst c246
                 have H1 : (if (t462.length : Int) < (t476.length : Int) then (some ((((rd_T38 t476 (t462.length : Int)).f0).toList) == t434.toList && ((((rd_T38 t476 (t462.length : Int)).f1).toList) == t435.toList))) else (none)) = some r := by rw [if_pos rfl] at H; exact H
                 clear H
                 have H := H1
                 clear H1
                 by_cases c247 : (t462.length : Int) < (t476.length : Int)
                 ·rw [if_pos c247] at H
                  have c247b0 : decide ((t462.length : Int) < (t476.length : Int)) = true := decide_eq_true c247
                  have c247b1 : decide (t462.length < t476.length) = true := decide_eq_true (Int.ofNat_lt.mp c247)
                  clear c247
                  obtain rfl := Option.some.inj H; clear hr
                  have hnb248 := NB442_409.out
                  have hnc248 := NB409_442.out
                  have hnb249 := NB442_416.out
                  have hnc249 := NB416_442.out
                  have hnb250 := NB442_427.out
                  have hnc250 := NB427_442.out
                  have hnb251 := NB442_436.out
                  have hnc251 := NB436_442.out
                  have hnb252 := NB442_437.out
                  have hnc252 := NB437_442.out
                  have hnb253 := NB442_447.out
                  have hnc253 := NB447_442.out
                  have hnb254 := NB442_456.out
                  have hnc254 := NB456_442.out
                  have hnb255 := NB442_461.out
                  have hnc255 := NB461_442.out
                  have hcz256_0 : wc.cell? ⟨gb442, 0, none⟩ = some (.string t438) := (blk_cell BK442.out 0).trans rfl
                  have hcz256_1 : wc.cell? ⟨gb442, 1, none⟩ = some (.string t439) := (blk_cell BK442.out 1).trans rfl
                  have hcz256_2 : wc.cell? ⟨gb442, 2, none⟩ = some (.int .i64 t440) := (blk_cell BK442.out 2).trans rfl
                  have hfz256_0 := blk_frozen BK442.out 0
                  have hfz256_1 := blk_frozen BK442.out 1
                  have hfz256_2 := blk_frozen BK442.out 2
                  try go_wp2_with (first | ((with_reducible refine gate_callee (f := 41) rfl ?_); refine goesL_ (some 162) rfl rfl Tryd.func41 zq21 rfl #[.agg #[.string t438, .string t439, .int .i64 t440]] rfl zq5 ?_; (with_reducible refine (impl_LogRecords.calls kj221 t438 t439 t440 t476 t479 _ ?side1 A239.out).mono ?_); (case side1 => exact Glob.below HGL.out zq133); rintro e w257 ⟨v477, rfl, ho0, hb⟩; refine ⟨_, rfl, ?_⟩; have n0_ := am (Kd.R_elder' zq163 (Kd.R_base ho0) hb); have n1_ := am (Kd.R_lower (Kd.R_newB (Kd.R_newB (Kd.R_newB (Kd.R_new' ho0 (Kd.R_lt zq163)) (g := gb409) (o := .cells #[.string t407, .string t408] 38 (0, 0)) zq134) (g := gb416) (o := .cells #[.string t414, .string t415] 38 (0, 0)) zq135) (g := gb437) (o := .cells #[.string t434, .string t435] 38 (0, 0)) zq139) (below_size zq133)); have n2_ := am (blk_below (g := gb409) (o := .cells #[.string t407, .string t408] 38 (0, 0)) zq134 hb); have n3_ := am (blk_below (g := gb416) (o := .cells #[.string t414, .string t415] 38 (0, 0)) zq135 hb); have n4_ := am (blk_below (g := gb427) (o := .cells #[.string t424, .string t425, .int .i64 t426] 42 (0, 0)) zq137 hb); have n5_ := am (blk_below (g := gb436) (o := .cells #[.string t431, .string t432, .int .i64 t433] 42 (0, 0)) zq138 hb); have n6_ := am (blk_below (g := gb437) (o := .cells #[.string t434, .string t435] 38 (0, 0)) zq139 hb); have n7_ := am (blk_below (g := gb442) (o := .cells #[.string t438, .string t439, .int .i64 t440] 42 (0, 0)) zq140 hb); have n8_ := am (blk_below (g := gb447) (o := .cells #[.string t443, .string t444, .int .i64 t445] 42 (0, 0)) zq141 hb); have n9_ := am (blk_below (g := gb456) (o := .cells #[.string t452, .string t453, .int .i64 t454] 42 (0, 0)) zq147 hb); have n10_ := am (blk_below (g := gb461) (o := .cells #[.string t457, .string t458, .int .i64 t459] 42 (0, 0)) zq154 hb); have n11_ := am (below_step zq133 hb); clear HO_21; clear BK409; clear BK416; clear BK427; clear BK436; clear BK437; clear BK442; clear BK447; clear BK456; clear BK461; clear HB; have HO_21 := n0_; have HO478 := n1_; have BK409 := n2_; have BK416 := n3_; have BK427 := n4_; have BK436 := n5_; have BK437 := n6_; have BK442 := n7_; have BK447 := n8_; have BK456 := n9_; have BK461 := n10_; have HB := n11_; clear n0_ n1_ n2_ n3_ n4_ n5_ n6_ n7_ n8_ n9_ n10_ n11_; (try clear hb); (try clear hb2); (try clear hk); (try clear hi); (try clear ho0)))
                  have n0_ := am (Kd.R_drew HO_21.out)
                  have n1_ := am (Kd.R_drew HO478.out)
                  have n2_ := am (blk_drew BK409.out)
                  have n3_ := am (blk_drew BK416.out)
                  have n4_ := am (blk_drew BK427.out)
                  have n5_ := am (blk_drew BK436.out)
                  have n6_ := am (blk_drew BK437.out)
                  have n7_ := am (blk_drew BK442.out)
                  have n8_ := am (blk_drew BK447.out)
                  have n9_ := am (blk_drew BK456.out)
                  have n10_ := am (blk_drew BK461.out)
                  have n11_ := am (below_drew1 HB.out)
                  clear HO_21
                  clear HO478
                  clear BK409
                  clear BK416
                  clear BK427
                  clear BK436
                  clear BK437
                  clear BK442
                  clear BK447
                  clear BK456
                  clear BK461
                  clear HB
                  have HO_21 := n0_
                  have HO478 := n1_
                  have BK409 := n2_
                  have BK416 := n3_
                  have BK427 := n4_
                  have BK436 := n5_
                  have BK437 := n6_
                  have BK442 := n7_
                  have BK447 := n8_
                  have BK456 := n9_
                  have BK461 := n10_
                  have HB := n11_
                  clear n0_ n1_ n2_ n3_ n4_ n5_ n6_ n7_ n8_ n9_ n10_ n11_
                  have p486 : 0 ≤ ((t462.length : Int) : Int) := of_decide_eq_true zq3
                  have q486 : (t462.length : Int) < (t476.length : Int) := of_decide_eq_true zq3
                  (try (obtain ⟨Af_, cf_, ef_⟩ := Kd.R_slice HO478.out; subst ef_))
                  obtain ⟨ad486, e486, hx486_0, hx486_1⟩ := at_T38 (Kd.R_reads' HO478.out).2.2 (t462.length : Int) p486 q486
                  cases e486
                  (try simp only [Go.IntWalk.toNatUp] at hx486_0); (try simp only [Int.toNat_natCast] at hx486_0)
                  (try simp only [Go.IntWalk.toNatUp] at hx486_1); (try simp only [Int.toNat_natCast] at hx486_1)
                  replace p486 := eq_true p486
                  replace q486 := eq_true q486
                  refine start_ (n := 28) (S := fun w' => w'.cell? ⟨gb442, 0, none⟩ = some (.string t438) ∧ w'.cell? ⟨gb442, 1, none⟩ = some (.string t439) ∧ w'.cell? ⟨gb442, 2, none⟩ = some (.int .i64 t440) ∧ w'.cell? ⟨gb437, 0, none⟩ = some (.string t434) ∧ w'.cell? ⟨gb437, 1, none⟩ = some (.string t435) ∧ w'.cell? (ad486.add (t462.length * 2)) = some (.string ((rd_T38 t476 (t462.length : Int)).f0)) ∧ w'.cell? ⟨(ad486.add (t462.length * 2)).block, (ad486.add (t462.length * 2)).off + 1, none⟩ = some (.string ((rd_T38 t476 (t462.length : Int)).f1))) (ds := []) #[false, false, false, false, false, false, false, false, false, false, false, false, false, false, false, false, false, false, false, false, false, false, false, false, false, false, false, false] zq21 rfl rfl ⟨(blk_cell BK442.out 0).trans rfl, (blk_cell BK442.out 1).trans rfl, (blk_cell BK442.out 2).trans rfl, (blk_cell BK437.out 0).trans rfl, (blk_cell BK437.out 1).trans rfl, hx486_0, hx486_1⟩ (fun hHeld => ?_); refine with_tabW laws_FnLogs.tab25 laws_FnLogs.bits25 (fun HT_ HW_ => ?_)
                  generalize w257.drew = w258 at HO_21 HO478 BK409 BK416 BK427 BK436 BK437 BK442 BK447 BK456 BK461 HB hx486_0 hx486_1 hHeld ⊢
                  refine take_ (i := 0) (N := some 165) (v := ?_) (a' := ?_) #[true, false, false, false, false, false, false, false, false, false, false, false, false, false, false, false, false, false, false, false, false, false, false, false, false, false, false, false] rfl rfl (take_ofW HT_.out HW_.out zq21) (fun _ _ _ h => h) (Or.inl ⟨by rfl, ?_⟩) hHeld ?_ ?_
                  rotate_left
                  ·rintro w' ⟨s0, s1, s2, s3, s4, s5, s6⟩
                   go_simp
                   with_reducible rfl
                  rotate_left
                  ·simp only [Act.put, List.setIfInBounds_toArray, List.set_cons_zero, List.set_cons_succ, i64_w, i32_w]
                   rfl
                  refine one_ (i := 1) (N := some 166) #[true, true, false, false, false, false, false, false, false, false, false, false, false, false, false, false, false, false, false, false, false, false, false, false, false, false, false, false] rfl rfl (one_of HT_.out zq21) zq173 (fun K hK => ?_)
                  refine goes_ Tryd.func33 zq21 rfl #[.agg #[.string t438, .string t439, .int .i64 t440]] (by rfl) rfl rfl zq5 ?_
                  with_reducible refine (impl_IsValidLog.calls kj221 t438 t439 t440 true _ ?side1 A240.out).mono ?_
                  (case side1 => exact Glob.below HGL.out zq133)
                  rintro e w259 ⟨rfl, hb⟩
                  have HS5_ := (hb.cell (World.block_lt_of_cell? _ _ (hHeld.2.2.2.2.2.1))).trans (hHeld.2.2.2.2.2.1)
                  have HS6_ := (hb.cell (World.block_lt_of_cell? _ _ (hHeld.2.2.2.2.2.2))).trans (hHeld.2.2.2.2.2.2)
                  refine ⟨_, rfl, ?_⟩
                  have n0_ := am (Kd.R_below zq163 hb)
                  have n1_ := am (Kd.R_below (by (with_reducible repeat (first | apply Kd.R_alloc | apply Kd.R_drewN | apply Kd.R_drew)); exact HO478.out) hb)
                  have n2_ := am (blk_below (g := gb409) (o := .cells #[.string t407, .string t408] 38 (0, 0)) zq134 hb)
                  have n3_ := am (blk_below (g := gb416) (o := .cells #[.string t414, .string t415] 38 (0, 0)) zq135 hb)
                  have n4_ := am (blk_below (g := gb427) (o := .cells #[.string t424, .string t425, .int .i64 t426] 42 (0, 0)) zq137 hb)
                  have n5_ := am (blk_below (g := gb436) (o := .cells #[.string t431, .string t432, .int .i64 t433] 42 (0, 0)) zq138 hb)
                  have n6_ := am (blk_below (g := gb437) (o := .cells #[.string t434, .string t435] 38 (0, 0)) zq139 hb)
                  have n7_ := am (blk_below (g := gb442) (o := .cells #[.string t438, .string t439, .int .i64 t440] 42 (0, 0)) zq140 hb)
                  have n8_ := am (blk_below (g := gb447) (o := .cells #[.string t443, .string t444, .int .i64 t445] 42 (0, 0)) zq141 hb)
                  have n9_ := am (blk_below (g := gb456) (o := .cells #[.string t452, .string t453, .int .i64 t454] 42 (0, 0)) zq147 hb)
                  have n10_ := am (blk_below (g := gb461) (o := .cells #[.string t457, .string t458, .int .i64 t459] 42 (0, 0)) zq154 hb)
                  have n11_ := am (below_step zq133 hb)
                  clear HO_21
                  clear HO478
                  clear BK409
                  clear BK416
                  clear BK427
                  clear BK436
                  clear BK437
                  clear BK442
                  clear BK447
                  clear BK456
                  clear BK461
                  clear HB
                  have HO_21 := n0_
                  have HO478 := n1_
                  have BK409 := n2_
                  have BK416 := n3_
                  have BK427 := n4_
                  have BK436 := n5_
                  have BK437 := n6_
                  have BK442 := n7_
                  have BK447 := n8_
                  have BK456 := n9_
                  have BK461 := n10_
                  have HB := n11_
                  clear n0_ n1_ n2_ n3_ n4_ n5_ n6_ n7_ n8_ n9_ n10_ n11_
                  (try clear hb)
                  (try clear hb2)
                  (try clear hk)
                  (try clear hi)
                  obtain ⟨Ao261, co261, eo261⟩ := Kd.R_slice HO_21.out
                  (first | subst eo261 | (injection eo261 with f1_ f2_ f3_; have f4_ := f1_.symm; have f5_ := f3_.symm; clear f1_ f2_ f3_; subst f4_; subst f5_))
                  have q262 : ((t462.length : Int) : Int) ≤ ((t476.length : Int) : Int) := of_decide_eq_true zq3
                  obtain ⟨i0262, hi0262, _, hsz262, _⟩ := info_parts info38
                  have hroom262 : t476.length ≤ cf_ := (Kd.R_reads' HO478.out).2.1
                  have hC262 : Kd.C k38 _ (some ad486) t476.length t476 := (Kd.R_reads' HO478.out).2.2
                  have hcut262 := cut_to (P := Tryd.prog) 59 38 .i64 Tryd.underlying59 hi0262 (some ad486) t476.length cf_ (t462.length : Int) (of_decide_eq_true zq3) q262 hroom262
                  have hr262 := Kd.C_take (m := ((t462.length : Int) : Int).toNat) hC262 (by omega)
                  have hy262 : y481.length = ((t462.length : Int) : Int).toNat := (by rw [Ny481.out, List.length_take]; omega)
                  rw [← Ny481.out] at hr262
                  rw [← hy262] at hcut262
                  have HR484 := am hr262
                  have HC484 := am (show y481.length ≤ cf_ from by omega)
                  clear hr262 hC262 hroom262 hi0262 hsz262
                  have KY262 := am hy262
                  clear hy262
                  have KL262 := am (show ((t462.length : Int) : Int).toNat ≤ t476.length from by omega)
                  replace q262 := eq_true q262
                  refine hK.out _ _ ⟨(blk_cell BK442.out 0).trans rfl, (blk_cell BK442.out 1).trans rfl, (blk_cell BK442.out 2).trans rfl, (blk_cell BK437.out 0).trans rfl, (blk_cell BK437.out 1).trans rfl, HS5_, HS6_⟩ (fun hHeld => ?_)
                  clear hK K
                  refine norm_ (a' := ?_) ?_ ?_
                  rotate_left
                  ·show Act.put _ (some 166) _ = _
                   simp only [Act.put, List.setIfInBounds_toArray, List.set_cons_zero, List.set_cons_succ, i64_w, i32_w]
                   rfl
                  refine pure_ (i := 2) (N := some 167) (v := ?_) (a' := ?_) #[true, true, true, false, false, false, false, false, false, false, false, false, false, false, false, false, false, false, false, false, false, false, false, false, false, false, false, false] rfl rfl (any_of HT_.out zq21) (fun _ _ _ h => h) (Or.inl ⟨by rfl, ?_⟩) ?_ ?_
                  rotate_left
                  ·intro w'
                   go_simp
                   with_reducible rfl
                  rotate_left
                  ·simp only [Act.put, List.setIfInBounds_toArray, List.set_cons_zero, List.set_cons_succ, i64_w, i32_w]
                   rfl
                  refine pure_ (i := 3) (N := some 168) (v := ?_) (a' := ?_) #[true, true, true, true, false, false, false, false, false, false, false, false, false, false, false, false, false, false, false, false, false, false, false, false, false, false, false, false] rfl rfl (any_of HT_.out zq21) (fun _ _ _ h => h) (Or.inl ⟨by rfl, ?_⟩) ?_ ?_
                  rotate_left
                  ·intro w'
                   go_simp
                   with_reducible rfl
                  rotate_left
                  ·simp only [Act.put, List.setIfInBounds_toArray, List.set_cons_zero, List.set_cons_succ, i64_w, i32_w]
                   rfl
                  refine pure_ (i := 4) (N := some 169) (v := ?_) (a' := ?_) #[true, true, true, true, true, false, false, false, false, false, false, false, false, false, false, false, false, false, false, false, false, false, false, false, false, false, false, false] rfl rfl (any_of HT_.out zq21) (fun _ _ _ h => h) (Or.inl ⟨by rfl, ?_⟩) ?_ ?_
                  rotate_left
                  ·intro w'
                   go_simp
                   with_reducible rfl
                  rotate_left
                  ·simp only [Act.put, List.setIfInBounds_toArray, List.set_cons_zero, List.set_cons_succ, i64_w, i32_w]
                   rfl
                  refine pure_ (i := 5) (N := some 170) (v := ?_) (a' := ?_) #[true, true, true, true, true, true, false, false, false, false, false, false, false, false, false, false, false, false, false, false, false, false, false, false, false, false, false, false] rfl rfl (any_of HT_.out zq21) (fun _ _ _ h => h) (Or.inl ⟨by rfl, ?_⟩) ?_ ?_
                  rotate_left
                  ·intro w'
                   go_simp
                   with_reducible rfl
                  rotate_left
                  ·simp only [Act.put, List.setIfInBounds_toArray, List.set_cons_zero, List.set_cons_succ, i64_w, i32_w]
                   rfl
                  refine pure_ (i := 6) (N := some 171) (v := ?_) (a' := ?_) #[true, true, true, true, true, true, true, false, false, false, false, false, false, false, false, false, false, false, false, false, false, false, false, false, false, false, false, false] rfl rfl (any_of HT_.out zq21) (fun _ _ _ h => h) (Or.inl ⟨by rfl, ?_⟩) ?_ ?_
                  rotate_left
                  ·intro w'
                   go_simp
                   with_reducible rfl
                  rotate_left
                  ·simp only [Act.put, List.setIfInBounds_toArray, List.set_cons_zero, List.set_cons_succ, i64_w, i32_w]
                   rfl
                  refine pure_ (i := 7) (N := some 172) (v := ?_) (a' := ?_) #[true, true, true, true, true, true, true, true, false, false, false, false, false, false, false, false, false, false, false, false, false, false, false, false, false, false, false, false] rfl rfl (any_of HT_.out zq21) (fun _ _ _ h => h) (Or.inl ⟨by rfl, ?_⟩) ?_ ?_
                  rotate_left
                  ·intro w'
                   go_simp
                   with_reducible rfl
                  rotate_left
                  ·simp only [Act.put, List.setIfInBounds_toArray, List.set_cons_zero, List.set_cons_succ, i64_w, i32_w]
                   rfl
                  refine pure_ (i := 8) (N := some 173) (v := ?_) (a' := ?_) #[true, true, true, true, true, true, true, true, true, false, false, false, false, false, false, false, false, false, false, false, false, false, false, false, false, false, false, false] rfl rfl (any_of HT_.out zq21) (fun _ _ _ h => h) (Or.inl ⟨by rfl, ?_⟩) ?_ ?_
                  rotate_left
                  ·intro w'
                   go_simp
                   with_reducible rfl
                  rotate_left
                  ·simp only [Act.put, List.setIfInBounds_toArray, List.set_cons_zero, List.set_cons_succ, i64_w, i32_w]
                   rfl
                  refine pure_ (i := 9) (N := some 174) (v := ?_) (a' := ?_) #[true, true, true, true, true, true, true, true, true, true, false, false, false, false, false, false, false, false, false, false, false, false, false, false, false, false, false, false] rfl rfl (any_of HT_.out zq21) (fun _ _ _ h => h) (Or.inl ⟨by rfl, ?_⟩) ?_ ?_
                  rotate_left
                  ·intro w'
                   go_simp
                   with_reducible rfl
                  rotate_left
                  ·simp only [Act.put, List.setIfInBounds_toArray, List.set_cons_zero, List.set_cons_succ, i64_w, i32_w]
                   rfl
                  refine pure_ (i := 10) (N := some 175) (v := ?_) (a' := ?_) #[true, true, true, true, true, true, true, true, true, true, true, false, false, false, false, false, false, false, false, false, false, false, false, false, false, false, false, false] rfl rfl (any_of HT_.out zq21) (fun _ _ _ h => h) (Or.inl ⟨by rfl, ?_⟩) ?_ ?_
                  rotate_left
                  ·intro w'
                   go_simp
                   with_reducible rfl
                  rotate_left
                  ·simp only [Act.put, List.setIfInBounds_toArray, List.set_cons_zero, List.set_cons_succ, i64_w, i32_w]
                   rfl
                  refine pure_ (i := 11) (N := some 176) (v := ?_) (a' := ?_) #[true, true, true, true, true, true, true, true, true, true, true, true, false, false, false, false, false, false, false, false, false, false, false, false, false, false, false, false] rfl rfl (any_of HT_.out zq21) (fun _ _ _ h => h) (Or.inl ⟨by rfl, ?_⟩) ?_ ?_
                  rotate_left
                  ·intro w'
                   go_simp
                   with_reducible rfl
                  rotate_left
                  ·simp only [Act.put, List.setIfInBounds_toArray, List.set_cons_zero, List.set_cons_succ, i64_w, i32_w]
                   rfl
                  refine pure_ (i := 12) (N := some 177) (v := ?_) (a' := ?_) #[true, true, true, true, true, true, true, true, true, true, true, true, true, false, false, false, false, false, false, false, false, false, false, false, false, false, false, false] rfl rfl (any_of HT_.out zq21) (fun _ _ _ h => h) (Or.inl ⟨by rfl, ?_⟩) ?_ ?_
                  rotate_left
                  ·intro w'
                   go_simp
                   with_reducible rfl
                  rotate_left
                  ·simp only [Act.put, List.setIfInBounds_toArray, List.set_cons_zero, List.set_cons_succ, i64_w, i32_w]
                   rfl
                  refine pure_ (i := 13) (N := some 178) (v := ?_) (a' := ?_) #[true, true, true, true, true, true, true, true, true, true, true, true, true, true, false, false, false, false, false, false, false, false, false, false, false, false, false, false] rfl rfl (any_of HT_.out zq21) (fun _ _ _ h => h) (Or.inl ⟨by rfl, ?_⟩) ?_ ?_
                  rotate_left
                  ·intro w'
                   go_simp
                   with_reducible rfl
                  rotate_left
                  ·simp only [Act.put, List.setIfInBounds_toArray, List.set_cons_zero, List.set_cons_succ, i64_w, i32_w]
                   rfl
                  refine pure_ (i := 14) (N := some 179) (v := ?_) (a' := ?_) #[true, true, true, true, true, true, true, true, true, true, true, true, true, true, true, false, false, false, false, false, false, false, false, false, false, false, false, false] rfl rfl (any_of HT_.out zq21) (fun _ _ _ h => h) (Or.inl ⟨by rfl, ?_⟩) ?_ ?_
                  rotate_left
                  ·intro w'
                   go_simp
                   with_reducible rfl
                  rotate_left
                  ·simp only [Act.put, List.setIfInBounds_toArray, List.set_cons_zero, List.set_cons_succ, i64_w, i32_w]
                   rfl
                  refine pure_ (i := 15) (N := some 180) (v := ?_) (a' := ?_) #[true, true, true, true, true, true, true, true, true, true, true, true, true, true, true, true, false, false, false, false, false, false, false, false, false, false, false, false] rfl rfl (any_of HT_.out zq21) (fun _ _ _ h => h) (Or.inl ⟨by rfl, ?_⟩) ?_ ?_
                  rotate_left
                  ·intro w'
                   go_simp
                   with_reducible rfl
                  rotate_left
                  ·simp only [Act.put, List.setIfInBounds_toArray, List.set_cons_zero, List.set_cons_succ, i64_w, i32_w]
                   rfl
                  refine one_ (i := 16) (N := some 181) #[true, true, true, true, true, true, true, true, true, true, true, true, true, true, true, true, true, false, false, false, false, false, false, false, false, false, false, false] rfl rfl (one_of HT_.out zq21) zq173 (fun K hK => ?_)
                  refine goes_ Tryd.func52 zq21 rfl #[.slice (some ad486) y481.length cf_, .slice Ao261 t462.length co261] (by rfl) rfl rfl zq5 ?_
                  with_reducible refine (laws_vRecords.calls kj221 _ _ y481 _ _ t462 true _ ?side1 ?side2 ?side3 ?side4 A245.out).mono ?_
                  (case side1 => repeat (first | exact (by repeat (first | (with_reducible exact HR484.out) | (with_reducible refine Kd.C_alloc ?_ _) | (with_reducible refine Kd.C_drewN ?_ _) | (with_reducible refine Kd.C_drew ?_) | exact HR484.out)) | (with_reducible refine Kd.C_alloc ?_ _) | (with_reducible refine Kd.C_drewN ?_ _) | (with_reducible refine Kd.C_drew ?_)))
                  (case side2 => exact HC484.out)
                  (case side3 => repeat (first | exact (Kd.R_reads' HO_21.out).2.2 | (with_reducible refine Kd.C_alloc ?_ _) | (with_reducible refine Kd.C_drewN ?_ _) | (with_reducible refine Kd.C_drew ?_)))
                  (case side4 => exact (Kd.R_reads' HO_21.out).2.1)
                  rintro e w' ⟨rfl, ⟨nd, rfl⟩⟩
                  refine ⟨_, rfl, ?_⟩
                  refine hK.out _ _ ⟨(blk_cell BK442.out 0).trans rfl, (blk_cell BK442.out 1).trans rfl, (blk_cell BK442.out 2).trans rfl, (blk_cell BK437.out 0).trans rfl, (blk_cell BK437.out 1).trans rfl, hHeld.2.2.2.2.2.1, hHeld.2.2.2.2.2.2⟩ (fun hHeld => ?_)
                  clear hK K
                  refine norm_ (a' := ?_) ?_ ?_
                  rotate_left
                  ·show Act.put _ (some 181) _ = _
                   simp only [Act.put, List.setIfInBounds_toArray, List.set_cons_zero, List.set_cons_succ, i64_w, i32_w]
                   rfl
                  refine pure_ (i := 17) (N := some 182) (v := ?_) (a' := ?_) #[true, true, true, true, true, true, true, true, true, true, true, true, true, true, true, true, true, true, false, false, false, false, false, false, false, false, false, false] rfl rfl (any_of HT_.out zq21) (fun _ _ _ h => h) (Or.inl ⟨by rfl, ?_⟩) ?_ ?_
                  rotate_left
                  ·intro w'
                   go_simp
                   with_reducible rfl
                  rotate_left
                  ·simp only [Act.put, List.setIfInBounds_toArray, List.set_cons_zero, List.set_cons_succ, i64_w, i32_w]
                   rfl
                  refine pure_ (i := 18) (N := some 183) (v := ?_) (a' := ?_) #[true, true, true, true, true, true, true, true, true, true, true, true, true, true, true, true, true, true, true, false, false, false, false, false, false, false, false, false] rfl rfl (any_of HT_.out zq21) (fun _ _ _ h => h) (Or.inl ⟨by rfl, ?_⟩) ?_ ?_
                  rotate_left
                  ·intro w'
                   go_simp
                   with_reducible rfl
                  rotate_left
                  ·simp only [Act.put, List.setIfInBounds_toArray, List.set_cons_zero, List.set_cons_succ, i64_w, i32_w]
                   rfl
                  refine pure_ (i := 19) (N := some 184) (v := ?_) (a' := ?_) #[true, true, true, true, true, true, true, true, true, true, true, true, true, true, true, true, true, true, true, true, false, false, false, false, false, false, false, false] rfl rfl (any_of HT_.out zq21) (fun _ _ _ h => h) (Or.inl ⟨by rfl, ?_⟩) ?_ ?_
                  rotate_left
                  ·intro w'
                   go_simp
                   with_reducible rfl
                  rotate_left
                  ·simp only [Act.put, List.setIfInBounds_toArray, List.set_cons_zero, List.set_cons_succ, i64_w, i32_w]
                   rfl
                  refine pure_ (i := 20) (N := some 185) (v := ?_) (a' := ?_) #[true, true, true, true, true, true, true, true, true, true, true, true, true, true, true, true, true, true, true, true, true, false, false, false, false, false, false, false] rfl rfl (any_of HT_.out zq21) (fun _ _ _ h => h) (Or.inl ⟨by rfl, ?_⟩) ?_ ?_
                  rotate_left
                  ·intro w'
                   go_simp
                   with_reducible rfl
                  rotate_left
                  ·simp only [Act.put, List.setIfInBounds_toArray, List.set_cons_zero, List.set_cons_succ, i64_w, i32_w]
                   rfl
                  refine pure_ (i := 21) (N := some 186) (v := ?_) (a' := ?_) #[true, true, true, true, true, true, true, true, true, true, true, true, true, true, true, true, true, true, true, true, true, true, false, false, false, false, false, false] rfl rfl (any_of HT_.out zq21) (fun _ _ _ h => h) (Or.inl ⟨by rfl, ?_⟩) ?_ ?_
                  rotate_left
                  ·intro w'
                   go_simp
                   with_reducible rfl
                  rotate_left
                  ·simp only [Act.put, List.setIfInBounds_toArray, List.set_cons_zero, List.set_cons_succ, i64_w, i32_w]
                   rfl
                  refine pure_ (i := 22) (N := some 187) (v := ?_) (a' := ?_) #[true, true, true, true, true, true, true, true, true, true, true, true, true, true, true, true, true, true, true, true, true, true, true, false, false, false, false, false] rfl rfl (any_of HT_.out zq21) (fun _ _ _ h => h) (Or.inl ⟨by rfl, ?_⟩) ?_ ?_
                  rotate_left
                  ·intro w'
                   go_simp
                   with_reducible rfl
                  rotate_left
                  ·simp only [Act.put, List.setIfInBounds_toArray, List.set_cons_zero, List.set_cons_succ, i64_w, i32_w]
                   rfl
                  refine take_ (i := 23) (N := some 188) (v := ?_) (a' := ?_) #[true, true, true, true, true, true, true, true, true, true, true, true, true, true, true, true, true, true, true, true, true, true, true, true, false, false, false, false] rfl rfl (take_ofW HT_.out HW_.out zq21) (fun _ _ _ h => h) (Or.inl ⟨by rfl, ?_⟩) hHeld ?_ ?_
                  rotate_left
                  ·rintro w' ⟨s0, s1, s2, s3, s4, s5, s6⟩
                   go_simp
                   with_reducible rfl
                  rotate_left
                  ·simp only [Act.put, List.setIfInBounds_toArray, List.set_cons_zero, List.set_cons_succ, i64_w, i32_w]
                   rfl
                  refine take_ (i := 24) (N := some 189) (v := ?_) (a' := ?_) #[true, true, true, true, true, true, true, true, true, true, true, true, true, true, true, true, true, true, true, true, true, true, true, true, true, false, false, false] rfl rfl (take_ofW HT_.out HW_.out zq21) (fun _ _ _ h => h) (Or.inl ⟨by rfl, ?_⟩) hHeld ?_ ?_
                  rotate_left
                  ·rintro w' ⟨s0, s1, s2, s3, s4, s5, s6⟩
                   go_simp
                   with_reducible rfl
                  rotate_left
                  ·simp only [Act.put, List.setIfInBounds_toArray, List.set_cons_zero, List.set_cons_succ, i64_w, i32_w]
                   rfl
                  refine pure_ (i := 25) (N := some 190) (v := ?_) (a' := ?_) #[true, true, true, true, true, true, true, true, true, true, true, true, true, true, true, true, true, true, true, true, true, true, true, true, true, true, false, false] rfl rfl (any_of HT_.out zq21) (fun _ _ _ h => h) (Or.inl ⟨by rfl, ?_⟩) ?_ ?_
                  rotate_left
                  ·intro w'
                   go_simp
                   with_reducible rfl
                  rotate_left
                  ·simp only [Act.put, List.setIfInBounds_toArray, List.set_cons_zero, List.set_cons_succ, i64_w, i32_w]
                   rfl
                  refine pure_ (i := 26) (N := some 191) (v := ?_) (a' := ?_) #[true, true, true, true, true, true, true, true, true, true, true, true, true, true, true, true, true, true, true, true, true, true, true, true, true, true, true, false] rfl rfl (any_of HT_.out zq21) (fun _ _ _ h => h) (Or.inl ⟨by rfl, ?_⟩) ?_ ?_
                  rotate_left
                  ·intro w'
                   go_simp
                   with_reducible rfl
                  rotate_left
                  ·simp only [Act.put, List.setIfInBounds_toArray, List.set_cons_zero, List.set_cons_succ, i64_w, i32_w]
                   rfl
                  refine pure_ (i := 27) (N := some 2) (v := ?_) (a' := ?_) #[true, true, true, true, true, true, true, true, true, true, true, true, true, true, true, true, true, true, true, true, true, true, true, true, true, true, true, true] rfl rfl (any_of HT_.out zq21) (fun _ _ _ h => h) (Or.inl ⟨by rfl, ?_⟩) ?_ ?_
                  rotate_left
                  ·intro w'
                   go_simp
                   with_reducible rfl
                  rotate_left
                  ·simp only [Act.put, List.setIfInBounds_toArray, List.set_cons_zero, List.set_cons_succ, i64_w, i32_w]
                   rfl
                  refine done_ (done_of HT_.out zq21) ?_
                  try go_wp2
                  go_ret
                  exact ⟨zq7, zq133⟩
                 ·rw [if_neg c247] at H
                  exact absurd H zq176
                ·replace c246 := Bool.eq_false_iff.mpr c246
                 subst c246
                 have H1 : (some false) = some r := by rw [if_neg (show ¬ (false = true) by decide)] at H; exact H
                 clear H
                 have H := H1
                 clear H1
                 exact absurd (Option.some.inj H) (by rw [hr]; decide)
               ·rw [if_neg c244] at H
                exact absurd H zq176
              ·rw [if_neg c243] at H
               exact absurd H zq176
             ·rw [if_neg c242] at H
              have c242b0 : ((t476.length : Int) == (wrap64 ((t462.length : Int) + 1))) = false := beq_eq_false_iff_ne.mpr c242
              have c242b1 : ((t476.length : Int) != (wrap64 ((t462.length : Int) + 1))) = true := bne_iff_ne.mpr c242
              exact absurd (Option.some.inj H) (by rw [hr]; decide)
            ·replace c241 := Bool.eq_false_iff.mpr c241
             subst c241
             have H1 : (some false) = some r := by rw [if_neg (show ¬ (false = true) by decide)] at H; exact H
             clear H
             have H := H1
             clear H1
             exact absurd (Option.some.inj H) (by rw [hr]; decide)
           ·rw [if_neg c238] at H
            have c238b0 : (t441 == 0) = false := beq_eq_false_iff_ne.mpr c238
            have c238b1 : (t441 != 0) = true := bne_iff_ne.mpr c238
            obtain rfl := Option.some.inj H; clear hr
            have hnb304 := NB442_409.out
            have hnc304 := NB409_442.out
            have hnb305 := NB442_416.out
            have hnc305 := NB416_442.out
            have hnb306 := NB442_427.out
            have hnc306 := NB427_442.out
            have hnb307 := NB442_436.out
            have hnc307 := NB436_442.out
            have hnb308 := NB442_437.out
            have hnc308 := NB437_442.out
            have hnb309 := NB442_447.out
            have hnc309 := NB447_442.out
            have hnb310 := NB442_456.out
            have hnc310 := NB456_442.out
            have hnb311 := NB442_461.out
            have hnc311 := NB461_442.out
            have hcz312_0 : wc.cell? ⟨gb442, 0, none⟩ = some (.string t438) := (blk_cell BK442.out 0).trans rfl
            have hcz312_1 : wc.cell? ⟨gb442, 1, none⟩ = some (.string t439) := (blk_cell BK442.out 1).trans rfl
            have hcz312_2 : wc.cell? ⟨gb442, 2, none⟩ = some (.int .i64 t440) := (blk_cell BK442.out 2).trans rfl
            have hfz312_0 := blk_frozen BK442.out 0
            have hfz312_1 := blk_frozen BK442.out 1
            have hfz312_2 := blk_frozen BK442.out 2
            have hnb313 := NB436_409.out
            have hnc313 := NB409_436.out
            have hnb314 := NB436_416.out
            have hnc314 := NB416_436.out
            have hnb315 := NB436_427.out
            have hnc315 := NB427_436.out
            have hnb316 := NB436_437.out
            have hnc316 := NB437_436.out
            have hnb317 := NB436_447.out
            have hnc317 := NB447_436.out
            have hnb318 := NB436_456.out
            have hnc318 := NB456_436.out
            have hnb319 := NB436_461.out
            have hnc319 := NB461_436.out
            have hcz320_0 : wc.cell? ⟨gb436, 0, none⟩ = some (.string t431) := (blk_cell BK436.out 0).trans rfl
            have hcz320_1 : wc.cell? ⟨gb436, 1, none⟩ = some (.string t432) := (blk_cell BK436.out 1).trans rfl
            have hcz320_2 : wc.cell? ⟨gb436, 2, none⟩ = some (.int .i64 t433) := (blk_cell BK436.out 2).trans rfl
            have hfz320_0 := blk_frozen BK436.out 0
            have hfz320_1 := blk_frozen BK436.out 1
            have hfz320_2 := blk_frozen BK436.out 2
            go_wp2
            go_ret
            exact ⟨zq7, zq133⟩
end Go.Proofs.YtgclcjohnnpejaaDoor.Pr
end

section
namespace Go.Proofs.YtgclcjohnnpejaaDoor.PureL
open Go.RowKit Go.Proofs.YtgclcjohnnpejaaDoor.Pr Go.Proofs.YtgclcjohnnpejaaDoorW.PrintWords Go.Proofs.YtgclcjohnnpejaaDoorW.PrintLast
abbrev L (s : ByteArray) : List UInt8 := s.data.toList
theorem ext_L {a b : ByteArray} (h : L a = L b) : a = b := by
 obtain ⟨⟨la⟩⟩ := a
 obtain ⟨⟨lb⟩⟩ := b
 have : la = lb := h
 rw [this]
theorem size_L (s : ByteArray) : s.size = (L s).length := by simp only [L, Array.length_toList]; rfl
theorem L_append (a b : ByteArray) : L (a ++ b) = L a ++ L b := by
 simp [L]
theorem L_extract (s : ByteArray) (a b : Nat) : L (s.extract a b) = ((L s).drop a).take (b - a) := Lib.extract_data s a b
theorem L_toList (s : ByteArray) : s.toList = L s := Lib.toList_data s
theorem L_mk (l : List UInt8) : L ⟨l.toArray⟩ = l := rfl
theorem wrap_up {i : Int} {n : Nat} (h0 : 0 ≤ i) (h : i < (n : Int)) (hn : n ≤ 9223372036854775807) : wrap64 (i + 1) = i + 1 := by
 unfold wrap64
 omega
theorem wrap_in {i : Int} (h0 : -9223372036854775808 ≤ i) (h : i ≤ 9223372036854775807) : wrap64 i = i := by
 unfold wrap64
 omega
theorem bt_get (s : ByteArray) (i : Nat) (h : i < (L s).length) : bt s (i : Int) = (((L s)[i]'h).toNat : Int) := by
 have h' : i < s.size := by rw [size_L]; exact h
 unfold bt
 simp only [Int.toNat_natCast, h', dif_pos]
 rfl
theorem bt_drop {s : ByteArray} {i : Nat} {b : UInt8} {l : List UInt8} (h : (L s).drop i = b :: l) : bt s (i : Int) = (b.toNat : Int) ∧ (L s).drop (i + 1) = l ∧ i < s.size := by
 have hi : i < (L s).length := by
  apply Decidable.byContradiction
  intro hc
  rw [List.drop_eq_nil_of_le (by omega)] at h
  cases h
 have e := List.drop_eq_getElem_cons hi
 rw [h] at e
 injection e with e1 e2
 refine ⟨by rw [bt_get s i hi, e1], e2.symm, by rw [size_L]; exact hi⟩
theorem drop_nil_iff {s : ByteArray} {i : Nat} : (L s).drop i = [] ↔ s.size ≤ i := by rw [List.drop_eq_nil_iff, size_L]
theorem byte_eq (a b : UInt8) : ((a.toNat : Int) = (b.toNat : Int)) ↔ a = b := by
 constructor
 ·intro h; exact UInt8.toNat_inj.1 (by omega)
 ·rintro rfl; rfl
theorem stands_l0 (s : ByteArray) (c : UInt8) (hs : s.size ≤ 9223372036854775807) : ∀ (l : List UInt8) (i k : Nat), (L s).drop i = l → i ≤ s.size → l.length < k →
  spec_l1Stands.l0 k s (c.toNat : Int) (i : Int) = some (decide (c ∈ l))
 | [], i, k, h, hi, hk => by
  obtain ⟨k, rfl⟩ : ∃ m, k = m + 1 := ⟨k - 1, by omega⟩
  have := drop_nil_iff.1 h
  simp only [spec_l1Stands.l0]
  rw [if_neg (by omega)]
  simp
 | b :: l, i, k, h, hi, hk => by
  obtain ⟨k, rfl⟩ : ∃ m, k = m + 1 := ⟨k - 1, by omega⟩
  obtain ⟨h1, h2, h3⟩ := bt_drop h
  simp only [List.length_cons] at hk
  simp only [spec_l1Stands.l0]
  rw [if_pos (by omega), if_pos (by omega), h1]
  by_cases e : b = c
  ·subst e; simp
  ·rw [if_neg (fun h => e ((byte_eq _ _).1 h)), wrap_up (n := s.size) (by omega) (by omega) hs]
   have := stands_l0 s c hs l (i + 1) k h2 (by omega) (by omega)
   rw [show ((i : Int) + 1) = ((i + 1 : Nat) : Int) from by omega, this]
   simp [Ne.symm e]
theorem stands (s : ByteArray) (c : UInt8) (k : Nat) (hs : s.size ≤ 9223372036854775807) (hk : s.size < k) : spec_l1Stands.f k s (c.toNat : Int) = some (decide (c ∈ L s)) := by
 unfold spec_l1Stands.f
 exact stands_l0 s c hs (L s) 0 k rfl (by omega) (by rw [← size_L]; exact hk)
def okB (b : UInt8) : Bool := 32 ≤ b && b ≤ 126 && b != 35
theorem okB_iff (b : UInt8) : okB b = true ↔ 32 ≤ (b.toNat : Int) ∧ (b.toNat : Int) ≤ 126 ∧ (b.toNat : Int) ≠ 35 := by
 unfold okB
 simp only [Bool.and_eq_true, decide_eq_true_eq, bne_iff_ne, ne_eq, UInt8.le_iff_toNat_le]
 rw [show (35 : Int) = ((35 : UInt8).toNat : Int) from rfl, byte_eq]
 constructor
 ·rintro ⟨⟨h1, h2⟩, h3⟩
  exact ⟨by have : (32 : UInt8).toNat = 32 := rfl; omega, by have : (126 : UInt8).toNat = 126 := rfl; omega, h3⟩
 ·rintro ⟨h1, h2, h3⟩
  exact ⟨⟨by have : (32 : UInt8).toNat = 32 := rfl; omega, by have : (126 : UInt8).toNat = 126 := rfl; omega⟩, h3⟩
theorem bytes_l0 (s : ByteArray) (m : Int) (hs : s.size ≤ 9223372036854775807) : ∀ (l : List UInt8) (i k : Nat), (L s).drop i = l → i ≤ s.size → l.length < k →
  spec_l12Bytes.l0 k s m (i : Int) = some (l.all okB && decide ((s.size : Int) ≤ m))
 | [], i, k, h, hi, hk => by
  obtain ⟨k, rfl⟩ : ∃ m, k = m + 1 := ⟨k - 1, by omega⟩
  have := drop_nil_iff.1 h
  simp only [spec_l12Bytes.l0]
  rw [if_neg (by omega)]
  simp
 | b :: l, i, k, h, hi, hk => by
  obtain ⟨k, rfl⟩ : ∃ m, k = m + 1 := ⟨k - 1, by omega⟩
  obtain ⟨h1, h2, h3⟩ := bt_drop h
  simp only [List.length_cons] at hk
  have hb : b.toNat < 256 := b.toNat_lt
  simp only [spec_l12Bytes.l0]
  rw [if_pos (by omega), if_pos (by omega), h1, wrap_in (by omega) (by omega)]
  have ih := bytes_l0 s m hs l (i + 1) k h2 (by omega) (by omega)
  unfold spec_l1In.f
  simp only [List.all_cons]
  cases e : okB b with
  | true =>
   obtain ⟨e1, e2, e3⟩ := (okB_iff b).1 e
   rw [if_pos (by omega)]
   simp only [Option.bind_some, decide_eq_true_eq]
   rw [if_pos e2, if_neg e3, wrap_up (n := s.size) (by omega) (by omega) hs, show ((i : Int) + 1) = ((i + 1 : Nat) : Int) from by omega, ih]
   simp
  | false =>
   have e' : ¬ (32 ≤ (b.toNat : Int) ∧ (b.toNat : Int) ≤ 126 ∧ (b.toNat : Int) ≠ 35) := fun h => by rw [(okB_iff b).2 h] at e; cases e
   by_cases c1 : 32 ≤ (b.toNat : Int)
   ·rw [if_pos c1]
    simp only [Option.bind_some, decide_eq_true_eq]
    by_cases c2 : (b.toNat : Int) ≤ 126
    ·rw [if_pos c2, if_pos (by omega)]; simp
    ·rw [if_neg c2]; simp
   ·rw [if_neg c1]; simp
def printed (l : List UInt8) (m : Nat) : Bool := l.all okB && decide (l.length ≤ m)
theorem bytes (s : ByteArray) (m k : Nat) (hs : s.size ≤ 9223372036854775807) (hk : s.size < k) : spec_l12Bytes.f k s (m : Int) = some (printed (L s) m) := by
 unfold spec_l12Bytes.f
 rw [show (0 : Int) = ((0 : Nat) : Int) from rfl, bytes_l0 s m hs (L s) 0 k rfl (by omega) (by rw [← size_L]; exact hk)]
 unfold printed
 rw [size_L]
 congr 2
 exact decide_eq_decide.2 (by omega)
theorem isPrinted_l0 (s : ByteArray) (m : Int) (hs : s.size ≤ 9223372036854775807) : ∀ (l : List UInt8) (i k : Nat), (L s).drop i = l → i ≤ s.size → l.length < k →
  impl_isPrinted.l0 k s m (s.size : Int) (i : Int) = some (l.all okB && decide ((s.size : Int) ≤ m))
 | [], i, k, h, hi, hk => by
  obtain ⟨k, rfl⟩ : ∃ m, k = m + 1 := ⟨k - 1, by omega⟩
  have := drop_nil_iff.1 h
  simp only [impl_isPrinted.l0]
  rw [if_neg (by omega)]
  simp
 | b :: l, i, k, h, hi, hk => by
  obtain ⟨k, rfl⟩ : ∃ m, k = m + 1 := ⟨k - 1, by omega⟩
  obtain ⟨h1, h2, h3⟩ := bt_drop h
  simp only [List.length_cons] at hk
  simp only [impl_isPrinted.l0]
  rw [if_pos (by omega), if_pos (by omega), if_pos (by omega), h1]
  have ih := isPrinted_l0 s m hs l (i + 1) k h2 (by omega) (by omega)
  simp only [List.all_cons]
  cases e : okB b with
  | true =>
   obtain ⟨e1, e2, e3⟩ := (okB_iff b).1 e
   rw [if_neg (by omega), if_neg (by omega), if_neg e3, wrap_up (n := s.size) (by omega) (by omega) hs, show ((i : Int) + 1) = ((i + 1 : Nat) : Int) from by omega, ih]
   simp
  | false =>
   have e' : ¬ (32 ≤ (b.toNat : Int) ∧ (b.toNat : Int) ≤ 126 ∧ (b.toNat : Int) ≠ 35) := fun h => by rw [(okB_iff b).2 h] at e; cases e
   by_cases c1 : (b.toNat : Int) < 32
   ·rw [if_pos c1]; simp
   ·rw [if_neg c1]
    by_cases c2 : (b.toNat : Int) > 126
    ·rw [if_pos c2]; simp
    ·rw [if_neg c2, if_pos (by omega)]; simp
theorem isPrinted (s : ByteArray) (m k : Nat) (hs : s.size ≤ 9223372036854775807) (hk : s.size < k) : impl_isPrinted.f k s (m : Int) = some (printed (L s) m) := by
 unfold impl_isPrinted.f
 rw [show (0 : Int) = ((0 : Nat) : Int) from rfl, isPrinted_l0 s m hs (L s) 0 k rfl (by omega) (by rw [← size_L]; exact hk)]
 unfold printed
 rw [size_L]
 congr 2
 exact decide_eq_decide.2 (by omega)
def validRec (c r : List UInt8) : Bool := !c.isEmpty && printed c 160 && !decide ((64 : UInt8) ∈ c) && printed r 280
theorem spec_valid (c r : ByteArray) (k : Nat) (hc : c.size ≤ 9223372036854775807) (hr : r.size ≤ 9223372036854775807) (hk : c.size < k) (hk' : r.size < k) :
  spec_l12Record.f k c r = some (validRec (L c) (L r)) := by
 unfold spec_l12Record.f validRec
 rw [L_toList, show (160 : Int) = ((160 : Nat) : Int) from rfl, show (280 : Int) = ((280 : Nat) : Int) from rfl, show (64 : Int) = ((64 : UInt8).toNat : Int) from rfl, bytes c 160 k hc hk, bytes r 280 k hr hk', stands c 64 k hc hk]
 by_cases h0 : L c = []
 ·rw [if_pos h0, h0]; simp
 ·rw [if_neg h0]
  have h0' : (L c).isEmpty = false := by simpa using h0
  rw [h0']
  cases printed (L c) 160 <;> by_cases h2 : (64 : UInt8) ∈ L c <;> simp [h2]
theorem impl_valid (c r : ByteArray) (k : Nat) (hc : c.size ≤ 9223372036854775807) (hr : r.size ≤ 9223372036854775807) (hk : c.size < k) (hk' : r.size < k) :
  impl_IsValidRecord.f k c r = some (validRec (L c) (L r)) := by
 unfold impl_IsValidRecord.f impl_isCommand.f validRec strings_Contains.f
 rw [L_toList, show (160 : Int) = ((160 : Nat) : Int) from rfl, show (280 : Int) = ((280 : Nat) : Int) from rfl, isPrinted c 160 k hc hk, isPrinted r 280 k hr hk']
 by_cases h0 : L c = []
 ·rw [if_pos h0, h0]; simp
 ·rw [if_neg h0]
  have h0' : (L c).isEmpty = false := by simpa using h0
  rw [h0', if_pos (by rfl)]
  have h64 : ((⟨#[64]⟩ : ByteArray).data.toList.headD 0) = 64 := rfl
  rw [h64]
  cases printed (L c) 160 <;> by_cases h2 : (64 : UInt8) ∈ L c <;> simp [h2]
theorem dig_at (n : Nat) (h : n < 10) : L ((⟨#[48, 49, 50, 51, 52, 53, 54, 55, 56, 57]⟩ : ByteArray).extract n (n + 1)) = [UInt8.ofNat (48 + n)] := by
 rw [L_extract]
 match n, h with
 | 0, _ => rfl | 1, _ => rfl | 2, _ => rfl | 3, _ => rfl | 4, _ => rfl | 5, _ => rfl | 6, _ => rfl | 7, _ => rfl | 8, _ => rfl | 9, _ => rfl
theorem dec_len1 (m : Nat) : (Lib.decDigits m).length ≤ m + 1 := by
 induction m using Nat.strongRecOn with
 | _ m ih =>
  rw [Lib.decDigits]
  by_cases hm : m < 10
  ·rw [dif_pos hm]; simp
  ·rw [dif_neg hm]
   have := ih (m / 10) (by omega)
   simp only [List.length_append, List.length_cons, List.length_nil]
   omega
theorem num_nat (k : Nat) : ∀ n : Nat, n < k → n ≤ 9000000000000000000 → ∃ s, spec_l1Num.f k (n : Int) = some s ∧ L s = Lib.decDigits n := by
 induction k with
 | zero => intro n h; omega
 | succ k ih =>
  intro n h hn
  simp only [spec_l1Num.f]
  rw [if_neg (by omega)]
  by_cases h10 : n < 10
  ·rw [if_pos (by omega), if_pos (by omega), wrap_in (by omega) (by omega), if_pos (by omega), if_pos (by omega)]
   refine ⟨_, rfl, ?_⟩
   rw [show ((n : Int) + 1).toNat = n + 1 from by omega, Int.toNat_natCast, dig_at n h10, Lib.decDigits, dif_pos h10]
  ·have e1 : Int.tdiv (n : Int) 10 = ((n / 10 : Nat) : Int) := by
    rw [Int.tdiv_eq_ediv_of_nonneg (by omega)]; omega
   have e2 : Int.tmod (n : Int) 10 = ((n % 10 : Nat) : Int) := by
    rw [Int.tmod_eq_emod_of_nonneg (by omega)]; omega
   obtain ⟨s, hs, hL⟩ := ih (n / 10) (by omega) (by omega)
   have hlen : s.size ≤ n := by
    rw [size_L, hL]
    have := dec_len1 (n / 10)
    omega
   rw [if_neg (by omega), e1, e2, wrap_in (i := ((n / 10 : Nat) : Int)) (by omega) (by omega), hs, Option.bind_some]
   rw [if_pos (by omega), wrap_in (by omega) (by omega), if_pos (by omega), if_pos (by omega)]
   have e3 : (((n % 10 : Nat) : Int) + 1).toNat = n % 10 + 1 := by omega
   have hd := dig_at (n % 10) (by omega)
   rw [e3, Int.toNat_natCast]
   have hsz : ((⟨#[48, 49, 50, 51, 52, 53, 54, 55, 56, 57]⟩ : ByteArray).extract (n % 10) (n % 10 + 1)).size = 1 := by rw [size_L, hd]; rfl
   rw [hsz, if_pos (by omega)]
   refine ⟨_, rfl, ?_⟩
   rw [L_append, hL, hd]
   conv => rhs; rw [Lib.decDigits, dif_neg h10]
theorem num_any (n : Int) (k : Nat) (hk : n.natAbs + 1 < k) (h0 : -9000000000000000000 ≤ n) (h1 : n ≤ 9000000000000000000) : ∃ s, spec_l1Num.f k n = some s ∧ L s = Lib.itoa n := by
 by_cases hn : n < 0
 ·obtain ⟨k, rfl⟩ : ∃ m, k = m + 1 := ⟨k - 1, by omega⟩
  obtain ⟨s, hs, hL⟩ := num_nat k n.natAbs (by omega) (by omega)
  simp only [spec_l1Num.f]
  rw [if_pos hn, wrap_in (by omega) (by omega), show -n = (n.natAbs : Int) from by omega, hs, Option.bind_some]
  have hlen : s.size ≤ n.natAbs + 1 ∧ n.natAbs + 1 < 9223372036854775807 := by
   rw [size_L, hL]
   exact ⟨dec_len1 n.natAbs, by omega⟩
  rw [if_pos (by omega)]
  refine ⟨_, rfl, ?_⟩
  rw [L_append, hL]
  unfold Lib.itoa
  rw [if_pos hn]
  rfl
 ·obtain ⟨s, hs, hL⟩ := num_nat k n.toNat (by omega) (by omega)
  refine ⟨s, by rw [← hs]; congr 1; omega, ?_⟩
  unfold Lib.itoa
  rw [if_neg hn, hL]
theorem num_eq (n : Int) (k : Nat) (hk : n.natAbs + 1 < k) (h0 : -9000000000000000000 ≤ n) (h1 : n ≤ 9000000000000000000) : spec_l1Num.f k n = some ⟨(Lib.itoa n).toArray⟩ := by
 obtain ⟨s, hs, hL⟩ := num_any n k hk h0 h1
 rw [hs, ext_L (a := s) (b := ⟨(Lib.itoa n).toArray⟩) (by rw [hL])]
theorem itoa_eq (n : Int) (h0 : -9000000000000000000 ≤ n) (h1 : n ≤ 9000000000000000000) : strconv_Itoa.f n = some ⟨(Lib.itoa n).toArray⟩ := by
 unfold strconv_Itoa.f
 rw [if_pos (by omega)]
def sumStep (h : Int) (b : UInt8) : Int := (41 * h + (b.toNat : Int) + 1) % 999979
def sumL (l : List UInt8) (h : Int) : Int := l.foldl sumStep h
theorem sumStep_in (h : Int) (b : UInt8) : 0 ≤ sumStep h b ∧ sumStep h b < 999979 := by unfold sumStep; omega
theorem sum_in (l : List UInt8) (h : Int) (h0 : 0 ≤ h) (h1 : h < 999979) : 0 ≤ sumL l h ∧ sumL l h < 999979 := by
 induction l generalizing h with
 | nil => exact ⟨h0, h1⟩
 | cons b l ih => exact ih _ (sumStep_in h b).1 (sumStep_in h b).2
theorem step_wrap (h : Int) (b : UInt8) (h0 : 0 ≤ h) (h1 : h < 999979) : Int.tmod (wrap64 ((wrap64 ((wrap64 (41 * h)) + (wrap64 (b.toNat : Int)))) + 1)) 999979 = sumStep h b := by
 have hb : b.toNat < 256 := b.toNat_lt
 rw [wrap_in (i := 41 * h) (by omega) (by omega), wrap_in (i := (b.toNat : Int)) (by omega) (by omega), wrap_in (i := 41 * h + (b.toNat : Int)) (by omega) (by omega), wrap_in (by omega) (by omega), Int.tmod_eq_emod_of_nonneg (by omega)]
 rfl
theorem sum_l0 (s : ByteArray) (hs : s.size ≤ 9223372036854775807) : ∀ (l : List UInt8) (h : Int) (i k : Nat), (L s).drop i = l → i ≤ s.size → l.length < k → 0 ≤ h → h < 999979 →
  spec_l1Sum.l0 k s h (i : Int) = some (sumL l h)
 | [], h, i, k, hd, hi, hk, _, _ => by
  obtain ⟨k, rfl⟩ : ∃ m, k = m + 1 := ⟨k - 1, by omega⟩
  have := drop_nil_iff.1 hd
  simp only [spec_l1Sum.l0]
  rw [if_neg (by omega)]
  rfl
 | b :: l, h, i, k, hd, hi, hk, h0, h1 => by
  obtain ⟨k, rfl⟩ : ∃ m, k = m + 1 := ⟨k - 1, by omega⟩
  obtain ⟨e1, e2, e3⟩ := bt_drop hd
  simp only [List.length_cons] at hk
  simp only [spec_l1Sum.l0]
  rw [if_pos (by omega), if_pos (by omega), e1, step_wrap h b h0 h1, wrap_up (n := s.size) (by omega) (by omega) hs, show ((i : Int) + 1) = ((i + 1 : Nat) : Int) from by omega,
   sum_l0 s hs l _ (i + 1) k e2 (by omega) (by omega) (sumStep_in h b).1 (sumStep_in h b).2]
  rfl
theorem sum_eq (s : ByteArray) (k : Nat) (hs : s.size ≤ 9223372036854775807) (hk : s.size < k) : spec_l1Sum.f k s = some (sumL (L s) 7) := by
 unfold spec_l1Sum.f
 exact sum_l0 s hs (L s) 7 0 k rfl (by omega) (by rw [← size_L]; exact hk) (by omega) (by omega)
theorem check_l0 (s : ByteArray) (hs : s.size ≤ 9223372036854775807) : ∀ (l : List UInt8) (h : Int) (i k : Nat), (L s).drop i = l → i ≤ s.size → l.length < k → 0 ≤ h → h < 999979 →
  impl_Checksum.l0 k s h (s.size : Int) (i : Int) = some (sumL l h, true)
 | [], h, i, k, hd, hi, hk, _, _ => by
  obtain ⟨k, rfl⟩ : ∃ m, k = m + 1 := ⟨k - 1, by omega⟩
  have := drop_nil_iff.1 hd
  simp only [impl_Checksum.l0]
  rw [if_neg (by omega)]
  rfl
 | b :: l, h, i, k, hd, hi, hk, h0, h1 => by
  obtain ⟨k, rfl⟩ : ∃ m, k = m + 1 := ⟨k - 1, by omega⟩
  obtain ⟨e1, e2, e3⟩ := bt_drop hd
  simp only [List.length_cons] at hk
  simp only [impl_Checksum.l0]
  rw [if_pos (by omega), if_pos (by omega), if_pos (by omega), e1, step_wrap h b h0 h1, wrap_up (n := s.size) (by omega) (by omega) hs, show ((i : Int) + 1) = ((i + 1 : Nat) : Int) from by omega,
   check_l0 s hs l _ (i + 1) k e2 (by omega) (by omega) (sumStep_in h b).1 (sumStep_in h b).2]
  rfl
theorem check_eq (s : ByteArray) (k : Nat) (hk : s.size < k) : impl_Checksum.f k s = some (if s.size ≤ 4000 then (sumL (L s) 7, true) else (0, false)) := by
 unfold impl_Checksum.f
 by_cases h : s.size ≤ 4000
 ·rw [if_neg (by omega), if_pos h]
  exact check_l0 s (by omega) (L s) 7 0 k rfl (by omega) (by rw [← size_L]; exact hk) (by omega) (by omega)
 ·rw [if_pos (by omega), if_neg h]
def sealL (l : List UInt8) : List UInt8 := l ++ [35] ++ Lib.itoa (sumL l 7)
theorem decDigits_len (m : Nat) : (Lib.decDigits m).length ≤ m / 10 + 1 := by
 induction m using Nat.strongRecOn with
 | _ m ih =>
  rw [Lib.decDigits]
  by_cases hm : m < 10
  ·rw [dif_pos hm]; simp
  ·rw [dif_neg hm]
   have := ih (m / 10) (by omega)
   simp only [List.length_append, List.length_cons, List.length_nil]
   omega
theorem itoa_len (n : Int) (h0 : 0 ≤ n) (h1 : n < 999979) : (Lib.itoa n).length ≤ 100000 := by
 unfold Lib.itoa
 rw [if_neg (by omega)]
 have := decDigits_len n.toNat
 omega
theorem seal_eq (s : ByteArray) (k : Nat) (hs : s.size ≤ 9000000000000000000) (hk : s.size < k) (hk2 : 1000000 < k) : spec_l1Seal.f k s = some ⟨(sealL (L s)).toArray⟩ := by
 unfold spec_l1Seal.f
 obtain ⟨h0, h1⟩ := sum_in (L s) 7 (by omega) (by omega)
 have hl := itoa_len _ h0 h1
 rw [if_pos (by omega), sum_eq s k (by omega) hk]
 simp only [Option.bind_some]
 rw [num_eq _ k (by omega) (by omega) (by omega)]
 simp only [Option.bind_some]
 rw [if_pos (by
  have : (⟨(Lib.itoa (sumL (L s) 7)).toArray⟩ : ByteArray).size = (Lib.itoa (sumL (L s) 7)).length := by rw [size_L]
  omega)]
 refine congrArg some (ext_L ?_)
 rw [L_append, L_append]
 rfl
theorem appendChecksum_eq (s : ByteArray) (k : Nat) (hs : s.size ≤ 9000000000000000000) (hk : s.size < k) :
  impl_AppendChecksum.f k s = some (if s.size ≤ 4000 ∧ (35 : UInt8) ∉ L s ∧ (sealL (L s)).length ≤ 4000 then (⟨(sealL (L s)).toArray⟩, true) else (⟨#[]⟩, false)) := by
 unfold impl_AppendChecksum.f
 obtain ⟨h0, h1⟩ := sum_in (L s) 7 (by omega) (by omega)
 have hl := itoa_len _ h0 h1
 rw [check_eq s k hk]
 simp only [Option.bind_some]
 rw [if_pos (by omega)]
 by_cases h4 : s.size ≤ 4000
 ·rw [if_pos h4]
  have hz : (⟨(Lib.itoa (sumL (L s) 7)).toArray⟩ : ByteArray).size = (Lib.itoa (sumL (L s) 7)).length := by rw [size_L]
  have hc : strings_Contains.f s (⟨#[35]⟩ : ByteArray) = some (decide ((35 : UInt8) ∈ L s)) := by
   unfold strings_Contains.f
   rw [if_pos (show (⟨#[35]⟩ : ByteArray).size = 1 from rfl)]
   rfl
  have hsl : (sealL (L s)).length = s.size + 1 + (Lib.itoa (sumL (L s) 7)).length := by unfold sealL; rw [size_L]; simp only [List.length_append, List.length_cons, List.length_nil]
  rw [itoa_eq _ (by omega) (by omega)]
  simp only [Option.bind_some]
  rw [if_pos (by omega), if_pos trivial, hc]
  simp only [Option.bind_some, decide_eq_true_eq]
  by_cases h5 : (35 : UInt8) ∈ L s
  ·rw [if_pos h5, if_neg (fun h => h.2.1 h5)]
  ·rw [if_neg h5]
   by_cases h6 : (sealL (L s)).length ≤ 4000
   ·rw [if_neg (by omega), if_pos ⟨h4, h5, h6⟩]
    refine congrArg some (Prod.ext ?_ rfl)
    apply ext_L
    rw [L_append, L_append]
    rfl
   ·rw [if_pos (by omega), if_neg (fun h => h6 h.2.2)]
 ·rw [if_neg h4, if_neg (fun h => h4 h.1)]
  rw [itoa_eq _ (by omega) (by omega)]
  simp only [Option.bind_some]
  have hz : (⟨(Lib.itoa 0).toArray⟩ : ByteArray).size = 1 := by rw [size_L]; unfold Lib.itoa; rw [if_neg (by omega), Lib.decDigits]; rfl
  rw [if_pos (by omega), if_neg (by simp)]
theorem decDigits_pow : ∀ (d n : Nat), n < 10 ^ (d + 1) → (Lib.decDigits n).length ≤ d + 1
 | 0, n, h => by
  rw [Lib.decDigits, dif_pos (by omega)]
  simp
 | d + 1, n, h => by
  rw [Lib.decDigits]
  by_cases hn : n < 10
  ·rw [dif_pos hn]; simp
  ·rw [dif_neg hn]
   have := decDigits_pow d (n / 10) (by rw [Nat.pow_succ] at h; omega)
   simp only [List.length_append, List.length_cons, List.length_nil]
   omega
theorem decDigits_dig (n : Nat) : ∀ b ∈ Lib.decDigits n, 48 ≤ b.toNat ∧ b.toNat ≤ 57 := by
 induction n using Nat.strongRecOn with
 | _ n ih =>
  rw [Lib.decDigits]
  have hd : ∀ m : Nat, m < 10 → ∀ b ∈ [UInt8.ofNat (48 + m)], 48 ≤ b.toNat ∧ b.toNat ≤ 57 := fun m hm b hb => by
   rw [List.mem_singleton.1 hb, UInt8.toNat_ofNat']
   omega
  by_cases hn : n < 10
  ·rw [dif_pos hn]; exact hd n hn
  ·rw [dif_neg hn]
   intro b hb
   rcases List.mem_append.1 hb with hb | hb
   ·exact ih (n / 10) (by omega) b hb
   ·exact hd (n % 10) (by omega) b hb
theorem itoa_dig {n : Int} (h0 : 0 ≤ n) : ∀ b ∈ Lib.itoa n, 48 ≤ b.toNat ∧ b.toNat ≤ 57 := by
 unfold Lib.itoa
 rw [if_neg (by omega)]
 exact decDigits_dig _
theorem itoa_small {n : Int} (h0 : 0 ≤ n) (h1 : n < 1000000) : (Lib.itoa n).length ≤ 6 := by
 unfold Lib.itoa
 rw [if_neg (by omega)]
 exact decDigits_pow 5 n.toNat (by omega)
theorem sum_small (l : List UInt8) : (Lib.itoa (sumL l 7)).length ≤ 6 := by
 obtain ⟨h0, h1⟩ := sum_in l 7 (by omega) (by omega)
 exact itoa_small h0 (by omega)
def textL (n : Int) (c r : List UInt8) : List UInt8 := Lib.itoa n ++ [32] ++ c ++ [64] ++ r
def encL (n : Int) (c r : List UInt8) : List UInt8 := sealL (textL n c r) ++ [10]
theorem all_ok_no35 {l : List UInt8} (h : l.all okB = true) : (35 : UInt8) ∉ l := fun hm => by
 have := List.all_eq_true.1 h 35 hm
 exact absurd this (by decide)
theorem valid_parts {c r : List UInt8} (h : validRec c r = true) : c ≠ [] ∧ c.all okB = true ∧ c.length ≤ 160 ∧ (64 : UInt8) ∉ c ∧ r.all okB = true ∧ r.length ≤ 280 := by
 unfold validRec printed at h
 simp only [Bool.and_eq_true, decide_eq_true_eq, Bool.not_eq_true', decide_eq_false_iff_not] at h
 obtain ⟨⟨⟨h1, h2, h3⟩, h4⟩, h5, h6⟩ := h
 exact ⟨by simpa using h1, h2, h3, h4, h5, h6⟩
theorem text_no35 {n : Int} {c r : List UInt8} (h0 : 0 ≤ n) (h : validRec c r = true) : (35 : UInt8) ∉ textL n c r := by
 obtain ⟨_, h2, _, _, h5, _⟩ := valid_parts h
 unfold textL
 simp only [List.mem_append, List.mem_singleton, not_or]
 exact ⟨⟨⟨⟨fun hm => by have := itoa_dig h0 _ hm; have e : (35 : UInt8).toNat = 35 := rfl; omega, by decide⟩, all_ok_no35 h2⟩, by decide⟩, all_ok_no35 h5⟩
theorem text_len {n : Int} {c r : List UInt8} (h0 : 0 ≤ n) (h1 : n < 1000000) : (textL n c r).length ≤ 8 + c.length + r.length := by
 have := itoa_small h0 h1
 unfold textL
 simp only [List.length_append, List.length_cons, List.length_nil]
 omega
theorem seal_len (l : List UInt8) : (sealL l).length ≤ l.length + 7 := by
 have := sum_small l
 unfold sealL
 simp only [List.length_append, List.length_cons, List.length_nil]
 omega
theorem text_B (n : Int) (c r : ByteArray) : ((((⟨(Lib.itoa n).toArray⟩ : ByteArray) ++ (⟨#[32]⟩ : ByteArray)) ++ c) ++ (⟨#[64]⟩ : ByteArray)) ++ r = ⟨(textL n (L c) (L r)).toArray⟩ := by
 apply ext_L
 simp only [L_append]
 rfl
theorem B_size (l : List UInt8) : (⟨l.toArray⟩ : ByteArray).size = l.length := by rw [size_L]
theorem spec_line (n : Int) (c r : ByteArray) (k : Nat) (h0 : 0 ≤ n) (h1 : n < 1000000) (hc : c.size ≤ 1000000000000) (hr : r.size ≤ 1000000000000) (hk : 1000100 + c.size + r.size < k) :
  spec_l12Line.f k n c r = some ⟨(encL n (L c) (L r)).toArray⟩ := by
 have hi := itoa_small h0 h1
 have ht := text_len (c := L c) (r := L r) h0 h1
 have hs := seal_len (textL n (L c) (L r))
 have hc' := size_L c
 have hr' := size_L r
 unfold spec_l12Line.f
 rw [num_eq n k (by omega) (by omega) (by omega), Option.bind_some, B_size, if_pos (by omega), if_pos (by omega), if_pos (by omega), if_pos (by omega), text_B,
  seal_eq _ k (by rw [B_size]; omega) (by rw [B_size]; omega) (by omega), Option.bind_some, B_size, L_mk (textL n (L c) (L r)), if_pos (by omega)]
 refine congrArg some (ext_L ?_)
 rw [L_append]
 rfl
def encR (n : Int) (c r : ByteArray) : ByteArray × Bool := if 0 ≤ n ∧ n ≤ 59 ∧ validRec (L c) (L r) = true then (⟨(encL n (L c) (L r)).toArray⟩, true) else (⟨#[]⟩, false)
theorem spec_enc (n : Int) (c r : ByteArray) (k : Nat) (hc : c.size ≤ 1000000000000) (hr : r.size ≤ 1000000000000) (hk : 1000100 + c.size + r.size < k) :
  spec_EncodeRecord.f k n c r = some (encR n c r) := by
 unfold spec_EncodeRecord.f spec_l1In.f encR
 by_cases h0 : 0 ≤ n
 ·rw [if_pos (by omega), Option.bind_some]
  by_cases h1 : n ≤ 59
  ·rw [if_pos (by simpa using h1), spec_valid c r k (by omega) (by omega) (by omega) (by omega), Option.bind_some]
   by_cases hv : validRec (L c) (L r) = true
   ·rw [if_pos hv, if_pos ⟨h0, h1, hv⟩, spec_line n c r k h0 (by omega) hc hr hk, Option.bind_some]
   ·rw [if_neg hv, if_neg (fun h => hv h.2.2)]
  ·rw [if_neg (by simpa using h1), if_neg (fun h => h1 h.2.1)]
 ·rw [if_neg (by omega), Option.bind_some, if_neg (by simp), if_neg (fun h => h0 h.1)]
theorem impl_enc (n : Int) (c r : ByteArray) (k : Nat) (hc : c.size ≤ 1000000000000) (hr : r.size ≤ 1000000000000) (hk : 1000100 + c.size + r.size < k) :
  impl_EncodeRecord.f k n c r = some (encR n c r) := by
 obtain ⟨k, rfl⟩ : ∃ m, k = m + 1 := ⟨k - 1, by omega⟩
 unfold impl_EncodeRecord.f impl_in.f encR
 by_cases h0 : 0 ≤ n
 ·rw [if_pos (by omega), Option.bind_some]
  by_cases h1 : n ≤ 59
  ·rw [if_pos (by simpa using h1), impl_valid c r (k + 1) (by omega) (by omega) (by omega) (by omega), Option.bind_some]
   by_cases hv : validRec (L c) (L r) = true
   ·have hi := itoa_small h0 (by omega : n < 1000000)
    have ht := text_len (c := L c) (r := L r) h0 (by omega : n < 1000000)
    have hs := seal_len (textL n (L c) (L r))
    obtain ⟨_, _, v1, _, _, v2⟩ := valid_parts hv
    have hc' := size_L c
    have hr' := size_L r
    rw [hv, if_pos ⟨h0, h1, rfl⟩]
    simp only [impl_EncodeRecord.j0]
    rw [if_neg (by simp), itoa_eq n (by omega) (by omega), Option.bind_some, B_size, if_pos (by omega), if_pos (by omega), if_pos (by omega), if_pos (by omega), text_B,
     appendChecksum_eq _ k (by rw [B_size]; omega) (by rw [B_size]; omega), L_mk (textL n (L c) (L r)), if_pos ⟨by rw [B_size]; omega, text_no35 h0 hv, by omega⟩, Option.bind_some, B_size, if_pos (by omega)]
    refine congrArg some (Prod.ext (ext_L ?_) rfl)
    rw [L_append]
    rfl
   ·have hv' : validRec (L c) (L r) = false := by simpa using hv
    rw [hv', if_neg (by simp)]
    simp only [impl_EncodeRecord.j0]
    rw [if_pos (by simp)]
  ·rw [if_neg (by simpa using h1), if_neg (fun h => h1 h.2.1)]
   simp only [impl_EncodeRecord.j0]
   rw [if_pos trivial]
 ·rw [if_neg (by omega), Option.bind_some, if_neg (by simp), if_neg (fun h => h0 h.1)]
  simp only [impl_EncodeRecord.j0]
  rw [if_pos trivial]
end Go.Proofs.YtgclcjohnnpejaaDoor.PureL
end

section
namespace Go.Proofs.YtgclcjohnnpejaaDoor.PureL
open Go.RowKit Go.Proofs.YtgclcjohnnpejaaDoor.Pr Go.Proofs.YtgclcjohnnpejaaDoorW.PrintWords Go.Proofs.YtgclcjohnnpejaaDoorW.PrintLast
set_option linter.unusedSimpArgs false
set_option linter.unusedVariables false
def upL (l : List UInt8) (c : UInt8) : List UInt8 := l.takeWhile (· != c)
def aftL (l : List UInt8) (c : UInt8) : List UInt8 := (l.dropWhile (· != c)).tail
theorem up_no {l : List UInt8} {c : UInt8} (h : c ∉ l) : upL l c = l := by
 unfold upL
 induction l with
 | nil => rfl
 | cons b l ih =>
  have hb : (b != c) = true := by simp only [bne_iff_ne, ne_eq]; rintro rfl; exact h (List.mem_cons_self ..)
  rw [List.takeWhile_cons, if_pos hb, ih (fun hm => h (List.mem_cons_of_mem _ hm))]
theorem drop_no {l : List UInt8} {c : UInt8} (h : c ∉ l) : l.dropWhile (· != c) = [] := by
 induction l with
 | nil => rfl
 | cons b l ih =>
  have hb : (b != c) = true := by simp only [bne_iff_ne, ne_eq]; rintro rfl; exact h (List.mem_cons_self ..)
  rw [List.dropWhile_cons, if_pos hb, ih (fun hm => h (List.mem_cons_of_mem _ hm))]
theorem up_mid {l r : List UInt8} {c : UInt8} (h : c ∉ l) : upL (l ++ c :: r) c = l := by
 unfold upL
 induction l with
 | nil => simp
 | cons b l ih =>
  have hb : (b != c) = true := by simp only [bne_iff_ne, ne_eq]; rintro rfl; exact h (List.mem_cons_self ..)
  rw [List.cons_append, List.takeWhile_cons, if_pos hb, ih (fun hm => h (List.mem_cons_of_mem _ hm))]
theorem aft_mid {l r : List UInt8} {c : UInt8} (h : c ∉ l) : aftL (l ++ c :: r) c = r := by
 unfold aftL
 induction l with
 | nil => simp
 | cons b l ih =>
  have hb : (b != c) = true := by simp only [bne_iff_ne, ne_eq]; rintro rfl; exact h (List.mem_cons_self ..)
  rw [List.cons_append, List.dropWhile_cons, if_pos hb, ih (fun hm => h (List.mem_cons_of_mem _ hm))]
theorem cutAt_eq (l : List UInt8) (c : UInt8) : cutAt l c = (upL l c, aftL l c, decide (c ∈ l)) := by
 unfold cutAt
 by_cases h : c ∈ l
 ·rw [if_pos h, decide_eq_true h]; rfl
 ·rw [if_neg h, up_no h, decide_eq_false h]
  unfold aftL
  rw [drop_no h]
  rfl
theorem up_len (l : List UInt8) (c : UInt8) : (upL l c).length ≤ l.length := by
 have := (List.takeWhile_prefix (· != c) (l := l)).length_le
 exact this
theorem no_tw : ∀ (l : List UInt8) (c : UInt8), c ∉ l.takeWhile (· != c)
 | [], c => by simp
 | b :: l, c => by
  by_cases hb : (b != c) = true
  ·rw [List.takeWhile_cons, if_pos hb, List.mem_cons, not_or]
   exact ⟨fun e => by rw [e] at hb; simp at hb, no_tw l c⟩
  ·rw [List.takeWhile_cons, if_neg hb]; simp
theorem up_lt {l : List UInt8} {c : UInt8} (h : c ∈ l) : (upL l c).length < l.length := by
 have h1 := List.takeWhile_append_dropWhile (p := (· != c)) (l := l)
 have h2 : l.dropWhile (· != c) ≠ [] := fun e => by
  have : c ∈ l.takeWhile (· != c) := by rw [e, List.append_nil] at h1; rw [h1]; exact h
  exact no_tw l c this
 have h3 := congrArg List.length h1
 rw [List.length_append] at h3
 have := List.length_pos_iff.2 h2
 unfold upL
 omega
theorem aft_len (l : List UInt8) (c : UInt8) : (aftL l c).length ≤ l.length := by
 unfold aftL
 have h1 := (List.dropWhile_suffix (· != c) (l := l)).length_le
 rw [List.length_tail]
 omega
theorem cut_f (s : ByteArray) (c : UInt8) (hs : s.size < 4294967281) : strings_Cut.f s (⟨#[c]⟩ : ByteArray) = some (⟨(upL (L s) c).toArray⟩, ⟨(aftL (L s) c).toArray⟩, decide (c ∈ L s)) := by
 unfold strings_Cut.f
 rw [if_pos ⟨rfl, hs⟩]
 have e : ((⟨#[c]⟩ : ByteArray).data.toList.headD 0) = c := rfl
 rw [e, cutAt_eq]
theorem split_l0 (s : ByteArray) (c : UInt8) (hs : s.size ≤ 1000000000000) : ∀ (l : List UInt8) (acc : List ByteArray) (fr i k : Nat), (L s).drop i = l → fr ≤ i → i ≤ s.size → acc.length ≤ i → l.length < k →
  ∃ q qs, spec_l1Split.l0 k s (c.toNat : Int) acc (fr : Int) (i : Int) = some (acc ++ q :: qs) ∧ qs.length = l.count c ∧ L q = ((L s).drop fr).take (i - fr) ++ upL l c
 | [], acc, fr, i, k, h, hf, hi, ha, hk => by
  obtain ⟨k, rfl⟩ : ∃ m, k = m + 1 := ⟨k - 1, by omega⟩
  have hsz := drop_nil_iff.1 h
  have hi' : i = s.size := by omega
  simp only [spec_l1Split.l0]
  rw [if_neg (by omega), if_pos (by omega), if_pos (by omega), if_pos (by omega)]
  refine ⟨_, [], rfl, rfl, ?_⟩
  rw [L_extract, Int.toNat_natCast, hi', size_L]
  simp [upL]
 | b :: l, acc, fr, i, k, h, hf, hi, ha, hk => by
  obtain ⟨k, rfl⟩ : ∃ m, k = m + 1 := ⟨k - 1, by omega⟩
  obtain ⟨e1, e2, e3⟩ := bt_drop h
  simp only [List.length_cons] at hk
  simp only [spec_l1Split.l0]
  rw [if_pos (by omega), if_pos (by omega), e1]
  by_cases e : b = c
  ·subst e
   rw [if_pos rfl, if_pos (by omega), if_pos (by omega), if_pos (by omega), if_pos (by omega), wrap_up (n := s.size) (by omega) (by omega) (by omega), show ((i : Int) + 1) = ((i + 1 : Nat) : Int) from by omega]
   obtain ⟨q, qs, h1, h2, _⟩ := split_l0 s b hs l (acc ++ [s.extract (fr : Int).toNat (i : Int).toNat]) (i + 1) (i + 1) k e2 (by omega) (by omega) (by simp; omega) (by omega)
   refine ⟨s.extract fr i, q :: qs, ?_, by simp [h2], ?_⟩
   ·rw [h1]; simp
   ·rw [L_extract]; simp [upL]
  ·rw [if_neg (fun hh => e ((byte_eq _ _).1 hh)), wrap_up (n := s.size) (by omega) (by omega) (by omega), show ((i : Int) + 1) = ((i + 1 : Nat) : Int) from by omega]
   obtain ⟨q, qs, h1, h2, h3⟩ := split_l0 s c hs l acc fr (i + 1) k e2 (by omega) (by omega) (by omega) (by omega)
   refine ⟨q, qs, h1, by rw [h2, List.count_cons]; simp [e], ?_⟩
   rw [h3]
   have hb : (b != c) = true := by simpa using e
   have hup : upL (b :: l) c = b :: upL l c := by unfold upL; rw [List.takeWhile_cons, if_pos hb]
   rw [hup]
   have hlen : i - fr < ((L s).drop fr).length := by rw [List.length_drop, ← size_L]; omega
   have hget : ((L s).drop fr)[i - fr]'hlen = b := by
    rw [List.getElem_drop]
    have hi2 : i < (L s).length := by rw [← size_L]; exact e3
    have := List.drop_eq_getElem_cons hi2
    rw [h] at this
    injection this with t1 _
    rw [t1]
    congr 1
    omega
   rw [show i + 1 - fr = (i - fr) + 1 from by omega, List.take_succ_eq_append_getElem hlen, hget]
   simp
theorem split_f (s : ByteArray) (c : UInt8) (k : Nat) (hs : s.size ≤ 1000000000000) (hk : s.size < k) :
  ∃ q qs, spec_l1Split.f k s (c.toNat : Int) = some (q :: qs) ∧ qs.length = (L s).count c ∧ L q = upL (L s) c := by
 obtain ⟨q, qs, h1, h2, h3⟩ := split_l0 s c hs (L s) [] 0 0 k rfl (by omega) (by omega) (by simp) (by rw [← size_L]; exact hk)
 exact ⟨q, qs, h1, h2, by simpa using h3⟩
def decI (_n : Nat) (line : List UInt8) : List UInt8 × List UInt8 := (upL (aftL (upL line 35) 32) 64, aftL (aftL (upL line 35) 32) 64)
def goodI (n : Nat) (line : List UInt8) : Bool := validRec (decI n line).1 (decI n line).2 && decide (encL n (decI n line).1 (decI n line).2 = line ++ [10])
theorem no_in_itoa {n : Nat} {b : UInt8} (h : b.toNat < 48) : b ∉ Lib.itoa (n : Int) := fun hm => by have := itoa_dig (n := (n : Int)) (by omega) b hm; omega
theorem enc_cuts {n : Nat} {c r line : List UInt8} (hv : validRec c r = true) (he : encL n c r = line ++ [10]) :
  upL line 35 = textL n c r ∧ aftL (textL n c r) 32 = c ++ 64 :: r ∧ upL (c ++ 64 :: r) 64 = c ∧ aftL (c ++ 64 :: r) 64 = r := by
 have hl : sealL (textL n c r) = line := by
  unfold encL at he
  exact (List.append_inj' he rfl).1
 have h35 := text_no35 (n := (n : Int)) (by omega) hv
 obtain ⟨_, _, _, h64, _, _⟩ := valid_parts hv
 refine ⟨?_, ?_, up_mid h64, aft_mid h64⟩
 ·rw [← hl]
  unfold sealL
  rw [List.append_assoc]
  exact up_mid h35
 ·unfold textL
  rw [show Lib.itoa (n : Int) ++ [32] ++ c ++ [64] ++ r = Lib.itoa (n : Int) ++ 32 :: (c ++ 64 :: r) from by simp]
  exact aft_mid (no_in_itoa (by decide))
theorem goodI_of {n : Nat} {c r line : List UInt8} (hv : validRec c r = true) (he : encL n c r = line ++ [10]) : goodI n line = true ∧ decI n line = (c, r) := by
 obtain ⟨h1, h2, h3, h4⟩ := enc_cuts hv he
 have hd : decI n line = (c, r) := by unfold decI; rw [h1, h2, h3, h4]
 refine ⟨?_, hd⟩
 unfold goodI
 rw [hd, hv, decide_eq_true he]
 rfl
theorem decode_f (n : Nat) (line : ByteArray) (k : Nat) (hn : n < 60) (hs : line.size ≤ 100000000000) (hk : 2000100 + 2 * line.size < k) :
  ∃ c r, spec_l12Decode.f k line (n : Int) = some (c, r, goodI n (L line)) ∧ (goodI n (L line) = true → (L c, L r) = decI n (L line)) := by
 obtain ⟨k, rfl⟩ : ∃ m, k = m + 1 := ⟨k - 1, by omega⟩
 have hi := itoa_small (n := (n : Int)) (by omega) (by omega)
 obtain ⟨q, qs, h1, h2, h3⟩ := split_f line 35 (k + 1) (by omega) (by omega)
 have hq : q.size ≤ line.size := by rw [size_L, h3, size_L]; exact up_len _ _
 unfold spec_l12Decode.f
 rw [num_eq (n : Int) (k + 1) (by omega) (by omega) (by omega), Option.bind_some, B_size, if_pos (by omega), show (35 : Int) = ((35 : UInt8).toNat : Int) from rfl, h1, Option.bind_some, if_pos (by simp)]
 have hrd : rdOf ByteArray.empty (q :: qs) 0 = q := rfl
 rw [hrd]
 have bad : goodI n (L line) = false → ∀ c r, validRec c r = true → encL n c r = L line ++ [10] → False := fun hb c r hv he => by rw [(goodI_of hv he).1] at hb; cases hb
 have ahead : ((⟨(Lib.itoa (n : Int)).toArray⟩ : ByteArray) ++ (⟨#[32]⟩ : ByteArray)) = ⟨(Lib.itoa (n : Int) ++ [32]).toArray⟩ := by apply ext_L; rw [L_append]
 have nohead : ¬ (Lib.itoa (n : Int) ++ [32]) <+: L q → goodI n (L line) = false := fun hp => by
  cases hg : goodI n (L line) with
  | false => rfl
  | true =>
   unfold goodI at hg
   simp only [Bool.and_eq_true, decide_eq_true_eq] at hg
   obtain ⟨e1, _⟩ := enc_cuts hg.1 hg.2
   refine absurd ?_ hp
   rw [h3, e1]
   unfold textL
   exact ⟨(decI n (L line)).1 ++ 64 :: (decI n (L line)).2, by simp⟩
 by_cases hlt : ((q.size : Int)) < (((Lib.itoa (n : Int)).length : Int) + 1)
 ·rw [if_pos hlt]
  simp only [spec_l12Decode.j0]
  rw [if_pos trivial]
  have hg := nohead (fun hp => by
   have := hp.length_le
   rw [List.length_append, List.length_singleton, ← size_L] at this
   omega)
  exact ⟨_, _, by rw [hg], fun h => by rw [hg] at h; cases h⟩
 ·rw [if_neg hlt, if_pos (by omega), if_pos (by omega), ahead]
  have htk : (q.extract 0 ((((Lib.itoa (n : Int)).length : Int) + 1) : Int).toNat).toList = (L q).take ((Lib.itoa (n : Int)).length + 1) := by
   rw [L_toList, L_extract]
   simp only [List.drop_zero, Nat.sub_zero]
   congr 1
  rw [htk, L_toList, L_mk (Lib.itoa (n : Int) ++ [32])]
  by_cases hp : (L q).take ((Lib.itoa (n : Int)).length + 1) = Lib.itoa (n : Int) ++ [32]
  ·rw [show ((L q).take ((Lib.itoa (n : Int)).length + 1) != Lib.itoa (n : Int) ++ [32]) = false from by rw [bne_eq_false_iff_eq]; exact hp]
   simp only [spec_l12Decode.j0]
   have hsz : (⟨(Lib.itoa (n : Int) ++ [32]).toArray⟩ : ByteArray).size = (Lib.itoa (n : Int)).length + 1 := by rw [B_size]; simp
   rw [if_neg (by simp), hsz, if_pos (by omega), if_pos (by omega)]
   generalize hrest : q.extract ((Lib.itoa (n : Int)).length + 1) q.size = rest
   have hL : L rest = (L q).drop ((Lib.itoa (n : Int)).length + 1) := by
    rw [← hrest, L_extract, size_L]
    exact List.take_of_length_le (by simp)
   have hrs : rest.size = q.size - ((Lib.itoa (n : Int)).length + 1) := by rw [size_L, hL, List.length_drop, ← size_L]
   have hqq : L q = Lib.itoa (n : Int) ++ 32 :: L rest := by
    have := List.take_append_drop ((Lib.itoa (n : Int)).length + 1) (L q)
    rw [hp, ← hL] at this
    rw [← this]
    simp
   obtain ⟨p, ps, g1, g2, g3⟩ := split_f rest 64 k (by omega) (by omega)
   have hpr : p.size ≤ rest.size := by rw [size_L, g3, size_L]; exact up_len _ _
   rw [show (64 : Int) = ((64 : UInt8).toNat : Int) from rfl, g1, Option.bind_some, if_pos (by simp)]
   have hrd2 : rdOf ByteArray.empty (p :: ps) 0 = p := rfl
   rw [hrd2]
   have hdec : aftL (upL (L line) 35) 32 = L rest := by rw [← h3, hqq]; exact aft_mid (no_in_itoa (by decide))
   have hdI : decI n (L line) = (upL (L rest) 64, aftL (L rest) 64) := by unfold decI; rw [hdec]
   by_cases hm : (64 : UInt8) ∈ L rest
   ·have hlt2 : p.size < rest.size := by rw [size_L, g3, size_L]; exact up_lt hm
    rw [if_neg (by omega), wrap_in (by omega) (by omega), if_pos (by omega), if_pos (by omega)]
    have hrest2 : rest.extract (((p.size : Int) + 1) : Int).toNat (q.size - ((Lib.itoa (n : Int)).length + 1)) = ⟨(aftL (L rest) 64).toArray⟩ := by
     apply ext_L
     rw [← hrs, L_extract, size_L rest, List.take_of_length_le (by simp), show (((p.size : Int) + 1) : Int).toNat = p.size + 1 from by omega, size_L p, g3]
     unfold aftL upL
     rw [← drop_takeWhile, List.tail_drop]
    rw [hrest2]
    have hc : L p = (decI n (L line)).1 := by rw [hdI, g3]
    have hr : aftL (L rest) 64 = (decI n (L line)).2 := by rw [hdI]
    have hasz : (⟨(aftL (L rest) 64).toArray⟩ : ByteArray).size ≤ rest.size := by rw [B_size, size_L]; exact aft_len _ _
    rw [spec_valid p _ k (by omega) (by omega) (by omega) (by omega), Option.bind_some, L_mk (aftL (L rest) 64), hc, hr]
    by_cases hv : validRec (decI n (L line)).1 (decI n (L line)).2 = true
    ·rw [if_pos hv, spec_line (n : Int) p _ k (by omega) (by omega) (by omega) (by rw [← hr]; omega) (by rw [← hr]; omega), Option.bind_some, if_pos (by omega)]
     refine ⟨p, ⟨(decI n (L line)).2.toArray⟩, ?_, fun _ => Prod.ext hc rfl⟩
     refine congrArg some (Prod.ext rfl (Prod.ext rfl ?_))
     show (_ == _) = goodI n (L line)
     unfold goodI
     rw [hv, Bool.true_and, L_toList, L_toList, L_append, hc, L_mk (decI n (L line)).2, Bool.eq_iff_iff, beq_iff_eq, decide_eq_true_eq]
    ·rw [if_neg hv]
     have hg : goodI n (L line) = false := by unfold goodI; rw [show validRec (decI n (L line)).1 (decI n (L line)).2 = false from by simpa using hv]; rfl
     exact ⟨_, _, by rw [hg], fun h => by rw [hg] at h; cases h⟩
   ·have hpe : p.size = rest.size := by rw [size_L, g3, up_no hm, size_L]
    rw [if_pos (by omega)]
    have hg : goodI n (L line) = false := by
     cases hg : goodI n (L line) with
     | false => rfl
     | true =>
      unfold goodI at hg
      simp only [Bool.and_eq_true, decide_eq_true_eq] at hg
      obtain ⟨e1, e2, _⟩ := enc_cuts hg.1 hg.2
      rw [e1] at hdec
      rw [e2] at hdec
      refine absurd ?_ hm
      rw [← hdec]
      simp
    exact ⟨_, _, by rw [hg], fun h => by rw [hg] at h; cases h⟩
  ·rw [show ((L q).take ((Lib.itoa (n : Int)).length + 1) != Lib.itoa (n : Int) ++ [32]) = true from by rw [bne_iff_ne]; exact hp]
   simp only [spec_l12Decode.j0]
   rw [if_pos trivial]
   have hg := nohead (fun hpre => hp (by
    have := List.prefix_iff_eq_take.1 hpre
    rw [List.length_append, List.length_singleton] at this
    exact this.symm))
   exact ⟨_, _, by rw [hg], fun h => by rw [hg] at h; cases h⟩
def rdL : Nat → Nat → List UInt8 → List S38 × Nat
 | 0, _, _ => ([], 0)
 | d + 1, n, t => if n < 60 ∧ (10 : UInt8) ∈ t ∧ goodI n (upL t 10) = true then (⟨⟨(decI n (upL t 10)).1.toArray⟩, ⟨(decI n (upL t 10)).2.toArray⟩⟩ :: (rdL d (n + 1) (aftL t 10)).1, (upL t 10).length + 1 + (rdL d (n + 1) (aftL t 10)).2) else ([], 0)
theorem open_eq (s : ByteArray) (hs : s.size ≤ 2000000) : ∀ (d i : Nat) (acc : List S38), i ≤ s.size → s.size - i ≤ d →
  ∃ (l : List S38) (n : Nat), n ≤ s.size ∧ (l.length ≤ 60 ∨ l = acc) ∧ (l = acc ++ (rdL d acc.length ((L s).drop i)).1 ∧ n = i + (rdL d acc.length ((L s).drop i)).2) ∧ ∀ k, 9000000 + 2 * d < k → impl_readRecords.l0 k s acc (i : Int) = some (l, (n : Int)) ∧ spec_l12Open.l0 k s acc (i : Int) = some (l, (n : Int)) := by
 intro d
 induction d with
 | zero =>
  intro i acc hi hd
  have hie : i = s.size := by omega
  refine ⟨acc, i, hi, .inr rfl, ⟨by simp [rdL], by simp [rdL]⟩, fun k hk => ?_⟩
  obtain ⟨k, rfl⟩ : ∃ m, k = m + 2 := ⟨k - 2, by omega⟩
  constructor
  ·simp only [impl_readRecords.l0]
   by_cases h60 : (acc.length : Int) < 60
   ·have he : L (s.extract i s.size) = [] := by rw [L_extract, hie, size_L]; simp
    have hez : (s.extract i s.size).size = 0 := by rw [size_L, he]; rfl
    rw [if_pos h60, if_pos (by omega), if_pos (by omega), Int.toNat_natCast, cut_f _ 10 (by omega), Option.bind_some, he]
    simp only [upL, aftL, List.takeWhile_nil, List.dropWhile_nil, List.tail_nil]
    rw [cut_f _ 35 (by rw [B_size]; decide), Option.bind_some, L_mk]
    simp only [upL, aftL, List.takeWhile_nil, List.dropWhile_nil, List.tail_nil]
    rw [cut_f _ 32 (by rw [B_size]; decide), Option.bind_some, L_mk]
    simp only [upL, aftL, List.takeWhile_nil, List.dropWhile_nil, List.tail_nil]
    rw [cut_f _ 64 (by rw [B_size]; decide), Option.bind_some, L_mk]
    simp only [upL, aftL, List.takeWhile_nil, List.dropWhile_nil, List.tail_nil]
    rw [impl_enc _ _ _ _ (by rw [B_size]; decide) (by rw [B_size]; decide) (by rw [B_size]; simp; omega), Option.bind_some, if_neg (by simp)]
   ·rw [if_neg h60]
  ·simp only [spec_l12Open.l0]
   rw [if_neg (by omega)]
   simp only [spec_l12Open.j1]
   rw [if_neg (by simp)]
 | succ d ih =>
  intro i acc hi hd
  by_cases h60 : (acc.length : Int) < 60
  ·generalize hx : s.extract i s.size = x
   have hLx : L x = (L s).drop i := by rw [← hx, L_extract, size_L]; exact List.take_of_length_le (by simp)
   have hxs : x.size = s.size - i := by rw [size_L, hLx, List.length_drop, ← size_L]
   generalize hline : (⟨(upL (L x) 10).toArray⟩ : ByteArray) = line
   have hLl : L line = upL (L x) 10 := by rw [← hline]
   have hls : line.size ≤ x.size := by rw [size_L, hLl, size_L]; exact up_len _ _
   have hal : acc.length < 60 := by omega
   have hb : (⟨(upL (L line) 35).toArray⟩ : ByteArray).size ≤ line.size := by rw [B_size, size_L]; exact up_len _ _
   have hr : (⟨(aftL (upL (L line) 35) 32).toArray⟩ : ByteArray).size ≤ line.size := by rw [B_size]; have := aft_len (upL (L line) 35) 32; have h2 := up_len (L line) 35; rw [size_L]; omega
   have hc : (⟨(upL (aftL (upL (L line) 35) 32) 64).toArray⟩ : ByteArray).size ≤ line.size := by rw [B_size] at hr ⊢; have := up_len (aftL (upL (L line) 35) 32) 64; omega
   have hrp : (⟨(aftL (aftL (upL (L line) 35) 32) 64).toArray⟩ : ByteArray).size ≤ line.size := by rw [B_size] at hr ⊢; have := aft_len (aftL (upL (L line) 35) 32) 64; omega
   have impl_step : ∀ k, 9000000 < k → impl_readRecords.l0 (k + 1) s acc (i : Int) =
     if (10 : UInt8) ∈ L x ∧ goodI acc.length (L line) = true then impl_readRecords.l0 k s (acc ++ [⟨⟨(decI acc.length (L line)).1.toArray⟩, ⟨(decI acc.length (L line)).2.toArray⟩⟩]) ((i + line.size + 1 : Nat) : Int) else some (acc, (i : Int)) := by
    intro k hk
    simp only [impl_readRecords.l0]
    rw [if_pos h60, if_pos (by omega), if_pos (by omega), Int.toNat_natCast, hx, cut_f x 10 (by omega), Option.bind_some, hline]
    dsimp only
    rw [cut_f line 35 (by omega), Option.bind_some]
    dsimp only
    rw [cut_f _ 32 (by omega), Option.bind_some, L_mk (upL (L line) 35)]
    dsimp only
    rw [cut_f _ 64 (by omega), Option.bind_some, L_mk (aftL (upL (L line) 35) 32)]
    dsimp only
    rw [impl_enc _ _ _ _ (by omega) (by omega) (by omega), Option.bind_some]
    by_cases hm : (10 : UInt8) ∈ L x
    ·rw [if_pos (by simpa using hm)]
     by_cases hv : validRec (upL (aftL (upL (L line) 35) 32) 64) (aftL (aftL (upL (L line) 35) 32) 64) = true
     ·have henc : encR (acc.length : Int) ⟨(upL (aftL (upL (L line) 35) 32) 64).toArray⟩ ⟨(aftL (aftL (upL (L line) 35) 32) 64).toArray⟩ = (⟨(encL (acc.length : Int) (upL (aftL (upL (L line) 35) 32) 64) (aftL (aftL (upL (L line) 35) 32) 64)).toArray⟩, true) := by
       unfold encR
       rw [L_mk (upL (aftL (upL (L line) 35) 32) 64), L_mk (aftL (aftL (upL (L line) 35) 32) 64), if_pos ⟨by omega, by omega, hv⟩]
      rw [henc]
      dsimp only
      rw [if_pos rfl, if_pos (by omega), L_toList, L_toList, L_append, L_mk (encL (acc.length : Int) (upL (aftL (upL (L line) 35) 32) 64) (aftL (aftL (upL (L line) 35) 32) 64)), L_mk [10]]
      by_cases he : encL (acc.length : Int) (upL (aftL (upL (L line) 35) 32) 64) (aftL (aftL (upL (L line) 35) 32) 64) = L line ++ [10]
      ·rw [if_pos he, if_pos (by omega), if_pos ⟨hm, (goodI_of hv he).1⟩, wrap_in (i := (i : Int) + (line.size : Int)) (by omega) (by omega), wrap_in (by omega) (by omega)]
       rfl
      ·rw [if_neg he, if_neg (fun h => he (by
        have h2 := h.2
        unfold goodI decI at h2
        simp only [Bool.and_eq_true, decide_eq_true_eq] at h2
        exact h2.2))]
     ·have henc : encR (acc.length : Int) ⟨(upL (aftL (upL (L line) 35) 32) 64).toArray⟩ ⟨(aftL (aftL (upL (L line) 35) 32) 64).toArray⟩ = (⟨#[]⟩, false) := by
       unfold encR
       rw [L_mk (upL (aftL (upL (L line) 35) 32) 64), L_mk (aftL (aftL (upL (L line) 35) 32) 64), if_neg (fun h => hv h.2.2)]
      rw [henc]
      dsimp only
      rw [if_neg (by simp), if_neg (fun h => hv (by
       have h2 := h.2
       unfold goodI decI at h2
       simp only [Bool.and_eq_true, decide_eq_true_eq] at h2
       exact h2.1))]
    ·rw [if_neg (by simpa using hm), if_neg (fun h => hm h.1)]
   have spec_step : ∀ k, 9000000 < k → spec_l12Open.l0 (k + 2) s acc (i : Int) =
     if (10 : UInt8) ∈ L x ∧ goodI acc.length (L line) = true then spec_l12Open.l0 k s (acc ++ [⟨⟨(decI acc.length (L line)).1.toArray⟩, ⟨(decI acc.length (L line)).2.toArray⟩⟩]) ((i + line.size + 1 : Nat) : Int) else some (acc, (i : Int)) := by
    intro k hk
    simp only [spec_l12Open.l0]
    by_cases hlt : (i : Int) < (s.size : Int)
    ·rw [if_pos hlt]
     simp only [spec_l12Open.j1]
     rw [if_pos (by simpa using h60), if_pos (by omega), if_pos (by omega), Int.toNat_natCast, hx]
     obtain ⟨q, qs, h1, h2, h3⟩ := split_f x 10 k (by omega) (by omega)
     rw [show (10 : Int) = ((10 : UInt8).toNat : Int) from rfl, h1, Option.bind_some, if_pos (by simp)]
     have hq : rdOf ByteArray.empty (q :: qs) 0 = line := by
      show q = line
      apply ext_L
      rw [h3, hLl]
     rw [hq]
     obtain ⟨c, r, g1, g2⟩ := decode_f acc.length line k hal (by omega) (by omega)
     rw [g1, Option.bind_some]
     by_cases hm : (10 : UInt8) ∈ L x
     ·have hcnt : 0 < qs.length := by rw [h2]; exact List.count_pos_iff.2 hm
      rw [if_neg (by simp only [List.length_cons]; omega)]
      by_cases hg : goodI acc.length (L line) = true
      ·rw [if_pos hg, if_pos (by omega), if_pos ⟨hm, hg⟩, wrap_in (i := (i : Int) + (line.size : Int)) (by omega) (by omega), wrap_in (by omega) (by omega)]
       have h4 := g2 hg
       have e1 : c = ⟨(decI acc.length (L line)).1.toArray⟩ := ext_L (by rw [← h4])
       have e2 : r = ⟨(decI acc.length (L line)).2.toArray⟩ := ext_L (by rw [← h4])
       rw [e1, e2]
       rfl
      ·rw [if_neg hg, if_neg (fun h => hg h.2)]
     ·have hcnt : qs.length = 0 := by rw [h2]; exact List.count_eq_zero.2 hm
      rw [if_pos (by simp only [List.length_cons]; omega), if_neg (fun h => hm h.1)]
    ·rw [if_neg hlt]
     simp only [spec_l12Open.j1]
     have hm : (10 : UInt8) ∉ L x := by
      have : L x = [] := List.eq_nil_of_length_eq_zero (by rw [← size_L]; omega)
      rw [this]; simp
     rw [if_neg (by simp), if_neg (fun h => hm h.1)]
   by_cases hgo : (10 : UInt8) ∈ L x ∧ goodI acc.length (L line) = true
   ·have hlt := up_lt hgo.1
    rw [← hLl, ← size_L, ← size_L] at hlt
    have haft : (L s).drop (i + line.size + 1) = aftL (L x) 10 := by
     rw [Nat.add_assoc, ← List.drop_drop, ← hLx, size_L, hLl]
     unfold aftL upL
     rw [← drop_takeWhile, List.tail_drop]
    have hrd : rdL (d + 1) acc.length ((L s).drop i) = (⟨⟨(decI acc.length (L line)).1.toArray⟩, ⟨(decI acc.length (L line)).2.toArray⟩⟩ :: (rdL d (acc.length + 1) (aftL (L x) 10)).1, (L line).length + 1 + (rdL d (acc.length + 1) (aftL (L x) 10)).2) := by
     rw [← hLx, rdL, if_pos ⟨hal, hgo.1, by rw [← hLl]; exact hgo.2⟩, ← hLl]
    obtain ⟨l, n, hn, hll, ⟨hl2, hn2⟩, h⟩ := ih (i + line.size + 1) (acc ++ [⟨⟨(decI acc.length (L line)).1.toArray⟩, ⟨(decI acc.length (L line)).2.toArray⟩⟩]) (by omega) (by omega)
    refine ⟨l, n, hn, .inl (hll.elim id (fun e => by rw [e, List.length_append]; simp; omega)), ?_, fun k hk => ?_⟩
    ·rw [haft, List.length_append, List.length_singleton] at hl2 hn2
     rw [hrd]
     exact ⟨by rw [hl2, List.append_assoc]; rfl, by rw [hn2, size_L]; dsimp only; omega⟩
    obtain ⟨k, rfl⟩ : ∃ m, k = m + 2 := ⟨k - 2, by omega⟩
    rw [show k + 2 = (k + 1) + 1 from rfl, impl_step (k + 1) (by omega), if_pos hgo]
    refine ⟨(h (k + 1) (by omega)).1, ?_⟩
    rw [show k + 1 + 1 = k + 2 from rfl, spec_step k (by omega), if_pos hgo]
    exact (h k (by omega)).2
   ·have hrd : rdL (d + 1) acc.length ((L s).drop i) = ([], 0) := by
     rw [← hLx, rdL, if_neg (fun h => hgo ⟨h.2.1, by rw [hLl]; exact h.2.2⟩)]
    refine ⟨acc, i, hi, .inr rfl, ⟨by rw [hrd]; simp, by rw [hrd]; simp⟩, fun k hk => ?_⟩
    obtain ⟨k, rfl⟩ : ∃ m, k = m + 2 := ⟨k - 2, by omega⟩
    rw [show k + 2 = (k + 1) + 1 from rfl, impl_step (k + 1) (by omega), if_neg hgo]
    refine ⟨rfl, ?_⟩
    rw [show k + 1 + 1 = k + 2 from rfl, spec_step k (by omega), if_neg hgo]
  ·have hrd : rdL (d + 1) acc.length ((L s).drop i) = ([], 0) := by
    rw [rdL, if_neg (fun h => h60 (by omega))]
   refine ⟨acc, i, hi, .inr rfl, ⟨by rw [hrd]; simp, by rw [hrd]; simp⟩, fun k hk => ?_⟩
   obtain ⟨k, rfl⟩ : ∃ m, k = m + 2 := ⟨k - 2, by omega⟩
   constructor
   ·simp only [impl_readRecords.l0]
    rw [if_neg h60]
   ·simp only [spec_l12Open.l0]
    by_cases hlt : (i : Int) < (s.size : Int)
    ·rw [if_pos hlt]
     simp only [spec_l12Open.j1]
     rw [if_neg (by simpa using h60)]
    ·rw [if_neg hlt]
     simp only [spec_l12Open.j1]
     rw [if_neg (by simp)]
theorem read_eq2 (s : ByteArray) (hs : s.size ≤ 2000000) : (rdL s.size 0 (L s)).2 ≤ s.size ∧ (rdL s.size 0 (L s)).1.length ≤ 60 ∧ ∀ k, 20000000 < k → impl_readRecords.f k s = some ((rdL s.size 0 (L s)).1, ((rdL s.size 0 (L s)).2 : Int)) ∧ spec_l12Open.f k s = some ((rdL s.size 0 (L s)).1, ((rdL s.size 0 (L s)).2 : Int)) := by
 obtain ⟨l, n, hn, hl, ⟨e1, e2⟩, h⟩ := open_eq s hs s.size 0 [] (by omega) (by omega)
 rw [List.nil_append, List.length_nil, List.drop_zero] at e1
 rw [List.length_nil, List.drop_zero, Nat.zero_add] at e2
 subst e1
 subst e2
 exact ⟨hn, hl.elim id (fun e => by rw [e]; simp), fun k hk => h k (by omega)⟩
end Go.Proofs.YtgclcjohnnpejaaDoor.PureL
end
