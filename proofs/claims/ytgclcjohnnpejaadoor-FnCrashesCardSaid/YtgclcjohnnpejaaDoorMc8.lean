-- texts of this session, and of the kit's print, cut to what the claim leans on
import Derived.Test.YtgclcjohnnpejaaDoorMc4
import Derived.Test.YtgclcjohnnpejaaDoorMc5
import Derived.Test.YtgclcjohnnpejaaDoorMc6
import Derived.Test.YtgclcjohnnpejaaDoorMc7
import Derived.Test.YtgclcjohnnpejaaDoorMc2
import Derived.Lib.Zigzag
import Derived.Lib.VarintBits
section
namespace Go.Proofs.YtgclcjohnnpejaaDoor.Pr
open Go.RowKit Go.Proofs.YtgclcjohnnpejaaDoorW.PrintWords Go.Proofs.YtgclcjohnnpejaaDoorW.PrintLast Go.Proofs.YtgclcjohnnpejaaDoorW.PrintMore
attribute [local go_sem] max2_int min2_int max_two min_two max_three min_three max_four min_four
set_option linter.unusedVariables false
set_option linter.unusedSimpArgs false
attribute [local go_sem high] eqA42
theorem z41_0 {P : Prop} (h : P := by repeat (first | (with_reducible first | exact HB.out | apply below_alloc | apply pw_below_drewN | apply below_drew1 | refine below_set ?_ GE787.out | refine below_set ?_ GE801.out | refine below_set ?_ GE807.out | refine below_set ?_ GE813.out) | exact HB.out)) : P := h
theorem z41_1 {P : Prop} (h : P := by (with_reducible repeat (first | refine blk_drewN ?_ _ | refine blk_drew ?_ | refine blk_alloc ?_ _)); exact BK787.out) : P := h
theorem z41_2 {P : Prop} (h : P := by (with_reducible repeat (first | refine blk_drewN ?_ _ | refine blk_drew ?_ | refine blk_alloc ?_ _)); refine blk_put (cs := #[.string t802, .string t803, .int .i64 0]) ?_ 2 _ rfl; (with_reducible repeat (first | refine blk_drewN ?_ _ | refine blk_drew ?_ | refine blk_alloc ?_ _)); refine blk_put (cs := #[.string t802, .string (⟨#[]⟩ : ByteArray), .int .i64 0]) ?_ 1 _ rfl; (with_reducible repeat (first | refine blk_drewN ?_ _ | refine blk_drew ?_ | refine blk_alloc ?_ _)); refine blk_put (cs := #[.string (⟨#[]⟩ : ByteArray), .string (⟨#[]⟩ : ByteArray), .int .i64 0]) ?_ 0 _ rfl; (with_reducible repeat (first | refine blk_drewN ?_ _ | refine blk_drew ?_ | refine blk_alloc ?_ _)); exact BK807.out) : P := h
theorem z41_3 {P : Prop} (h : P := by (try simp only [List.map_toArray, List.map_cons, List.map_nil]); first | done | rfl | (simp only [List.length_drop, List.length_take]; rfl)) : P := h
theorem z41_4 {P : Prop} (h : P := by repeat (first | (with_reducible first | exact HB.out | apply below_alloc | apply pw_below_drewN | apply below_drew1 | refine below_set ?_ GE787.out | refine below_set ?_ GE801.out | refine below_set ?_ GE807.out) | exact HB.out)) : P := h
theorem z41_5 {P : Prop} (h : P := by (with_reducible repeat (first | refine blk_drewN ?_ _ | refine blk_drew ?_ | refine blk_alloc ?_ _)); exact BK801.out) : P := h
theorem z41_6 {P : Prop} (h : P := by (with_reducible repeat (first | refine blk_drewN ?_ _ | refine blk_drew ?_ | refine blk_alloc ?_ _)); refine blk_put (cs := #[.string t808, .string t809, .int .i64 0]) ?_ 2 _ rfl; (with_reducible repeat (first | refine blk_drewN ?_ _ | refine blk_drew ?_ | refine blk_alloc ?_ _)); refine blk_put (cs := #[.string t808, .string (⟨#[]⟩ : ByteArray), .int .i64 0]) ?_ 1 _ rfl; (with_reducible repeat (first | refine blk_drewN ?_ _ | refine blk_drew ?_ | refine blk_alloc ?_ _)); refine blk_put (cs := #[.string (⟨#[]⟩ : ByteArray), .string (⟨#[]⟩ : ByteArray), .int .i64 0]) ?_ 0 _ rfl; (with_reducible repeat (first | refine blk_drewN ?_ _ | refine blk_drew ?_ | refine blk_alloc ?_ _)); exact BK813.out) : P := h
theorem z41_7 {P : Prop} (h : P := by (with_reducible repeat (first | refine blk_drewN ?_ _ | refine blk_drew ?_ | refine blk_alloc ?_ _)); refine blk_far ?_ NB787_807.out _; (with_reducible repeat (first | refine blk_drewN ?_ _ | refine blk_drew ?_ | refine blk_alloc ?_ _)); refine blk_far ?_ NB787_807.out _; (with_reducible repeat (first | refine blk_drewN ?_ _ | refine blk_drew ?_ | refine blk_alloc ?_ _)); refine blk_far ?_ NB787_807.out _; (with_reducible repeat (first | refine blk_drewN ?_ _ | refine blk_drew ?_ | refine blk_alloc ?_ _)); exact BK787.out) : P := h
theorem z41_8 {P : Prop} (h : P := by (with_reducible repeat (first | refine blk_drewN ?_ _ | refine blk_drew ?_ | refine blk_alloc ?_ _)); refine blk_far ?_ NB801_807.out _; (with_reducible repeat (first | refine blk_drewN ?_ _ | refine blk_drew ?_ | refine blk_alloc ?_ _)); refine blk_far ?_ NB801_807.out _; (with_reducible repeat (first | refine blk_drewN ?_ _ | refine blk_drew ?_ | refine blk_alloc ?_ _)); refine blk_far ?_ NB801_807.out _; (with_reducible repeat (first | refine blk_drewN ?_ _ | refine blk_drew ?_ | refine blk_alloc ?_ _)); exact BK801.out) : P := h
theorem z41_9 {P : Prop} (h : P := by (with_reducible repeat (first | refine blk_drewN ?_ _ | refine blk_drew ?_ | refine blk_alloc ?_ _)); exact BK807.out) : P := h
theorem z41_10 {P : Prop} (h : P := by repeat (first | (with_reducible first | exact HB.out | apply below_alloc | apply pw_below_drewN | apply below_drew1 | refine below_set ?_ GE787.out) | exact HB.out)) : P := h
theorem z41_11 {P : Prop} (h : P := by (with_reducible repeat (first | refine blk_drewN ?_ _ | refine blk_drew ?_ | refine blk_alloc ?_ _)); refine blk_far ?_ NB787_813.out _; (with_reducible repeat (first | refine blk_drewN ?_ _ | refine blk_drew ?_ | refine blk_alloc ?_ _)); refine blk_far ?_ NB787_813.out _; (with_reducible repeat (first | refine blk_drewN ?_ _ | refine blk_drew ?_ | refine blk_alloc ?_ _)); refine blk_far ?_ NB787_813.out _; (with_reducible repeat (first | refine blk_drewN ?_ _ | refine blk_drew ?_ | refine blk_alloc ?_ _)); exact BK787.out) : P := h
theorem z41_12 {P : Prop} (h : P := by (with_reducible repeat (first | refine blk_drewN ?_ _ | refine blk_drew ?_ | refine blk_alloc ?_ _)); refine blk_far ?_ NB801_813.out _; (with_reducible repeat (first | refine blk_drewN ?_ _ | refine blk_drew ?_ | refine blk_alloc ?_ _)); refine blk_far ?_ NB801_813.out _; (with_reducible repeat (first | refine blk_drewN ?_ _ | refine blk_drew ?_ | refine blk_alloc ?_ _)); refine blk_far ?_ NB801_813.out _; (with_reducible repeat (first | refine blk_drewN ?_ _ | refine blk_drew ?_ | refine blk_alloc ?_ _)); exact BK801.out) : P := h
theorem z41_13 {P : Prop} (h : P := by (with_reducible repeat (first | refine blk_drewN ?_ _ | refine blk_drew ?_ | refine blk_alloc ?_ _)); refine blk_far ?_ NB807_813.out _; (with_reducible repeat (first | refine blk_drewN ?_ _ | refine blk_drew ?_ | refine blk_alloc ?_ _)); refine blk_far ?_ NB807_813.out _; (with_reducible repeat (first | refine blk_drewN ?_ _ | refine blk_drew ?_ | refine blk_alloc ?_ _)); refine blk_far ?_ NB807_813.out _; (with_reducible repeat (first | refine blk_drewN ?_ _ | refine blk_drew ?_ | refine blk_alloc ?_ _)); exact BK807.out) : P := h
theorem z41_14 {P : Prop} (h : P := by (with_reducible repeat (first | refine blk_drewN ?_ _ | refine blk_drew ?_ | refine blk_alloc ?_ _)); exact BK813.out) : P := h
theorem z41_15 {P : Prop} (h : P := by (with_reducible repeat (first | apply Kd.R_alloc | apply Kd.R_drewN | apply Kd.R_drew)); exact HO817.out) : P := h
theorem z41_16 {P : Prop} (h : P := by first | rfl | (simp [errW_none, errW_some] <;> rfl) | (simp [*, errW_none, errW_some] <;> rfl)) : P := h
theorem z41_17 {P : Prop} (h : P := by repeat (first | (with_reducible first | exact HB.out | apply below_alloc | apply pw_below_drewN | apply below_drew1 | refine below_set ?_ GE787.out | refine below_set ?_ GE801.out) | exact HB.out)) : P := h
theorem z41_18 {P : Prop} (h : P := by repeat (first | (with_reducible exact HR826.out) | (with_reducible refine Kd.C_alloc ?_ _) | (with_reducible refine Kd.C_drewN ?_ _) | (with_reducible refine Kd.C_drew ?_) | exact HR826.out)) : P := h
theorem z41_19 {P : Prop} (h : P := by repeat (first | (with_reducible first | exact HB.out | apply below_alloc | apply pw_below_drewN | apply below_drew1) | exact HB.out)) : P := h
theorem z41_20 {P : Prop} (h : P := by first | (with_reducible assumption) | assumption) : P := h
theorem z41_21 {P : Prop} (h : P := by first | rfl | (simp; done) | (simp [*]; done)) : P := h
theorem z41_22 {P : Prop} (h : P := by (with_reducible repeat (first | apply Kd.R_alloc | apply Kd.R_drewN | apply Kd.R_drew)); exact HO794.out) : P := h
theorem z41_23 {P : Prop} (h : P := by rw [hg]; exact Nat.ne_of_lt (blk_lt (g := gb787) (o := .cells #[.string t782, .string t783, .int .i64 t784] 42 (0, 0)) z41_1)) : P := h
theorem z41_24 {P : Prop} (h : P := by rw [hg]; exact Nat.ne_of_gt (blk_lt (g := gb787) (o := .cells #[.string t782, .string t783, .int .i64 t784] 42 (0, 0)) z41_1)) : P := h
mutual
def laws_FnCrashes.j0 : Nat → Int → Bool → ByteArray → Bool → Bool → ByteArray → ByteArray → Int → Option (Bool)
  | 0, _, _, _, _, _, _, _, _ => none
  | k + 1, x4, x5, x6, x7, x83, x788000, x788001, x788002 => if x83 = true then (some false) else (if x7 = true then ((impl_RecoverLog.f k x6).bind fun bt808 => (if bt808.2.2.2.2 = true then ((impl_IsValidLog.f k bt808.1 bt808.2.1 bt808.2.2.1).bind fun t814 => (if t814 = true then (if bt808.2.2.2.1 < (x788000.size : Int) then (laws_FnCrashes.j1 k x4 x5 true x788000 x788001 x788002 bt808.1 bt808.2.1 bt808.2.2.1) else (laws_FnCrashes.j1 k x4 x5 ((bt808.1.size : Int) != bt808.2.2.2.1) x788000 x788001 x788002 bt808.1 bt808.2.1 bt808.2.2.1)) else (laws_FnCrashes.j1 k x4 x5 true x788000 x788001 x788002 bt808.1 bt808.2.1 bt808.2.2.1))) else (laws_FnCrashes.j1 k x4 x5 true x788000 x788001 x788002 bt808.1 bt808.2.1 bt808.2.2.1))) else (some true))
def laws_FnCrashes.j1 : Nat → Int → Bool → Bool → ByteArray → ByteArray → Int → ByteArray → ByteArray → Int → Option (Bool)
  | 0, _, _, _, _, _, _, _, _, _ => none
  | k + 1, x4, x5, x112, x788000, x788001, x788002, x814000, x814001, x814002 => if x112 = true then (some false) else ((impl_LogRecords.f k x788000 x788001 x788002).bind fun bt815 => ((impl_LogRecords.f k x814000 x814001 x814002).bind fun bt819 => (if (bt819.1.length : Int) ≤ (bt815.1.length : Int) then (if 0 ≤ (bt819.1.length : Int) then ((laws_vRecords.f k bt819.1 (bt815.1.take ((bt819.1.length : Int) : Int).toNat)).bind fun t827 => (if t827 = true then (if x5 = true then (some true) else (if x4 < (x788001.size : Int) then (some true) else (some ((bt819.1.length : Int) == (bt815.1.length : Int))))) else (some false))) else (none)) else (some false))))
end
def laws_FnCrashes.f (k : Nat) (l0 : List Int) : Option (Bool) := (laws_vBig.f l0).bind fun t781 => (if t781 = true then (some true) else ((spec_DrawCrashLog.f k l0).bind fun bt782 => ((impl_CrashLog.f k bt782.1 bt782.2.1 bt782.2.2.1 bt782.2.2.2.1 bt782.2.2.2.2).bind fun bt788 => ((spec_CrashLog.f k bt782.1 bt782.2.1 bt782.2.2.1 bt782.2.2.2.1 bt782.2.2.2.2).bind fun bt790 => ((laws_vCut.f k l0 1).bind fun t792 => ((spec_DrawRecoverLog.f k t792).bind fun t795 => ((impl_RecoverLog.f k t795).bind fun bt796 => ((spec_RecoverLog.f k t795).bind fun bt802 => (if bt788.1.toList = bt790.1.toList then (if (bt788.2 != bt790.2) = true then (laws_FnCrashes.j0 k bt782.2.2.2.1 bt782.2.2.2.2 bt788.1 bt788.2 true bt782.1 bt782.2.1 bt782.2.2.1) else (if (!(bt796.1.toList == bt802.1.toList) || (!(bt796.2.1.toList == bt802.2.1.toList) || (!(bt796.2.2.1 == bt802.2.2.1)))) = true then (laws_FnCrashes.j0 k bt782.2.2.2.1 bt782.2.2.2.2 bt788.1 bt788.2 true bt782.1 bt782.2.1 bt782.2.2.1) else (if bt796.2.2.2.1 = bt802.2.2.2.1 then (laws_FnCrashes.j0 k bt782.2.2.2.1 bt782.2.2.2.2 bt788.1 bt788.2 (bt796.2.2.2.2 != bt802.2.2.2.2) bt782.1 bt782.2.1 bt782.2.2.1) else (laws_FnCrashes.j0 k bt782.2.2.2.1 bt782.2.2.2.2 bt788.1 bt788.2 true bt782.1 bt782.2.1 bt782.2.2.1)))) else (laws_FnCrashes.j0 k bt782.2.2.2.1 bt782.2.2.2.2 bt788.1 bt788.2 true bt782.1 bt782.2.1 bt782.2.2.1))))))))))
theorem laws_FnCrashes.mono_l : ∀ k, (∀ y0 y1 y2 y3 y4 y5 y6 y7, LeO (laws_FnCrashes.j0 k y0 y1 y2 y3 y4 y5 y6 y7) (laws_FnCrashes.j0 (k + 1) y0 y1 y2 y3 y4 y5 y6 y7)) ∧ (∀ y0 y1 y2 y3 y4 y5 y6 y7 y8, LeO (laws_FnCrashes.j1 k y0 y1 y2 y3 y4 y5 y6 y7 y8) (laws_FnCrashes.j1 (k + 1) y0 y1 y2 y3 y4 y5 y6 y7 y8))
  | 0 => ⟨fun _ _ _ _ _ _ _ _ r h => by simp [laws_FnCrashes.j0] at h, fun _ _ _ _ _ _ _ _ _ r h => by simp [laws_FnCrashes.j1] at h⟩
  | k + 1 => by
    obtain ⟨ih0, ih1⟩ := laws_FnCrashes.mono_l k
    refine ⟨?_, ?_⟩
    · intro y0 y1 y2 y3 y4 y5 y6 y7
      unfold laws_FnCrashes.j0
      repeat' first
      | (with_reducible exact ih0 _ _ _ _ _ _ _ _)
      | (with_reducible exact ih1 _ _ _ _ _ _ _ _ _)
      | (with_reducible exact impl_CrashLog.mono _ _ _ _ _ _)
      | (with_reducible exact impl_IsValidLog.mono _ _ _ _)
      | (with_reducible exact impl_LogRecords.mono _ _ _ _)
      | (with_reducible exact impl_RecoverLog.mono _ _)
      | (with_reducible exact laws_vCut.mono _ _ _)
      | (with_reducible exact laws_vRecords.mono _ _ _)
      | (with_reducible exact spec_CrashLog.mono _ _ _ _ _ _)
      | (with_reducible exact spec_DrawCrashLog.mono _ _)
      | (with_reducible exact spec_DrawRecoverLog.mono _ _)
      | (with_reducible exact spec_RecoverLog.mono _ _)
      | (with_reducible exact LeO.refl _)
      | (with_reducible exact LeO.none _)
      | (with_reducible refine LeO.ite ?_ ?_)
      | (with_reducible refine LeO.bind ?_ (fun _ => ?_))
      | exact ih0 _ _ _ _ _ _ _ _
      | exact ih1 _ _ _ _ _ _ _ _ _
      | exact impl_CrashLog.mono _ _ _ _ _ _
      | exact impl_IsValidLog.mono _ _ _ _
      | exact impl_LogRecords.mono _ _ _ _
      | exact impl_RecoverLog.mono _ _
      | exact laws_vCut.mono _ _ _
      | exact laws_vRecords.mono _ _ _
      | exact spec_CrashLog.mono _ _ _ _ _ _
      | exact spec_DrawCrashLog.mono _ _
      | exact spec_DrawRecoverLog.mono _ _
      | exact spec_RecoverLog.mono _ _
      | exact LeO.none _
      | refine LeO.ite ?_ ?_
      | refine LeO.bind ?_ (fun _ => ?_)
    · intro y0 y1 y2 y3 y4 y5 y6 y7 y8
      unfold laws_FnCrashes.j1
      repeat' first
      | (with_reducible exact ih0 _ _ _ _ _ _ _ _)
      | (with_reducible exact ih1 _ _ _ _ _ _ _ _ _)
      | (with_reducible exact impl_CrashLog.mono _ _ _ _ _ _)
      | (with_reducible exact impl_IsValidLog.mono _ _ _ _)
      | (with_reducible exact impl_LogRecords.mono _ _ _ _)
      | (with_reducible exact impl_RecoverLog.mono _ _)
      | (with_reducible exact laws_vCut.mono _ _ _)
      | (with_reducible exact laws_vRecords.mono _ _ _)
      | (with_reducible exact spec_CrashLog.mono _ _ _ _ _ _)
      | (with_reducible exact spec_DrawCrashLog.mono _ _)
      | (with_reducible exact spec_DrawRecoverLog.mono _ _)
      | (with_reducible exact spec_RecoverLog.mono _ _)
      | (with_reducible exact LeO.refl _)
      | (with_reducible exact LeO.none _)
      | (with_reducible refine LeO.ite ?_ ?_)
      | (with_reducible refine LeO.bind ?_ (fun _ => ?_))
      | exact ih0 _ _ _ _ _ _ _ _
      | exact ih1 _ _ _ _ _ _ _ _ _
      | exact impl_CrashLog.mono _ _ _ _ _ _
      | exact impl_IsValidLog.mono _ _ _ _
      | exact impl_LogRecords.mono _ _ _ _
      | exact impl_RecoverLog.mono _ _
      | exact laws_vCut.mono _ _ _
      | exact laws_vRecords.mono _ _ _
      | exact spec_CrashLog.mono _ _ _ _ _ _
      | exact spec_DrawCrashLog.mono _ _
      | exact spec_DrawRecoverLog.mono _ _
      | exact spec_RecoverLog.mono _ _
      | exact LeO.none _
      | refine LeO.ite ?_ ?_
      | refine LeO.bind ?_ (fun _ => ?_)
theorem laws_FnCrashes.mono : ∀ a0 k, LeO (laws_FnCrashes.f k a0) (laws_FnCrashes.f (k + 1) a0) := by
  intro a0 k
  obtain ⟨ih0, ih1⟩ := laws_FnCrashes.mono_l k
  unfold laws_FnCrashes.f
  repeat' first
      | (with_reducible exact ih0 _ _ _ _ _ _ _ _)
      | (with_reducible exact ih1 _ _ _ _ _ _ _ _ _)
      | (with_reducible exact impl_CrashLog.mono _ _ _ _ _ _)
      | (with_reducible exact impl_IsValidLog.mono _ _ _ _)
      | (with_reducible exact impl_LogRecords.mono _ _ _ _)
      | (with_reducible exact impl_RecoverLog.mono _ _)
      | (with_reducible exact laws_vCut.mono _ _ _)
      | (with_reducible exact laws_vRecords.mono _ _ _)
      | (with_reducible exact spec_CrashLog.mono _ _ _ _ _ _)
      | (with_reducible exact spec_DrawCrashLog.mono _ _)
      | (with_reducible exact spec_DrawRecoverLog.mono _ _)
      | (with_reducible exact spec_RecoverLog.mono _ _)
      | (with_reducible exact LeO.refl _)
      | (with_reducible exact LeO.none _)
      | (with_reducible refine LeO.ite ?_ ?_)
      | (with_reducible refine LeO.bind ?_ (fun _ => ?_))
      | exact ih0 _ _ _ _ _ _ _ _
      | exact ih1 _ _ _ _ _ _ _ _ _
      | exact impl_CrashLog.mono _ _ _ _ _ _
      | exact impl_IsValidLog.mono _ _ _ _
      | exact impl_LogRecords.mono _ _ _ _
      | exact impl_RecoverLog.mono _ _
      | exact laws_vCut.mono _ _ _
      | exact laws_vRecords.mono _ _ _
      | exact spec_CrashLog.mono _ _ _ _ _ _
      | exact spec_DrawCrashLog.mono _ _
      | exact spec_DrawRecoverLog.mono _ _
      | exact spec_RecoverLog.mono _ _
      | exact LeO.none _
      | refine LeO.ite ?_ ?_
      | refine LeO.bind ?_ (fun _ => ?_)
set_option maxHeartbeats 8000000 in
set_option maxRecDepth 100000 in
theorem laws_FnCrashes.calls (k : Nat) (A0 : Option Addr) (c0 : Nat) (l0 : List Int) (r : Bool) (w : World) (hr0 : Kd.C (Kd.int .u8) w A0 l0.length l0) (hc0 : l0.length ≤ c0) (hgl : Glob w) (h : laws_FnCrashes.f k l0 = some r) :
    Calls Tryd.prog 12 #[.slice A0 l0.length c0] w fun e w' => e = .returned (.bool r) ∧ Below w.heap.size w w' := by
  have hu42 := Tryd.underlying42
  have HR0 := Aside0.mk hr0
  have HC0 := Aside0.mk hc0
  clear hr0 hc0
  have HB := Aside0.mk (Below.refl w.heap.size w)
  have HGL := Aside0.mk hgl
  clear hgl
  have H : ((laws_vBig.f l0).bind fun t781 => (if t781 = true then (some true) else ((spec_DrawCrashLog.f k l0).bind fun bt782 => ((impl_CrashLog.f k bt782.1 bt782.2.1 bt782.2.2.1 bt782.2.2.2.1 bt782.2.2.2.2).bind fun bt788 => ((spec_CrashLog.f k bt782.1 bt782.2.1 bt782.2.2.1 bt782.2.2.2.1 bt782.2.2.2.2).bind fun bt790 => ((laws_vCut.f k l0 1).bind fun t792 => ((spec_DrawRecoverLog.f k t792).bind fun t795 => ((impl_RecoverLog.f k t795).bind fun bt796 => ((spec_RecoverLog.f k t795).bind fun bt802 => (if bt788.1.toList = bt790.1.toList then (if (bt788.2 != bt790.2) = true then (laws_FnCrashes.j0 k bt782.2.2.2.1 bt782.2.2.2.2 bt788.1 bt788.2 true bt782.1 bt782.2.1 bt782.2.2.1) else (if (!(bt796.1.toList == bt802.1.toList) || (!(bt796.2.1.toList == bt802.2.1.toList) || (!(bt796.2.2.1 == bt802.2.2.1)))) = true then (laws_FnCrashes.j0 k bt782.2.2.2.1 bt782.2.2.2.2 bt788.1 bt788.2 true bt782.1 bt782.2.1 bt782.2.2.1) else (if bt796.2.2.2.1 = bt802.2.2.2.1 then (laws_FnCrashes.j0 k bt782.2.2.2.1 bt782.2.2.2.2 bt788.1 bt788.2 (bt796.2.2.2.2 != bt802.2.2.2.2) bt782.1 bt782.2.1 bt782.2.2.1) else (laws_FnCrashes.j0 k bt782.2.2.2.1 bt782.2.2.2.2 bt788.1 bt788.2 true bt782.1 bt782.2.1 bt782.2.2.1)))) else (laws_FnCrashes.j0 k bt782.2.2.2.1 bt782.2.2.2.2 bt788.1 bt788.2 true bt782.1 bt782.2.1 bt782.2.2.1))))))))))) = some r := h
  clear h
  replace H := Option.bind_eq_some_iff.mp H
  obtain ⟨t781, A20, H⟩ := H
  replace H : (if t781 = true then (some true) else ((spec_DrawCrashLog.f k l0).bind fun bt782 => ((impl_CrashLog.f k bt782.1 bt782.2.1 bt782.2.2.1 bt782.2.2.2.1 bt782.2.2.2.2).bind fun bt788 => ((spec_CrashLog.f k bt782.1 bt782.2.1 bt782.2.2.1 bt782.2.2.2.1 bt782.2.2.2.2).bind fun bt790 => ((laws_vCut.f k l0 1).bind fun t792 => ((spec_DrawRecoverLog.f k t792).bind fun t795 => ((impl_RecoverLog.f k t795).bind fun bt796 => ((spec_RecoverLog.f k t795).bind fun bt802 => (if bt788.1.toList = bt790.1.toList then (if (bt788.2 != bt790.2) = true then (laws_FnCrashes.j0 k bt782.2.2.2.1 bt782.2.2.2.2 bt788.1 bt788.2 true bt782.1 bt782.2.1 bt782.2.2.1) else (if (!(bt796.1.toList == bt802.1.toList) || (!(bt796.2.1.toList == bt802.2.1.toList) || (!(bt796.2.2.1 == bt802.2.2.1)))) = true then (laws_FnCrashes.j0 k bt782.2.2.2.1 bt782.2.2.2.2 bt788.1 bt788.2 true bt782.1 bt782.2.1 bt782.2.2.1) else (if bt796.2.2.2.1 = bt802.2.2.2.1 then (laws_FnCrashes.j0 k bt782.2.2.2.1 bt782.2.2.2.2 bt788.1 bt788.2 (bt796.2.2.2.2 != bt802.2.2.2.2) bt782.1 bt782.2.1 bt782.2.2.1) else (laws_FnCrashes.j0 k bt782.2.2.2.1 bt782.2.2.2.2 bt788.1 bt788.2 true bt782.1 bt782.2.1 bt782.2.2.1)))) else (laws_FnCrashes.j0 k bt782.2.2.2.1 bt782.2.2.2.2 bt788.1 bt788.2 true bt782.1 bt782.2.1 bt782.2.2.1)))))))))) = some r := H
  have A2 := Aside0.mk A20
  clear A20
  by_cases c3 : t781 = true
  · subst c3
    have H1 : (some true) = some r := by rw [if_pos rfl] at H; exact H
    clear H
    have H := H1
    clear H1
    obtain rfl := Option.some.inj H
    go_enter Tryd.func12, Tryd.ntmps12
    go_wp2_with (first | ((with_reducible refine gate_callee (f := 14) rfl ?_); refine goesL_ (some 25) rfl rfl Tryd.func14 (by kernel_rfl) rfl #[.slice A0 l0.length c0] rfl z41_3 ?_; (with_reducible refine (laws_vBig.calls _ _ l0 true _ ?side1 ?side2 A2.out).mono ?_); (case side1 => repeat (first | exact HR0.out | (with_reducible refine Kd.C_alloc ?_ _) | (with_reducible refine Kd.C_drewN ?_ _) | (with_reducible refine Kd.C_drew ?_))); (case side2 => exact HC0.out); rintro e w' ⟨rfl, ⟨nd, rfl⟩⟩; refine ⟨_, rfl, ?_⟩))
    go_ret
    exact ⟨z41_16, z41_19⟩
  · replace c3 := Bool.eq_false_iff.mpr c3
    subst c3
    have H1 : ((spec_DrawCrashLog.f k l0).bind fun bt782 => ((impl_CrashLog.f k bt782.1 bt782.2.1 bt782.2.2.1 bt782.2.2.2.1 bt782.2.2.2.2).bind fun bt788 => ((spec_CrashLog.f k bt782.1 bt782.2.1 bt782.2.2.1 bt782.2.2.2.1 bt782.2.2.2.2).bind fun bt790 => ((laws_vCut.f k l0 1).bind fun t792 => ((spec_DrawRecoverLog.f k t792).bind fun t795 => ((impl_RecoverLog.f k t795).bind fun bt796 => ((spec_RecoverLog.f k t795).bind fun bt802 => (if bt788.1.toList = bt790.1.toList then (if (bt788.2 != bt790.2) = true then (laws_FnCrashes.j0 k bt782.2.2.2.1 bt782.2.2.2.2 bt788.1 bt788.2 true bt782.1 bt782.2.1 bt782.2.2.1) else (if (!(bt796.1.toList == bt802.1.toList) || (!(bt796.2.1.toList == bt802.2.1.toList) || (!(bt796.2.2.1 == bt802.2.2.1)))) = true then (laws_FnCrashes.j0 k bt782.2.2.2.1 bt782.2.2.2.2 bt788.1 bt788.2 true bt782.1 bt782.2.1 bt782.2.2.1) else (if bt796.2.2.2.1 = bt802.2.2.2.1 then (laws_FnCrashes.j0 k bt782.2.2.2.1 bt782.2.2.2.2 bt788.1 bt788.2 (bt796.2.2.2.2 != bt802.2.2.2.2) bt782.1 bt782.2.1 bt782.2.2.1) else (laws_FnCrashes.j0 k bt782.2.2.2.1 bt782.2.2.2.2 bt788.1 bt788.2 true bt782.1 bt782.2.1 bt782.2.2.1)))) else (laws_FnCrashes.j0 k bt782.2.2.2.1 bt782.2.2.2.2 bt788.1 bt788.2 true bt782.1 bt782.2.1 bt782.2.2.1))))))))) = some r := by rw [if_neg (show ¬ (false = true) by decide)] at H; exact H
    clear H
    have H := H1
    clear H1
    replace H := Option.bind_eq_some_iff.mp H
    obtain ⟨⟨t782, t783, t784, t785, t786⟩, A40, H⟩ := H
    replace H : ((impl_CrashLog.f k t782 t783 t784 t785 t786).bind fun bt788 => ((spec_CrashLog.f k t782 t783 t784 t785 t786).bind fun bt790 => ((laws_vCut.f k l0 1).bind fun t792 => ((spec_DrawRecoverLog.f k t792).bind fun t795 => ((impl_RecoverLog.f k t795).bind fun bt796 => ((spec_RecoverLog.f k t795).bind fun bt802 => (if bt788.1.toList = bt790.1.toList then (if (bt788.2 != bt790.2) = true then (laws_FnCrashes.j0 k t785 t786 bt788.1 bt788.2 true t782 t783 t784) else (if (!(bt796.1.toList == bt802.1.toList) || (!(bt796.2.1.toList == bt802.2.1.toList) || (!(bt796.2.2.1 == bt802.2.2.1)))) = true then (laws_FnCrashes.j0 k t785 t786 bt788.1 bt788.2 true t782 t783 t784) else (if bt796.2.2.2.1 = bt802.2.2.2.1 then (laws_FnCrashes.j0 k t785 t786 bt788.1 bt788.2 (bt796.2.2.2.2 != bt802.2.2.2.2) t782 t783 t784) else (laws_FnCrashes.j0 k t785 t786 bt788.1 bt788.2 true t782 t783 t784)))) else (laws_FnCrashes.j0 k t785 t786 bt788.1 bt788.2 true t782 t783 t784)))))))) = some r := H
    have A4 := Aside0.mk A40
    clear A40
    replace H := Option.bind_eq_some_iff.mp H
    obtain ⟨⟨t788, t789⟩, A50, H⟩ := H
    replace H : ((spec_CrashLog.f k t782 t783 t784 t785 t786).bind fun bt790 => ((laws_vCut.f k l0 1).bind fun t792 => ((spec_DrawRecoverLog.f k t792).bind fun t795 => ((impl_RecoverLog.f k t795).bind fun bt796 => ((spec_RecoverLog.f k t795).bind fun bt802 => (if t788.toList = bt790.1.toList then (if (t789 != bt790.2) = true then (laws_FnCrashes.j0 k t785 t786 t788 t789 true t782 t783 t784) else (if (!(bt796.1.toList == bt802.1.toList) || (!(bt796.2.1.toList == bt802.2.1.toList) || (!(bt796.2.2.1 == bt802.2.2.1)))) = true then (laws_FnCrashes.j0 k t785 t786 t788 t789 true t782 t783 t784) else (if bt796.2.2.2.1 = bt802.2.2.2.1 then (laws_FnCrashes.j0 k t785 t786 t788 t789 (bt796.2.2.2.2 != bt802.2.2.2.2) t782 t783 t784) else (laws_FnCrashes.j0 k t785 t786 t788 t789 true t782 t783 t784)))) else (laws_FnCrashes.j0 k t785 t786 t788 t789 true t782 t783 t784))))))) = some r := H
    have A5 := Aside0.mk A50
    clear A50
    replace H := Option.bind_eq_some_iff.mp H
    obtain ⟨⟨t790, t791⟩, A60, H⟩ := H
    replace H : ((laws_vCut.f k l0 1).bind fun t792 => ((spec_DrawRecoverLog.f k t792).bind fun t795 => ((impl_RecoverLog.f k t795).bind fun bt796 => ((spec_RecoverLog.f k t795).bind fun bt802 => (if t788.toList = t790.toList then (if (t789 != t791) = true then (laws_FnCrashes.j0 k t785 t786 t788 t789 true t782 t783 t784) else (if (!(bt796.1.toList == bt802.1.toList) || (!(bt796.2.1.toList == bt802.2.1.toList) || (!(bt796.2.2.1 == bt802.2.2.1)))) = true then (laws_FnCrashes.j0 k t785 t786 t788 t789 true t782 t783 t784) else (if bt796.2.2.2.1 = bt802.2.2.2.1 then (laws_FnCrashes.j0 k t785 t786 t788 t789 (bt796.2.2.2.2 != bt802.2.2.2.2) t782 t783 t784) else (laws_FnCrashes.j0 k t785 t786 t788 t789 true t782 t783 t784)))) else (laws_FnCrashes.j0 k t785 t786 t788 t789 true t782 t783 t784)))))) = some r := H
    have A6 := Aside0.mk A60
    clear A60
    replace H := Option.bind_eq_some_iff.mp H
    obtain ⟨t792, A70, H⟩ := H
    replace H : ((spec_DrawRecoverLog.f k t792).bind fun t795 => ((impl_RecoverLog.f k t795).bind fun bt796 => ((spec_RecoverLog.f k t795).bind fun bt802 => (if t788.toList = t790.toList then (if (t789 != t791) = true then (laws_FnCrashes.j0 k t785 t786 t788 t789 true t782 t783 t784) else (if (!(bt796.1.toList == bt802.1.toList) || (!(bt796.2.1.toList == bt802.2.1.toList) || (!(bt796.2.2.1 == bt802.2.2.1)))) = true then (laws_FnCrashes.j0 k t785 t786 t788 t789 true t782 t783 t784) else (if bt796.2.2.2.1 = bt802.2.2.2.1 then (laws_FnCrashes.j0 k t785 t786 t788 t789 (bt796.2.2.2.2 != bt802.2.2.2.2) t782 t783 t784) else (laws_FnCrashes.j0 k t785 t786 t788 t789 true t782 t783 t784)))) else (laws_FnCrashes.j0 k t785 t786 t788 t789 true t782 t783 t784))))) = some r := H
    have A7 := Aside0.mk A70
    clear A70
    replace H := Option.bind_eq_some_iff.mp H
    obtain ⟨t795, A80, H⟩ := H
    replace H : ((impl_RecoverLog.f k t795).bind fun bt796 => ((spec_RecoverLog.f k t795).bind fun bt802 => (if t788.toList = t790.toList then (if (t789 != t791) = true then (laws_FnCrashes.j0 k t785 t786 t788 t789 true t782 t783 t784) else (if (!(bt796.1.toList == bt802.1.toList) || (!(bt796.2.1.toList == bt802.2.1.toList) || (!(bt796.2.2.1 == bt802.2.2.1)))) = true then (laws_FnCrashes.j0 k t785 t786 t788 t789 true t782 t783 t784) else (if bt796.2.2.2.1 = bt802.2.2.2.1 then (laws_FnCrashes.j0 k t785 t786 t788 t789 (bt796.2.2.2.2 != bt802.2.2.2.2) t782 t783 t784) else (laws_FnCrashes.j0 k t785 t786 t788 t789 true t782 t783 t784)))) else (laws_FnCrashes.j0 k t785 t786 t788 t789 true t782 t783 t784)))) = some r := H
    have A8 := Aside0.mk A80
    clear A80
    replace H := Option.bind_eq_some_iff.mp H
    obtain ⟨⟨t796, t797, t798, t799, t800⟩, A90, H⟩ := H
    replace H : ((spec_RecoverLog.f k t795).bind fun bt802 => (if t788.toList = t790.toList then (if (t789 != t791) = true then (laws_FnCrashes.j0 k t785 t786 t788 t789 true t782 t783 t784) else (if (!(t796.toList == bt802.1.toList) || (!(t797.toList == bt802.2.1.toList) || (!(t798 == bt802.2.2.1)))) = true then (laws_FnCrashes.j0 k t785 t786 t788 t789 true t782 t783 t784) else (if t799 = bt802.2.2.2.1 then (laws_FnCrashes.j0 k t785 t786 t788 t789 (t800 != bt802.2.2.2.2) t782 t783 t784) else (laws_FnCrashes.j0 k t785 t786 t788 t789 true t782 t783 t784)))) else (laws_FnCrashes.j0 k t785 t786 t788 t789 true t782 t783 t784))) = some r := H
    have A9 := Aside0.mk A90
    clear A90
    replace H := Option.bind_eq_some_iff.mp H
    obtain ⟨⟨t802, t803, t804, t805, t806⟩, A100, H⟩ := H
    replace H : (if t788.toList = t790.toList then (if (t789 != t791) = true then (laws_FnCrashes.j0 k t785 t786 t788 t789 true t782 t783 t784) else (if (!(t796.toList == t802.toList) || (!(t797.toList == t803.toList) || (!(t798 == t804)))) = true then (laws_FnCrashes.j0 k t785 t786 t788 t789 true t782 t783 t784) else (if t799 = t805 then (laws_FnCrashes.j0 k t785 t786 t788 t789 (t800 != t806) t782 t783 t784) else (laws_FnCrashes.j0 k t785 t786 t788 t789 true t782 t783 t784)))) else (laws_FnCrashes.j0 k t785 t786 t788 t789 true t782 t783 t784)) = some r := H
    have A10 := Aside0.mk A100
    clear A100
    have HC11 := Aside0.mk H
    clear H
    go_enter Tryd.func12, Tryd.ntmps12
    go_upto_region 9 with (first | ((with_reducible refine gate_callee (f := 14) rfl ?_); refine goesL_ (some 25) rfl rfl Tryd.func14 (by kernel_rfl) rfl #[.slice A0 l0.length c0] rfl z41_3 ?_; (with_reducible refine (laws_vBig.calls _ _ l0 false _ ?side1 ?side2 A2.out).mono ?_); (case side1 => repeat (first | exact HR0.out | (with_reducible refine Kd.C_alloc ?_ _) | (with_reducible refine Kd.C_drewN ?_ _) | (with_reducible refine Kd.C_drew ?_))); (case side2 => exact HC0.out); rintro e w' ⟨rfl, ⟨nd, rfl⟩⟩; refine ⟨_, rfl, ?_⟩) | ((with_reducible refine gate_callee (f := 53) rfl ?_); refine goesL_ (some 28) rfl rfl Tryd.func53 (by kernel_rfl) rfl #[.slice A0 l0.length c0] rfl z41_3 ?_; (with_reducible refine (spec_DrawCrashLog.calls k _ _ l0 t782 t783 t784 t785 t786 _ ?side1 ?side2 A4.out).mono ?_); (case side1 => repeat (first | exact HR0.out | (with_reducible refine Kd.C_alloc ?_ _) | (with_reducible refine Kd.C_drewN ?_ _) | (with_reducible refine Kd.C_drew ?_))); (case side2 => exact HC0.out); rintro e w12 ⟨rfl, hb⟩; refine ⟨_, rfl, ?_⟩; have n0_ := Aside0.mk (below_step z41_19 hb); clear HB; have HB := n0_; clear n0_; (try clear hb); (try clear hb2); (try clear hk); (try clear hi)) | ((with_reducible refine gate_dst (N := 3) rfl ?_); (try (refine gate_guard (by rfl) ?_; dsimp only)); refine box_event ?hg (N := 3) ?hd (cs := #[.string (⟨#[]⟩ : ByteArray), .string (⟨#[]⟩ : ByteArray), .int .i64 0]) (t := 42) ?hr ?_; (case hd => rfl); (case hg => rfl); (case hr => first | (go_simp; done) | (go_simp; rfl)); intro gb787 hg w13 hbox hb; have n0_ := Aside0.mk (below_step z41_19 hb); have n1_ := Aside0.mk (hbox); have n2_ := Aside0.mk ((by rw [hg]; exact (below_size z41_19) : w.heap.size ≤ gb787)); have n3_ := Aside0.mk ((by rw [hg]; exact (below_size z41_19) : w.heap.size ≤ gb787)); clear HB; have HB := n0_; have BK787 := n1_; have GW787 := n2_; have GE787 := n3_; clear n0_ n1_ n2_ n3_; clear hb hbox hg; have hcz14_0 : w13.cell? ⟨gb787, 0, none⟩ = some (.string (⟨#[]⟩ : ByteArray)) := (blk_cell BK787.out 0).trans rfl; have hcz14_1 : w13.cell? ⟨gb787, 1, none⟩ = some (.string (⟨#[]⟩ : ByteArray)) := (blk_cell BK787.out 1).trans rfl; have hcz14_2 : w13.cell? ⟨gb787, 2, none⟩ = some (.int .i64 0) := (blk_cell BK787.out 2).trans rfl; have hfz14_0 := blk_frozen BK787.out 0; have hfz14_1 := blk_frozen BK787.out 1; have hfz14_2 := blk_frozen BK787.out 2) | ((with_reducible refine gate_callee (f := 35) rfl ?_); refine goesL_ (some 36) rfl rfl Tryd.func35 (by kernel_rfl) rfl #[.agg #[.string t782, .string t783, .int .i64 t784], .int .i64 t785, .bool t786] rfl z41_3 ?_; (with_reducible refine (impl_CrashLog.calls k t782 t783 t784 t785 t786 t788 t789 _ ?side1 A5.out).mono ?_); (case side1 => exact Glob.below HGL.out z41_10); rintro e w15 ⟨rfl, hb⟩; refine ⟨_, rfl, ?_⟩; have n0_ := Aside0.mk (blk_below (g := gb787) (o := .cells #[.string t782, .string t783, .int .i64 t784] 42 (0, 0)) (by (with_reducible repeat (first | refine blk_drewN ?_ _ | refine blk_drew ?_ | refine blk_alloc ?_ _)); refine blk_put (cs := #[.string t782, .string t783, .int .i64 0]) ?_ 2 _ rfl; (with_reducible repeat (first | refine blk_drewN ?_ _ | refine blk_drew ?_ | refine blk_alloc ?_ _)); refine blk_put (cs := #[.string t782, .string (⟨#[]⟩ : ByteArray), .int .i64 0]) ?_ 1 _ rfl; (with_reducible repeat (first | refine blk_drewN ?_ _ | refine blk_drew ?_ | refine blk_alloc ?_ _)); refine blk_put (cs := #[.string (⟨#[]⟩ : ByteArray), .string (⟨#[]⟩ : ByteArray), .int .i64 0]) ?_ 0 _ rfl; (with_reducible repeat (first | refine blk_drewN ?_ _ | refine blk_drew ?_ | refine blk_alloc ?_ _)); exact BK787.out) hb); have n1_ := Aside0.mk (below_step z41_10 hb); clear BK787; clear HB; have BK787 := n0_; have HB := n1_; clear n0_ n1_; (try clear hb); (try clear hb2); (try clear hk); (try clear hi); have hcz16_0 : w15.cell? ⟨gb787, 0, none⟩ = some (.string t782) := (blk_cell BK787.out 0).trans rfl; have hcz16_1 : w15.cell? ⟨gb787, 1, none⟩ = some (.string t783) := (blk_cell BK787.out 1).trans rfl; have hcz16_2 : w15.cell? ⟨gb787, 2, none⟩ = some (.int .i64 t784) := (blk_cell BK787.out 2).trans rfl; have hfz16_0 := blk_frozen BK787.out 0; have hfz16_1 := blk_frozen BK787.out 1; have hfz16_2 := blk_frozen BK787.out 2) | ((with_reducible refine gate_callee (f := 34) rfl ?_); refine goesL_ (some 43) rfl rfl Tryd.func34 (by kernel_rfl) rfl #[.agg #[.string t782, .string t783, .int .i64 t784], .int .i64 t785, .bool t786] rfl z41_3 ?_; (with_reducible refine (spec_CrashLog.calls k t782 t783 t784 t785 t786 t790 t791 _ A6.out).mono ?_); rintro e w17 ⟨rfl, hb⟩; refine ⟨_, rfl, ?_⟩; have n0_ := Aside0.mk (blk_below (g := gb787) (o := .cells #[.string t782, .string t783, .int .i64 t784] 42 (0, 0)) z41_1 hb); have n1_ := Aside0.mk (below_step z41_10 hb); clear BK787; clear HB; have BK787 := n0_; have HB := n1_; clear n0_ n1_; (try clear hb); (try clear hb2); (try clear hk); (try clear hi)) | ((with_reducible refine gate_callee (f := 47) rfl ?_); refine goesL_ (some 47) rfl rfl Tryd.func47 (by kernel_rfl) rfl #[.slice A0 l0.length c0, .int .i64 1] rfl z41_3 ?_; (with_reducible refine (laws_vCut.calls k _ _ l0 1 t792 _ ?side1 ?side2 A7.out).mono ?_); (case side1 => repeat (first | exact (Kd.C_below HR0.out HB.out) | (with_reducible refine Kd.C_alloc ?_ _) | (with_reducible refine Kd.C_drewN ?_ _) | (with_reducible refine Kd.C_drew ?_))); (case side2 => exact HC0.out); rintro e w18 ⟨v793, rfl, ho0, hb⟩; refine ⟨_, rfl, ?_⟩; have n0_ := Aside0.mk (Kd.R_lower ho0 (below_size z41_10)); have n1_ := Aside0.mk (blk_below (g := gb787) (o := .cells #[.string t782, .string t783, .int .i64 t784] 42 (0, 0)) z41_1 hb); have n2_ := Aside0.mk (below_step z41_10 hb); clear BK787; clear HB; have HO794 := n0_; have BK787 := n1_; have HB := n2_; clear n0_ n1_ n2_; (try clear hb); (try clear hb2); (try clear hk); (try clear hi); (try clear ho0); obtain ⟨Ao19, co19, eo19⟩ := Kd.R_slice HO794.out; subst eo19) | ((with_reducible refine gate_callee (f := 54) rfl ?_); refine goesL_ (some 48) rfl rfl Tryd.func54 (by kernel_rfl) rfl #[.slice Ao19 t792.length co19] rfl z41_3 ?_; (with_reducible refine (spec_DrawRecoverLog.calls k _ _ t792 t795 _ ?side1 ?side2 A8.out).mono ?_); (case side1 => repeat (first | exact (Kd.R_reads' HO794.out).2.2 | (with_reducible refine Kd.C_alloc ?_ _) | (with_reducible refine Kd.C_drewN ?_ _) | (with_reducible refine Kd.C_drew ?_))); (case side2 => exact (Kd.R_reads' HO794.out).2.1); rintro e w20 ⟨rfl, hb⟩; refine ⟨_, rfl, ?_⟩; have n0_ := Aside0.mk (Kd.R_below z41_22 hb); have n1_ := Aside0.mk (blk_below (g := gb787) (o := .cells #[.string t782, .string t783, .int .i64 t784] 42 (0, 0)) z41_1 hb); have n2_ := Aside0.mk (below_step z41_10 hb); clear HO794; clear BK787; clear HB; have HO794 := n0_; have BK787 := n1_; have HB := n2_; clear n0_ n1_ n2_; (try clear hb); (try clear hb2); (try clear hk); (try clear hi)) | ((with_reducible refine gate_callee (f := 28) rfl ?_); refine goesL_ (some 51) rfl rfl Tryd.func28 (by kernel_rfl) rfl #[.string t795] rfl z41_3 ?_; (with_reducible refine (impl_RecoverLog.calls k t795 t796 t797 t798 t799 t800 _ ?side1 A9.out).mono ?_); (case side1 => exact Glob.below HGL.out z41_10); rintro e w21 ⟨rfl, hb⟩; refine ⟨_, rfl, ?_⟩; have n0_ := Aside0.mk (Kd.R_below z41_22 hb); have n1_ := Aside0.mk (blk_below (g := gb787) (o := .cells #[.string t782, .string t783, .int .i64 t784] 42 (0, 0)) z41_1 hb); have n2_ := Aside0.mk (below_step z41_10 hb); clear HO794; clear BK787; clear HB; have HO794 := n0_; have BK787 := n1_; have HB := n2_; clear n0_ n1_ n2_; (try clear hb); (try clear hb2); (try clear hk); (try clear hi)) | ((with_reducible refine gate_dst (N := 11) rfl ?_); (try (refine gate_guard (by rfl) ?_; dsimp only)); refine box_event ?hg (N := 11) ?hd (cs := #[.string (⟨#[]⟩ : ByteArray), .string (⟨#[]⟩ : ByteArray), .int .i64 0]) (t := 42) ?hr ?_; (case hd => rfl); (case hg => rfl); (case hr => first | (go_simp; done) | (go_simp; rfl)); intro gb801 hg w22 hbox hb; have n0_ := Aside0.mk (Kd.R_below z41_22 hb); have n1_ := Aside0.mk (blk_below (g := gb787) (o := .cells #[.string t782, .string t783, .int .i64 t784] 42 (0, 0)) z41_1 hb); have n2_ := Aside0.mk (below_step z41_10 hb); have n3_ := Aside0.mk (hbox); have n4_ := Aside0.mk ((by rw [hg]; exact (below_size z41_10) : w.heap.size ≤ gb801)); have n5_ := Aside0.mk ((by rw [hg]; exact (below_size z41_10) : w.heap.size ≤ gb801)); have n6_ := Aside0.mk ((z41_23 : gb787 ≠ gb801)); have n7_ := Aside0.mk ((z41_24 : gb801 ≠ gb787)); clear HO794; clear BK787; clear HB; have HO794 := n0_; have BK787 := n1_; have HB := n2_; have BK801 := n3_; have GW801 := n4_; have GE801 := n5_; have NB787_801 := n6_; have NB801_787 := n7_; clear n0_ n1_ n2_ n3_ n4_ n5_ n6_ n7_; clear hb hbox hg; have hnb23 := NB801_787.out; have hnc23 := NB787_801.out; have hcz24_0 : w22.cell? ⟨gb801, 0, none⟩ = some (.string (⟨#[]⟩ : ByteArray)) := (blk_cell BK801.out 0).trans rfl; have hcz24_1 : w22.cell? ⟨gb801, 1, none⟩ = some (.string (⟨#[]⟩ : ByteArray)) := (blk_cell BK801.out 1).trans rfl; have hcz24_2 : w22.cell? ⟨gb801, 2, none⟩ = some (.int .i64 0) := (blk_cell BK801.out 2).trans rfl; have hfz24_0 := blk_frozen BK801.out 0; have hfz24_1 := blk_frozen BK801.out 1; have hfz24_2 := blk_frozen BK801.out 2) | ((with_reducible refine gate_callee (f := 27) rfl ?_); refine goesL_ (some 57) rfl rfl Tryd.func27 (by kernel_rfl) rfl #[.string t795] rfl z41_3 ?_; (with_reducible refine (spec_RecoverLog.calls k t795 t802 t803 t804 t805 t806 _ A10.out).mono ?_); rintro e w25 ⟨rfl, hb⟩; refine ⟨_, rfl, ?_⟩; have n0_ := Aside0.mk (Kd.R_below (by (with_reducible repeat (first | apply Kd.R_alloc | apply Kd.R_drewN | apply Kd.R_drew)); exact (Kd.R_mono (Kd.R_far (p := ⟨gb801, 2, none⟩) (Kd.R_far (p := ⟨gb801, 1, none⟩) (Kd.R_far (p := ⟨gb801, 0, none⟩) (Kd.R_types HO794.out BK801.out (by decide)) (fun _ hk => hk.2) (.string t796)) (fun _ hk => hk.2) (.string t797)) (fun _ hk => hk.2) (.int .i64 t798)) (fun _ h_ => h_.1))) hb); have n1_ := Aside0.mk (blk_below (g := gb787) (o := .cells #[.string t782, .string t783, .int .i64 t784] 42 (0, 0)) (by (with_reducible repeat (first | refine blk_drewN ?_ _ | refine blk_drew ?_ | refine blk_alloc ?_ _)); refine blk_far ?_ NB787_801.out _; (with_reducible repeat (first | refine blk_drewN ?_ _ | refine blk_drew ?_ | refine blk_alloc ?_ _)); refine blk_far ?_ NB787_801.out _; (with_reducible repeat (first | refine blk_drewN ?_ _ | refine blk_drew ?_ | refine blk_alloc ?_ _)); refine blk_far ?_ NB787_801.out _; (with_reducible repeat (first | refine blk_drewN ?_ _ | refine blk_drew ?_ | refine blk_alloc ?_ _)); exact BK787.out) hb); have n2_ := Aside0.mk (blk_below (g := gb801) (o := .cells #[.string t796, .string t797, .int .i64 t798] 42 (0, 0)) (by (with_reducible repeat (first | refine blk_drewN ?_ _ | refine blk_drew ?_ | refine blk_alloc ?_ _)); refine blk_put (cs := #[.string t796, .string t797, .int .i64 0]) ?_ 2 _ rfl; (with_reducible repeat (first | refine blk_drewN ?_ _ | refine blk_drew ?_ | refine blk_alloc ?_ _)); refine blk_put (cs := #[.string t796, .string (⟨#[]⟩ : ByteArray), .int .i64 0]) ?_ 1 _ rfl; (with_reducible repeat (first | refine blk_drewN ?_ _ | refine blk_drew ?_ | refine blk_alloc ?_ _)); refine blk_put (cs := #[.string (⟨#[]⟩ : ByteArray), .string (⟨#[]⟩ : ByteArray), .int .i64 0]) ?_ 0 _ rfl; (with_reducible repeat (first | refine blk_drewN ?_ _ | refine blk_drew ?_ | refine blk_alloc ?_ _)); exact BK801.out) hb); have n3_ := Aside0.mk (below_step z41_17 hb); clear HO794; clear BK787; clear BK801; clear HB; have HO794 := n0_; have BK787 := n1_; have BK801 := n2_; have HB := n3_; clear n0_ n1_ n2_ n3_; (try clear hb); (try clear hb2); (try clear hk); (try clear hi)) | ((with_reducible refine gate_dst (N := 14) rfl ?_); (try (refine gate_guard (by rfl) ?_; dsimp only)); refine box_event ?hg (N := 14) ?hd (cs := #[.string (⟨#[]⟩ : ByteArray), .string (⟨#[]⟩ : ByteArray), .int .i64 0]) (t := 42) ?hr ?_; (case hd => rfl); (case hg => rfl); (case hr => first | (go_simp; done) | (go_simp; rfl)); intro gb807 hg w26 hbox hb; have n0_ := Aside0.mk (Kd.R_below z41_22 hb); have n1_ := Aside0.mk (blk_below (g := gb787) (o := .cells #[.string t782, .string t783, .int .i64 t784] 42 (0, 0)) z41_1 hb); have n2_ := Aside0.mk (blk_below (g := gb801) (o := .cells #[.string t796, .string t797, .int .i64 t798] 42 (0, 0)) z41_5 hb); have n3_ := Aside0.mk (below_step z41_17 hb); have n4_ := Aside0.mk (hbox); have n5_ := Aside0.mk ((by rw [hg]; exact (below_size z41_17) : w.heap.size ≤ gb807)); have n6_ := Aside0.mk ((by rw [hg]; exact (below_size z41_17) : w.heap.size ≤ gb807)); have n7_ := Aside0.mk ((z41_23 : gb787 ≠ gb807)); have n8_ := Aside0.mk ((z41_24 : gb807 ≠ gb787)); have n9_ := Aside0.mk ((by rw [hg]; exact Nat.ne_of_lt (blk_lt (g := gb801) (o := .cells #[.string t796, .string t797, .int .i64 t798] 42 (0, 0)) z41_5) : gb801 ≠ gb807)); have n10_ := Aside0.mk ((by rw [hg]; exact Nat.ne_of_gt (blk_lt (g := gb801) (o := .cells #[.string t796, .string t797, .int .i64 t798] 42 (0, 0)) z41_5) : gb807 ≠ gb801)); clear HO794; clear BK787; clear BK801; clear HB; have HO794 := n0_; have BK787 := n1_; have BK801 := n2_; have HB := n3_; have BK807 := n4_; have GW807 := n5_; have GE807 := n6_; have NB787_807 := n7_; have NB807_787 := n8_; have NB801_807 := n9_; have NB807_801 := n10_; clear n0_ n1_ n2_ n3_ n4_ n5_ n6_ n7_ n8_ n9_ n10_; clear hb hbox hg; have hnb27 := NB807_787.out; have hnc27 := NB787_807.out; have hnb28 := NB807_801.out; have hnc28 := NB801_807.out; have hcz29_0 : w26.cell? ⟨gb807, 0, none⟩ = some (.string (⟨#[]⟩ : ByteArray)) := (blk_cell BK807.out 0).trans rfl; have hcz29_1 : w26.cell? ⟨gb807, 1, none⟩ = some (.string (⟨#[]⟩ : ByteArray)) := (blk_cell BK807.out 1).trans rfl; have hcz29_2 : w26.cell? ⟨gb807, 2, none⟩ = some (.int .i64 0) := (blk_cell BK807.out 2).trans rfl; have hfz29_0 := blk_frozen BK807.out 0; have hfz29_1 := blk_frozen BK807.out 1; have hfz29_2 := blk_frozen BK807.out 2))
    (try simp only [Act.put, List.setIfInBounds_toArray, List.set_cons_zero, List.set_cons_succ])
    go_cut [83] (fun v83 wc => ∃ (kq : Nat) (x83_10 : Bool), v83 = .bool x83_10 ∧ Aside0 (laws_FnCrashes.j0 kq t785 t786 t788 t789 x83_10 t782 t783 t784 = some r) ∧ Aside0 (kq ≤ k) ∧ Aside0 (wc.heap[gb787]? = some (.cells #[.string t782, .string t783, .int .i64 t784] 42 (0, 0))) ∧ Aside0 (wc.heap[gb801]? = some (.cells #[.string t796, .string t797, .int .i64 t798] 42 (0, 0))) ∧ Aside0 (wc.heap[gb807]? = some (.cells #[.string t802, .string t803, .int .i64 t804] 42 (0, 0))) ∧ Aside0 (Below w.heap.size w wc))
    case first =>
      have H := HC11.out
      clear HC11
      by_cases c30 : t788.toList = t790.toList
      · rw [if_pos c30] at H
        have c30b0 : (t788.toList == t790.toList) = true := beq_iff_eq.mpr c30
        have c30b1 : (t788.toList != t790.toList) = false := bne_eq_false_iff_eq.mpr c30
        clear c30
        (first | rw [c30b0] | (simp only [i64_w, i32_w]; rw [c30b0]) | skip)
        by_cases c31 : (t789 != t791) = true
        · rw [if_pos c31] at H
          have c31b0 : (t789 != t791) = true := c31
          (try (have c31b1 : decide (t789 = t791) = false := by simpa using c31))
          (try (have c31b2 : (t789 == t791) = false := by simpa using c31))
          (try (have c31b3 : ¬ (t789 = t791) := by simpa using c31))
          clear c31
          have H' := Aside0.mk H
          clear H
          go_wp2
          go_meet
          case rel => exact ⟨_, (true), z41_21, H', ⟨by first | omega | exact Nat.le_refl _⟩, ⟨z41_7⟩, ⟨z41_8⟩, ⟨z41_2⟩, ⟨z41_4⟩⟩
        · rw [if_neg c31] at H
          have c31b0 : (t789 != t791) = false := by simpa using c31
          (try (have c31b1 : decide (t789 = t791) = true := by simpa using c31))
          (try (have c31b2 : (t789 == t791) = true := by simpa using c31))
          clear c31
          by_cases c32 : (!(t796.toList == t802.toList) || (!(t797.toList == t803.toList) || (!(t798 == t804)))) = true
          · rw [if_pos c32] at H
            have c32b0 : (!(t796.toList == t802.toList) || (!(t797.toList == t803.toList) || (!(t798 == t804)))) = true := c32
            clear c32
            have H' := Aside0.mk H
            clear H
            have hnb33 := NB801_787.out
            have hnc33 := NB787_801.out
            have hnb34 := NB801_807.out
            have hnc34 := NB807_801.out
            have hcz35_0 : w26.cell? ⟨gb801, 0, none⟩ = some (.string t796) := (blk_cell BK801.out 0).trans rfl
            have hcz35_1 : w26.cell? ⟨gb801, 1, none⟩ = some (.string t797) := (blk_cell BK801.out 1).trans rfl
            have hcz35_2 : w26.cell? ⟨gb801, 2, none⟩ = some (.int .i64 t798) := (blk_cell BK801.out 2).trans rfl
            have hfz35_0 := blk_frozen BK801.out 0
            have hfz35_1 := blk_frozen BK801.out 1
            have hfz35_2 := blk_frozen BK801.out 2
            have hnb36 := NB807_787.out
            have hnc36 := NB787_807.out
            have hcz37_0 : w26.cell? ⟨gb807, 0, none⟩ = some (.string (⟨#[]⟩ : ByteArray)) := (blk_cell BK807.out 0).trans rfl
            have hcz37_1 : w26.cell? ⟨gb807, 1, none⟩ = some (.string (⟨#[]⟩ : ByteArray)) := (blk_cell BK807.out 1).trans rfl
            have hcz37_2 : w26.cell? ⟨gb807, 2, none⟩ = some (.int .i64 0) := (blk_cell BK807.out 2).trans rfl
            have hfz37_0 := blk_frozen BK807.out 0
            have hfz37_1 := blk_frozen BK807.out 1
            have hfz37_2 := blk_frozen BK807.out 2
            go_wp2
            go_meet
            case rel => exact ⟨_, (true), z41_21, H', ⟨by first | omega | exact Nat.le_refl _⟩, ⟨z41_7⟩, ⟨z41_8⟩, ⟨z41_2⟩, ⟨z41_4⟩⟩
          · rw [if_neg c32] at H
            have c32b0 : (!(t796.toList == t802.toList) || (!(t797.toList == t803.toList) || (!(t798 == t804)))) = false := by simpa using c32
            clear c32
            by_cases c38 : t799 = t805
            · rw [if_pos c38] at H
              have c38b0 : (t799 == t805) = true := beq_iff_eq.mpr c38
              have c38b1 : (t799 != t805) = false := bne_eq_false_iff_eq.mpr c38
              clear c38
              have H' := Aside0.mk H
              clear H
              have hnb39 := NB801_787.out
              have hnc39 := NB787_801.out
              have hnb40 := NB801_807.out
              have hnc40 := NB807_801.out
              have hcz41_0 : w26.cell? ⟨gb801, 0, none⟩ = some (.string t796) := (blk_cell BK801.out 0).trans rfl
              have hcz41_1 : w26.cell? ⟨gb801, 1, none⟩ = some (.string t797) := (blk_cell BK801.out 1).trans rfl
              have hcz41_2 : w26.cell? ⟨gb801, 2, none⟩ = some (.int .i64 t798) := (blk_cell BK801.out 2).trans rfl
              have hfz41_0 := blk_frozen BK801.out 0
              have hfz41_1 := blk_frozen BK801.out 1
              have hfz41_2 := blk_frozen BK801.out 2
              have hnb42 := NB807_787.out
              have hnc42 := NB787_807.out
              have hcz43_0 : w26.cell? ⟨gb807, 0, none⟩ = some (.string (⟨#[]⟩ : ByteArray)) := (blk_cell BK807.out 0).trans rfl
              have hcz43_1 : w26.cell? ⟨gb807, 1, none⟩ = some (.string (⟨#[]⟩ : ByteArray)) := (blk_cell BK807.out 1).trans rfl
              have hcz43_2 : w26.cell? ⟨gb807, 2, none⟩ = some (.int .i64 0) := (blk_cell BK807.out 2).trans rfl
              have hfz43_0 := blk_frozen BK807.out 0
              have hfz43_1 := blk_frozen BK807.out 1
              have hfz43_2 := blk_frozen BK807.out 2
              go_wp2
              go_meet
              case rel => exact ⟨_, ((t800 != t806)), z41_21, H', ⟨by first | omega | exact Nat.le_refl _⟩, ⟨z41_7⟩, ⟨z41_8⟩, ⟨z41_2⟩, ⟨z41_4⟩⟩
            · rw [if_neg c38] at H
              have c38b0 : (t799 == t805) = false := beq_eq_false_iff_ne.mpr c38
              have c38b1 : (t799 != t805) = true := bne_iff_ne.mpr c38
              have H' := Aside0.mk H
              clear H
              have hnb44 := NB801_787.out
              have hnc44 := NB787_801.out
              have hnb45 := NB801_807.out
              have hnc45 := NB807_801.out
              have hcz46_0 : w26.cell? ⟨gb801, 0, none⟩ = some (.string t796) := (blk_cell BK801.out 0).trans rfl
              have hcz46_1 : w26.cell? ⟨gb801, 1, none⟩ = some (.string t797) := (blk_cell BK801.out 1).trans rfl
              have hcz46_2 : w26.cell? ⟨gb801, 2, none⟩ = some (.int .i64 t798) := (blk_cell BK801.out 2).trans rfl
              have hfz46_0 := blk_frozen BK801.out 0
              have hfz46_1 := blk_frozen BK801.out 1
              have hfz46_2 := blk_frozen BK801.out 2
              have hnb47 := NB807_787.out
              have hnc47 := NB787_807.out
              have hcz48_0 : w26.cell? ⟨gb807, 0, none⟩ = some (.string (⟨#[]⟩ : ByteArray)) := (blk_cell BK807.out 0).trans rfl
              have hcz48_1 : w26.cell? ⟨gb807, 1, none⟩ = some (.string (⟨#[]⟩ : ByteArray)) := (blk_cell BK807.out 1).trans rfl
              have hcz48_2 : w26.cell? ⟨gb807, 2, none⟩ = some (.int .i64 0) := (blk_cell BK807.out 2).trans rfl
              have hfz48_0 := blk_frozen BK807.out 0
              have hfz48_1 := blk_frozen BK807.out 1
              have hfz48_2 := blk_frozen BK807.out 2
              go_wp2
              go_meet
              case rel => exact ⟨_, (true), z41_21, H', ⟨by first | omega | exact Nat.le_refl _⟩, ⟨z41_7⟩, ⟨z41_8⟩, ⟨z41_2⟩, ⟨z41_4⟩⟩
      · rw [if_neg c30] at H
        have c30b0 : (t788.toList == t790.toList) = false := beq_eq_false_iff_ne.mpr c30
        have c30b1 : (t788.toList != t790.toList) = true := bne_iff_ne.mpr c30
        (first | rw [c30b0] | (simp only [i64_w, i32_w]; rw [c30b0]) | skip)
        have H' := Aside0.mk H
        clear H
        go_wp2
        go_meet
        case rel => exact ⟨_, (true), z41_21, H', ⟨by first | omega | exact Nat.le_refl _⟩, ⟨z41_7⟩, ⟨z41_8⟩, ⟨z41_2⟩, ⟨z41_4⟩⟩
    case rest =>
      clear HC11
      try clear c1
      try clear c2
      try clear p2
      try clear c3
      try clear c4
      try clear c5
      try clear c12
      try clear c14
      try clear c23
      try clear c27
      try clear c28
      try clear c30
      try clear c30b0
      try clear c30b1
      try clear c31
      try clear c31b0
      try clear c31b1
      try clear c31b2
      try clear c32
      try clear c32b0
      try clear c33
      try clear c34
      try clear c35
      try clear c36
      try clear c38
      try clear c38b0
      try clear c38b1
      try clear c39
      try clear c40
      try clear c42
      try clear c44
      try clear c45
      try clear c47
      try clear hcz14_0
      try clear hcz14_1
      try clear hcz14_2
      try clear hcz16_0
      try clear hcz16_1
      try clear hcz16_2
      try clear hcz24_0
      try clear hcz24_1
      try clear hcz24_2
      try clear hcz29_0
      try clear hcz29_1
      try clear hcz29_2
      try clear hcz35_0
      try clear hcz35_1
      try clear hcz35_2
      try clear hcz37_0
      try clear hcz37_1
      try clear hcz37_2
      try clear hcz41_0
      try clear hcz41_1
      try clear hcz41_2
      try clear hcz43_0
      try clear hcz43_1
      try clear hcz43_2
      try clear hcz46_0
      try clear hcz46_1
      try clear hcz46_2
      try clear hcz48_0
      try clear hcz48_1
      try clear hcz48_2
      try clear hfz14_0
      try clear hfz14_1
      try clear hfz14_2
      try clear hfz16_0
      try clear hfz16_1
      try clear hfz16_2
      try clear hfz24_0
      try clear hfz24_1
      try clear hfz24_2
      try clear hfz29_0
      try clear hfz29_1
      try clear hfz29_2
      try clear hfz35_0
      try clear hfz35_1
      try clear hfz35_2
      try clear hfz37_0
      try clear hfz37_1
      try clear hfz37_2
      try clear hfz41_0
      try clear hfz41_1
      try clear hfz41_2
      try clear hfz43_0
      try clear hfz43_1
      try clear hfz43_2
      try clear hfz46_0
      try clear hfz46_1
      try clear hfz46_2
      try clear hfz48_0
      try clear hfz48_1
      try clear hfz48_2
      obtain ⟨kq, x83_10, rfl, HA, HJ10, BK787, BK801, BK807, HB⟩ := hcut
      cases kq with
      | zero => exact absurd HA.out (by simp [laws_FnCrashes.j0])
      | succ kj10 =>
        have H := HA.out
        clear HA
        simp only [laws_FnCrashes.j0] at H
        by_cases c49 : x83_10 = true
        · subst c49
          have H1 : (some false) = some r := by rw [if_pos rfl] at H; exact H
          clear H
          have H := H1
          clear H1
          obtain rfl := Option.some.inj H
          go_wp2
          go_ret
          exact ⟨z41_16, z41_4⟩
        · replace c49 := Bool.eq_false_iff.mpr c49
          subst c49
          have H1 : (if t789 = true then ((impl_RecoverLog.f kj10 t788).bind fun bt808 => (if bt808.2.2.2.2 = true then ((impl_IsValidLog.f kj10 bt808.1 bt808.2.1 bt808.2.2.1).bind fun t814 => (if t814 = true then (if bt808.2.2.2.1 < (t782.size : Int) then (laws_FnCrashes.j1 kj10 t785 t786 true t782 t783 t784 bt808.1 bt808.2.1 bt808.2.2.1) else (laws_FnCrashes.j1 kj10 t785 t786 ((bt808.1.size : Int) != bt808.2.2.2.1) t782 t783 t784 bt808.1 bt808.2.1 bt808.2.2.1)) else (laws_FnCrashes.j1 kj10 t785 t786 true t782 t783 t784 bt808.1 bt808.2.1 bt808.2.2.1))) else (laws_FnCrashes.j1 kj10 t785 t786 true t782 t783 t784 bt808.1 bt808.2.1 bt808.2.2.1))) else (some true)) = some r := by rw [if_neg (show ¬ (false = true) by decide)] at H; exact H
          clear H
          have H := H1
          clear H1
          by_cases c50 : t789 = true
          · subst c50
            have H1 : ((impl_RecoverLog.f kj10 t788).bind fun bt808 => (if bt808.2.2.2.2 = true then ((impl_IsValidLog.f kj10 bt808.1 bt808.2.1 bt808.2.2.1).bind fun t814 => (if t814 = true then (if bt808.2.2.2.1 < (t782.size : Int) then (laws_FnCrashes.j1 kj10 t785 t786 true t782 t783 t784 bt808.1 bt808.2.1 bt808.2.2.1) else (laws_FnCrashes.j1 kj10 t785 t786 ((bt808.1.size : Int) != bt808.2.2.2.1) t782 t783 t784 bt808.1 bt808.2.1 bt808.2.2.1)) else (laws_FnCrashes.j1 kj10 t785 t786 true t782 t783 t784 bt808.1 bt808.2.1 bt808.2.2.1))) else (laws_FnCrashes.j1 kj10 t785 t786 true t782 t783 t784 bt808.1 bt808.2.1 bt808.2.2.1))) = some r := by rw [if_pos rfl] at H; exact H
            clear H
            have H := H1
            clear H1
            replace H := Option.bind_eq_some_iff.mp H
            obtain ⟨⟨t808, t809, t810, t811, t812⟩, A510, H⟩ := H
            replace H : (if t812 = true then ((impl_IsValidLog.f kj10 t808 t809 t810).bind fun t814 => (if t814 = true then (if t811 < (t782.size : Int) then (laws_FnCrashes.j1 kj10 t785 t786 true t782 t783 t784 t808 t809 t810) else (laws_FnCrashes.j1 kj10 t785 t786 ((t808.size : Int) != t811) t782 t783 t784 t808 t809 t810)) else (laws_FnCrashes.j1 kj10 t785 t786 true t782 t783 t784 t808 t809 t810))) else (laws_FnCrashes.j1 kj10 t785 t786 true t782 t783 t784 t808 t809 t810)) = some r := H
            have A51 := Aside0.mk A510
            clear A510
            have HC52 := Aside0.mk H
            clear H
            go_upto_region 14 with (first | ((with_reducible refine gate_callee (f := 28) rfl ?_); refine goesL_ (some 88) rfl rfl Tryd.func28 (by kernel_rfl) rfl #[.string t788] rfl z41_3 ?_; (with_reducible refine (impl_RecoverLog.calls kj10 t788 t808 t809 t810 t811 t812 _ ?side1 A51.out).mono ?_); (case side1 => exact Glob.below HGL.out z41_4); rintro e w53 ⟨rfl, hb⟩; refine ⟨_, rfl, ?_⟩; have n0_ := Aside0.mk (blk_below (g := gb787) (o := .cells #[.string t782, .string t783, .int .i64 t784] 42 (0, 0)) z41_1 hb); have n1_ := Aside0.mk (blk_below (g := gb801) (o := .cells #[.string t796, .string t797, .int .i64 t798] 42 (0, 0)) z41_5 hb); have n2_ := Aside0.mk (blk_below (g := gb807) (o := .cells #[.string t802, .string t803, .int .i64 t804] 42 (0, 0)) z41_9 hb); have n3_ := Aside0.mk (below_step z41_4 hb); clear BK787; clear BK801; clear BK807; clear HB; have BK787 := n0_; have BK801 := n1_; have BK807 := n2_; have HB := n3_; clear n0_ n1_ n2_ n3_; (try clear hb); (try clear hb2); (try clear hk); (try clear hi)) | ((with_reducible refine gate_dst (N := 17) rfl ?_); (try (refine gate_guard (by rfl) ?_; dsimp only)); refine box_event ?hg (N := 17) ?hd (cs := #[.string (⟨#[]⟩ : ByteArray), .string (⟨#[]⟩ : ByteArray), .int .i64 0]) (t := 42) ?hr ?_; (case hd => rfl); (case hg => rfl); (case hr => first | (go_simp; done) | (go_simp; rfl)); intro gb813 hg w54 hbox hb; have n0_ := Aside0.mk (blk_below (g := gb787) (o := .cells #[.string t782, .string t783, .int .i64 t784] 42 (0, 0)) z41_1 hb); have n1_ := Aside0.mk (blk_below (g := gb801) (o := .cells #[.string t796, .string t797, .int .i64 t798] 42 (0, 0)) z41_5 hb); have n2_ := Aside0.mk (blk_below (g := gb807) (o := .cells #[.string t802, .string t803, .int .i64 t804] 42 (0, 0)) z41_9 hb); have n3_ := Aside0.mk (below_step z41_4 hb); have n4_ := Aside0.mk (hbox); have n5_ := Aside0.mk ((by rw [hg]; exact (below_size z41_4) : w.heap.size ≤ gb813)); have n6_ := Aside0.mk ((by rw [hg]; exact (below_size z41_4) : w.heap.size ≤ gb813)); have n7_ := Aside0.mk ((z41_23 : gb787 ≠ gb813)); have n8_ := Aside0.mk ((z41_24 : gb813 ≠ gb787)); have n9_ := Aside0.mk ((by rw [hg]; exact Nat.ne_of_lt (blk_lt (g := gb801) (o := .cells #[.string t796, .string t797, .int .i64 t798] 42 (0, 0)) z41_5) : gb801 ≠ gb813)); have n10_ := Aside0.mk ((by rw [hg]; exact Nat.ne_of_gt (blk_lt (g := gb801) (o := .cells #[.string t796, .string t797, .int .i64 t798] 42 (0, 0)) z41_5) : gb813 ≠ gb801)); have n11_ := Aside0.mk ((by rw [hg]; exact Nat.ne_of_lt (blk_lt (g := gb807) (o := .cells #[.string t802, .string t803, .int .i64 t804] 42 (0, 0)) z41_9) : gb807 ≠ gb813)); have n12_ := Aside0.mk ((by rw [hg]; exact Nat.ne_of_gt (blk_lt (g := gb807) (o := .cells #[.string t802, .string t803, .int .i64 t804] 42 (0, 0)) z41_9) : gb813 ≠ gb807)); clear BK787; clear BK801; clear BK807; clear HB; have BK787 := n0_; have BK801 := n1_; have BK807 := n2_; have HB := n3_; have BK813 := n4_; have GW813 := n5_; have GE813 := n6_; have NB787_813 := n7_; have NB813_787 := n8_; have NB801_813 := n9_; have NB813_801 := n10_; have NB807_813 := n11_; have NB813_807 := n12_; clear n0_ n1_ n2_ n3_ n4_ n5_ n6_ n7_ n8_ n9_ n10_ n11_ n12_; clear hb hbox hg; have hnb55 := NB813_787.out; have hnc55 := NB787_813.out; have hnb56 := NB813_801.out; have hnc56 := NB801_813.out; have hnb57 := NB813_807.out; have hnc57 := NB807_813.out; have hcz58_0 : w54.cell? ⟨gb813, 0, none⟩ = some (.string (⟨#[]⟩ : ByteArray)) := (blk_cell BK813.out 0).trans rfl; have hcz58_1 : w54.cell? ⟨gb813, 1, none⟩ = some (.string (⟨#[]⟩ : ByteArray)) := (blk_cell BK813.out 1).trans rfl; have hcz58_2 : w54.cell? ⟨gb813, 2, none⟩ = some (.int .i64 0) := (blk_cell BK813.out 2).trans rfl; have hfz58_0 := blk_frozen BK813.out 0; have hfz58_1 := blk_frozen BK813.out 1; have hfz58_2 := blk_frozen BK813.out 2))
            (try simp only [Act.put, List.setIfInBounds_toArray, List.set_cons_zero, List.set_cons_succ])
            go_cut [112] (fun v112 wc => ∃ (kq : Nat) (x112_51 : Bool), v112 = .bool x112_51 ∧ Aside0 (laws_FnCrashes.j1 kq t785 t786 x112_51 t782 t783 t784 t808 t809 t810 = some r) ∧ Aside0 (kq ≤ kj10) ∧ Aside0 (wc.heap[gb787]? = some (.cells #[.string t782, .string t783, .int .i64 t784] 42 (0, 0))) ∧ Aside0 (wc.heap[gb801]? = some (.cells #[.string t796, .string t797, .int .i64 t798] 42 (0, 0))) ∧ Aside0 (wc.heap[gb807]? = some (.cells #[.string t802, .string t803, .int .i64 t804] 42 (0, 0))) ∧ Aside0 (wc.heap[gb813]? = some (.cells #[.string t808, .string t809, .int .i64 t810] 42 (0, 0))) ∧ Aside0 (Below w.heap.size w wc))
            case first =>
              have H := HC52.out
              clear HC52
              by_cases c59 : t812 = true
              · subst c59
                have H1 : ((impl_IsValidLog.f kj10 t808 t809 t810).bind fun t814 => (if t814 = true then (if t811 < (t782.size : Int) then (laws_FnCrashes.j1 kj10 t785 t786 true t782 t783 t784 t808 t809 t810) else (laws_FnCrashes.j1 kj10 t785 t786 ((t808.size : Int) != t811) t782 t783 t784 t808 t809 t810)) else (laws_FnCrashes.j1 kj10 t785 t786 true t782 t783 t784 t808 t809 t810))) = some r := by rw [if_pos rfl] at H; exact H
                clear H
                have H := H1
                clear H1
                replace H := Option.bind_eq_some_iff.mp H
                obtain ⟨t814, A600, H⟩ := H
                replace H : (if t814 = true then (if t811 < (t782.size : Int) then (laws_FnCrashes.j1 kj10 t785 t786 true t782 t783 t784 t808 t809 t810) else (laws_FnCrashes.j1 kj10 t785 t786 ((t808.size : Int) != t811) t782 t783 t784 t808 t809 t810)) else (laws_FnCrashes.j1 kj10 t785 t786 true t782 t783 t784 t808 t809 t810)) = some r := H
                have A60 := Aside0.mk A600
                clear A600
                by_cases c61 : t814 = true
                · subst c61
                  have H1 : (if t811 < (t782.size : Int) then (laws_FnCrashes.j1 kj10 t785 t786 true t782 t783 t784 t808 t809 t810) else (laws_FnCrashes.j1 kj10 t785 t786 ((t808.size : Int) != t811) t782 t783 t784 t808 t809 t810)) = some r := by rw [if_pos rfl] at H; exact H
                  clear H
                  have H := H1
                  clear H1
                  by_cases c62 : t811 < (t782.size : Int)
                  · rw [if_pos c62] at H
                    have c62b0 : decide (t811 < (t782.size : Int)) = true := decide_eq_true c62
                    clear c62
                    (first | rw [c62b0] | (simp only [i64_w, i32_w]; rw [c62b0]) | skip)
                    have H' := Aside0.mk H
                    clear H
                    have hnb63 := NB813_787.out
                    have hnc63 := NB787_813.out
                    have hnb64 := NB813_801.out
                    have hnc64 := NB801_813.out
                    have hnb65 := NB813_807.out
                    have hnc65 := NB807_813.out
                    have hcz66_0 : w54.cell? ⟨gb813, 0, none⟩ = some (.string (⟨#[]⟩ : ByteArray)) := (blk_cell BK813.out 0).trans rfl
                    have hcz66_1 : w54.cell? ⟨gb813, 1, none⟩ = some (.string (⟨#[]⟩ : ByteArray)) := (blk_cell BK813.out 1).trans rfl
                    have hcz66_2 : w54.cell? ⟨gb813, 2, none⟩ = some (.int .i64 0) := (blk_cell BK813.out 2).trans rfl
                    have hfz66_0 := blk_frozen BK813.out 0
                    have hfz66_1 := blk_frozen BK813.out 1
                    have hfz66_2 := blk_frozen BK813.out 2
                    go_wp2_with (first | (go_at_call 33; (with_reducible refine (impl_IsValidLog.calls kj10 t808 t809 t810 true _ ?side1 A60.out).mono ?_); (case side1 => exact Glob.below HGL.out z41_0); rintro e w67 ⟨rfl, hb⟩; have n0_ := Aside0.mk (blk_below (g := gb787) (o := .cells #[.string t782, .string t783, .int .i64 t784] 42 (0, 0)) z41_11 hb); have n1_ := Aside0.mk (blk_below (g := gb801) (o := .cells #[.string t796, .string t797, .int .i64 t798] 42 (0, 0)) z41_12 hb); have n2_ := Aside0.mk (blk_below (g := gb807) (o := .cells #[.string t802, .string t803, .int .i64 t804] 42 (0, 0)) z41_13 hb); have n3_ := Aside0.mk (blk_below (g := gb813) (o := .cells #[.string t808, .string t809, .int .i64 t810] 42 (0, 0)) z41_6 hb); have n4_ := Aside0.mk (below_step z41_0 hb); clear BK787; clear BK801; clear BK807; clear BK813; clear HB; have BK787 := n0_; have BK801 := n1_; have BK807 := n2_; have BK813 := n3_; have HB := n4_; clear n0_ n1_ n2_ n3_ n4_; (try clear hb); (try clear hb2); (try clear hk); (try clear hi); have hnb68 := NB787_801.out; have hnc68 := NB801_787.out; have hnb69 := NB787_807.out; have hnc69 := NB807_787.out; have hcz70_0 : w67.cell? ⟨gb787, 0, none⟩ = some (.string t782) := (blk_cell BK787.out 0).trans rfl; have hcz70_1 : w67.cell? ⟨gb787, 1, none⟩ = some (.string t783) := (blk_cell BK787.out 1).trans rfl; have hcz70_2 : w67.cell? ⟨gb787, 2, none⟩ = some (.int .i64 t784) := (blk_cell BK787.out 2).trans rfl; have hfz70_0 := blk_frozen BK787.out 0; have hfz70_1 := blk_frozen BK787.out 1; have hfz70_2 := blk_frozen BK787.out 2))
                    go_meet
                    case rel => exact ⟨_, (true), z41_21, H', ⟨by have := HJ10.out; first | omega | exact Nat.le_refl _⟩, ⟨z41_1⟩, ⟨z41_5⟩, ⟨z41_9⟩, ⟨z41_14⟩, ⟨z41_0⟩⟩
                  · rw [if_neg c62] at H
                    have c62b0 : decide (t811 < (t782.size : Int)) = false := decide_eq_false c62
                    clear c62
                    (first | rw [c62b0] | (simp only [i64_w, i32_w]; rw [c62b0]) | skip)
                    have H' := Aside0.mk H
                    clear H
                    have hnb71 := NB813_787.out
                    have hnc71 := NB787_813.out
                    have hnb72 := NB813_801.out
                    have hnc72 := NB801_813.out
                    have hnb73 := NB813_807.out
                    have hnc73 := NB807_813.out
                    have hcz74_0 : w54.cell? ⟨gb813, 0, none⟩ = some (.string (⟨#[]⟩ : ByteArray)) := (blk_cell BK813.out 0).trans rfl
                    have hcz74_1 : w54.cell? ⟨gb813, 1, none⟩ = some (.string (⟨#[]⟩ : ByteArray)) := (blk_cell BK813.out 1).trans rfl
                    have hcz74_2 : w54.cell? ⟨gb813, 2, none⟩ = some (.int .i64 0) := (blk_cell BK813.out 2).trans rfl
                    have hfz74_0 := blk_frozen BK813.out 0
                    have hfz74_1 := blk_frozen BK813.out 1
                    have hfz74_2 := blk_frozen BK813.out 2
                    go_wp2_with (first | (go_at_call 33; (with_reducible refine (impl_IsValidLog.calls kj10 t808 t809 t810 true _ ?side1 A60.out).mono ?_); (case side1 => exact Glob.below HGL.out z41_0); rintro e w75 ⟨rfl, hb⟩; have n0_ := Aside0.mk (blk_below (g := gb787) (o := .cells #[.string t782, .string t783, .int .i64 t784] 42 (0, 0)) z41_11 hb); have n1_ := Aside0.mk (blk_below (g := gb801) (o := .cells #[.string t796, .string t797, .int .i64 t798] 42 (0, 0)) z41_12 hb); have n2_ := Aside0.mk (blk_below (g := gb807) (o := .cells #[.string t802, .string t803, .int .i64 t804] 42 (0, 0)) z41_13 hb); have n3_ := Aside0.mk (blk_below (g := gb813) (o := .cells #[.string t808, .string t809, .int .i64 t810] 42 (0, 0)) z41_6 hb); have n4_ := Aside0.mk (below_step z41_0 hb); clear BK787; clear BK801; clear BK807; clear BK813; clear HB; have BK787 := n0_; have BK801 := n1_; have BK807 := n2_; have BK813 := n3_; have HB := n4_; clear n0_ n1_ n2_ n3_ n4_; (try clear hb); (try clear hb2); (try clear hk); (try clear hi); have hnb76 := NB787_801.out; have hnc76 := NB801_787.out; have hnb77 := NB787_807.out; have hnc77 := NB807_787.out; have hcz78_0 : w75.cell? ⟨gb787, 0, none⟩ = some (.string t782) := (blk_cell BK787.out 0).trans rfl; have hcz78_1 : w75.cell? ⟨gb787, 1, none⟩ = some (.string t783) := (blk_cell BK787.out 1).trans rfl; have hcz78_2 : w75.cell? ⟨gb787, 2, none⟩ = some (.int .i64 t784) := (blk_cell BK787.out 2).trans rfl; have hfz78_0 := blk_frozen BK787.out 0; have hfz78_1 := blk_frozen BK787.out 1; have hfz78_2 := blk_frozen BK787.out 2; have hcz79_0 : w75.cell? ⟨gb813, 0, none⟩ = some (.string t808) := (blk_cell BK813.out 0).trans rfl; have hcz79_1 : w75.cell? ⟨gb813, 1, none⟩ = some (.string t809) := (blk_cell BK813.out 1).trans rfl; have hcz79_2 : w75.cell? ⟨gb813, 2, none⟩ = some (.int .i64 t810) := (blk_cell BK813.out 2).trans rfl; have hfz79_0 := blk_frozen BK813.out 0; have hfz79_1 := blk_frozen BK813.out 1; have hfz79_2 := blk_frozen BK813.out 2))
                    go_meet
                    case rel => exact ⟨_, (((t808.size : Int) != t811)), z41_21, H', ⟨by have := HJ10.out; first | omega | exact Nat.le_refl _⟩, ⟨z41_1⟩, ⟨z41_5⟩, ⟨z41_9⟩, ⟨z41_14⟩, ⟨z41_0⟩⟩
                · replace c61 := Bool.eq_false_iff.mpr c61
                  subst c61
                  have H1 : (laws_FnCrashes.j1 kj10 t785 t786 true t782 t783 t784 t808 t809 t810) = some r := by rw [if_neg (show ¬ (false = true) by decide)] at H; exact H
                  clear H
                  have H := H1
                  clear H1
                  have H' := Aside0.mk H
                  clear H
                  have hnb80 := NB813_787.out
                  have hnc80 := NB787_813.out
                  have hnb81 := NB813_801.out
                  have hnc81 := NB801_813.out
                  have hnb82 := NB813_807.out
                  have hnc82 := NB807_813.out
                  have hcz83_0 : w54.cell? ⟨gb813, 0, none⟩ = some (.string (⟨#[]⟩ : ByteArray)) := (blk_cell BK813.out 0).trans rfl
                  have hcz83_1 : w54.cell? ⟨gb813, 1, none⟩ = some (.string (⟨#[]⟩ : ByteArray)) := (blk_cell BK813.out 1).trans rfl
                  have hcz83_2 : w54.cell? ⟨gb813, 2, none⟩ = some (.int .i64 0) := (blk_cell BK813.out 2).trans rfl
                  have hfz83_0 := blk_frozen BK813.out 0
                  have hfz83_1 := blk_frozen BK813.out 1
                  have hfz83_2 := blk_frozen BK813.out 2
                  go_wp2_with (first | (go_at_call 33; (with_reducible refine (impl_IsValidLog.calls kj10 t808 t809 t810 false _ ?side1 A60.out).mono ?_); (case side1 => exact Glob.below HGL.out z41_0); rintro e w84 ⟨rfl, hb⟩; have n0_ := Aside0.mk (blk_below (g := gb787) (o := .cells #[.string t782, .string t783, .int .i64 t784] 42 (0, 0)) z41_11 hb); have n1_ := Aside0.mk (blk_below (g := gb801) (o := .cells #[.string t796, .string t797, .int .i64 t798] 42 (0, 0)) z41_12 hb); have n2_ := Aside0.mk (blk_below (g := gb807) (o := .cells #[.string t802, .string t803, .int .i64 t804] 42 (0, 0)) z41_13 hb); have n3_ := Aside0.mk (blk_below (g := gb813) (o := .cells #[.string t808, .string t809, .int .i64 t810] 42 (0, 0)) z41_6 hb); have n4_ := Aside0.mk (below_step z41_0 hb); clear BK787; clear BK801; clear BK807; clear BK813; clear HB; have BK787 := n0_; have BK801 := n1_; have BK807 := n2_; have BK813 := n3_; have HB := n4_; clear n0_ n1_ n2_ n3_ n4_; (try clear hb); (try clear hb2); (try clear hk); (try clear hi)))
                  go_meet
                  case rel => exact ⟨_, (true), z41_21, H', ⟨by have := HJ10.out; first | omega | exact Nat.le_refl _⟩, ⟨z41_1⟩, ⟨z41_5⟩, ⟨z41_9⟩, ⟨z41_14⟩, ⟨z41_0⟩⟩
              · replace c59 := Bool.eq_false_iff.mpr c59
                subst c59
                have H1 : (laws_FnCrashes.j1 kj10 t785 t786 true t782 t783 t784 t808 t809 t810) = some r := by rw [if_neg (show ¬ (false = true) by decide)] at H; exact H
                clear H
                have H := H1
                clear H1
                have H' := Aside0.mk H
                clear H
                go_wp2
                go_meet
                case rel => exact ⟨_, (true), z41_21, H', ⟨by have := HJ10.out; first | omega | exact Nat.le_refl _⟩, ⟨z41_11⟩, ⟨z41_12⟩, ⟨z41_13⟩, ⟨z41_6⟩, ⟨z41_0⟩⟩
            case rest =>
              clear HC52
              try clear c1
              try clear c2
              try clear p2
              try clear c3
              try clear c4
              try clear c5
              try clear c6
              try clear c7
              try clear c8
              try clear c12
              try clear c14
              try clear c23
              try clear c27
              try clear c28
              try clear c30
              try clear c30b0
              try clear c30b1
              try clear c31
              try clear c31b0
              try clear c31b1
              try clear c31b2
              try clear c32
              try clear c32b0
              try clear c33
              try clear c34
              try clear c35
              try clear c36
              try clear c38
              try clear c38b0
              try clear c38b1
              try clear c39
              try clear c40
              try clear c42
              try clear c44
              try clear c45
              try clear c47
              try clear c49
              try clear c50
              try clear c53
              try clear c54
              try clear c55
              try clear c56
              try clear c57
              try clear c59
              try clear c61
              try clear c62
              try clear c62b0
              try clear c63
              try clear c64
              try clear c65
              try clear c68
              try clear c69
              try clear c71
              try clear c72
              try clear c73
              try clear c76
              try clear c77
              try clear c80
              try clear c81
              try clear c82
              try clear hcz14_0
              try clear hcz14_1
              try clear hcz14_2
              try clear hcz16_0
              try clear hcz16_1
              try clear hcz16_2
              try clear hcz24_0
              try clear hcz24_1
              try clear hcz24_2
              try clear hcz29_0
              try clear hcz29_1
              try clear hcz29_2
              try clear hcz35_0
              try clear hcz35_1
              try clear hcz35_2
              try clear hcz37_0
              try clear hcz37_1
              try clear hcz37_2
              try clear hcz41_0
              try clear hcz41_1
              try clear hcz41_2
              try clear hcz43_0
              try clear hcz43_1
              try clear hcz43_2
              try clear hcz46_0
              try clear hcz46_1
              try clear hcz46_2
              try clear hcz48_0
              try clear hcz48_1
              try clear hcz48_2
              try clear hcz58_0
              try clear hcz58_1
              try clear hcz58_2
              try clear hcz66_0
              try clear hcz66_1
              try clear hcz66_2
              try clear hcz70_0
              try clear hcz70_1
              try clear hcz70_2
              try clear hcz74_0
              try clear hcz74_1
              try clear hcz74_2
              try clear hcz78_0
              try clear hcz78_1
              try clear hcz78_2
              try clear hcz79_0
              try clear hcz79_1
              try clear hcz79_2
              try clear hcz83_0
              try clear hcz83_1
              try clear hcz83_2
              try clear hfz14_0
              try clear hfz14_1
              try clear hfz14_2
              try clear hfz16_0
              try clear hfz16_1
              try clear hfz16_2
              try clear hfz24_0
              try clear hfz24_1
              try clear hfz24_2
              try clear hfz29_0
              try clear hfz29_1
              try clear hfz29_2
              try clear hfz35_0
              try clear hfz35_1
              try clear hfz35_2
              try clear hfz37_0
              try clear hfz37_1
              try clear hfz37_2
              try clear hfz41_0
              try clear hfz41_1
              try clear hfz41_2
              try clear hfz43_0
              try clear hfz43_1
              try clear hfz43_2
              try clear hfz46_0
              try clear hfz46_1
              try clear hfz46_2
              try clear hfz48_0
              try clear hfz48_1
              try clear hfz48_2
              try clear hfz58_0
              try clear hfz58_1
              try clear hfz58_2
              try clear hfz66_0
              try clear hfz66_1
              try clear hfz66_2
              try clear hfz70_0
              try clear hfz70_1
              try clear hfz70_2
              try clear hfz74_0
              try clear hfz74_1
              try clear hfz74_2
              try clear hfz78_0
              try clear hfz78_1
              try clear hfz78_2
              try clear hfz79_0
              try clear hfz79_1
              try clear hfz79_2
              try clear hfz83_0
              try clear hfz83_1
              try clear hfz83_2
              try clear p2
              obtain ⟨kq, x112_51, rfl, HA, HJ51, BK787, BK801, BK807, BK813, HB⟩ := hcut
              cases kq with
              | zero => exact absurd HA.out (by simp [laws_FnCrashes.j1])
              | succ kj51 =>
                have H := HA.out
                clear HA
                simp only [laws_FnCrashes.j1] at H
                by_cases c85 : x112_51 = true
                · subst c85
                  have H1 : (some false) = some r := by rw [if_pos rfl] at H; exact H
                  clear H
                  have H := H1
                  clear H1
                  obtain rfl := Option.some.inj H
                  go_wp2
                  go_ret
                  exact ⟨z41_16, z41_0⟩
                · replace c85 := Bool.eq_false_iff.mpr c85
                  subst c85
                  have H1 : ((impl_LogRecords.f kj51 t782 t783 t784).bind fun bt815 => ((impl_LogRecords.f kj51 t808 t809 t810).bind fun bt819 => (if (bt819.1.length : Int) ≤ (bt815.1.length : Int) then (if 0 ≤ (bt819.1.length : Int) then ((laws_vRecords.f kj51 bt819.1 (bt815.1.take ((bt819.1.length : Int) : Int).toNat)).bind fun t827 => (if t827 = true then (if t786 = true then (some true) else (if t785 < (t783.size : Int) then (some true) else (some ((bt819.1.length : Int) == (bt815.1.length : Int))))) else (some false))) else (none)) else (some false)))) = some r := by rw [if_neg (show ¬ (false = true) by decide)] at H; exact H
                  clear H
                  have H := H1
                  clear H1
                  replace H := Option.bind_eq_some_iff.mp H
                  obtain ⟨⟨t815, t818⟩, A860, H⟩ := H
                  replace H : ((impl_LogRecords.f kj51 t808 t809 t810).bind fun bt819 => (if (bt819.1.length : Int) ≤ (t815.length : Int) then (if 0 ≤ (bt819.1.length : Int) then ((laws_vRecords.f kj51 bt819.1 (t815.take ((bt819.1.length : Int) : Int).toNat)).bind fun t827 => (if t827 = true then (if t786 = true then (some true) else (if t785 < (t783.size : Int) then (some true) else (some ((bt819.1.length : Int) == (t815.length : Int))))) else (some false))) else (none)) else (some false))) = some r := H
                  have A86 := Aside0.mk A860
                  clear A860
                  replace H := Option.bind_eq_some_iff.mp H
                  obtain ⟨⟨t819, t822⟩, A870, H⟩ := H
                  replace H : (if (t819.length : Int) ≤ (t815.length : Int) then (if 0 ≤ (t819.length : Int) then ((laws_vRecords.f kj51 t819 (t815.take ((t819.length : Int) : Int).toNat)).bind fun t827 => (if t827 = true then (if t786 = true then (some true) else (if t785 < (t783.size : Int) then (some true) else (some ((t819.length : Int) == (t815.length : Int))))) else (some false))) else (none)) else (some false)) = some r := H
                  have A87 := Aside0.mk A870
                  clear A870
                  by_cases c88 : (t819.length : Int) ≤ (t815.length : Int)
                  · rw [if_pos c88] at H
                    have c88b0 : decide ((t819.length : Int) ≤ (t815.length : Int)) = true := decide_eq_true c88
                    have c88b1 : decide (t819.length ≤ t815.length) = true := decide_eq_true (Int.ofNat_le.mp c88)
                    clear c88
                    by_cases c89 : 0 ≤ (t819.length : Int)
                    · rw [if_pos c89] at H
                      have c89b0 := eq_true c89
                      have c89b1 : decide (0 ≤ (t819.length : Int)) = true := decide_eq_true c89
                      clear c89
                      have c90b0 := eq_true (of_decide_eq_true z41_20 : (t819.length : Int) ≤ (t815.length : Int))
                      obtain ⟨y823, hy823⟩ : ∃ y_ : List (S38), y_ = (t815.take ((t819.length : Int) : Int).toNat) := ⟨_, rfl⟩
                      replace H : ((laws_vRecords.f kj51 t819 y823).bind fun t827 => (if t827 = true then (if t786 = true then (some true) else (if t785 < (t783.size : Int) then (some true) else (some ((t819.length : Int) == (t815.length : Int))))) else (some false))) = some r := by first | (rw [hy823]; with_reducible exact H) | (have H2_ := (Option.bind_some _ _).symm.trans H; rw [hy823]; with_reducible exact H2_) | (have H2_ := (Option.bind_some _ _).symm.trans H; with_reducible exact H2_) | with_reducible exact H | (rw [hy823]; exact H) | exact H
                      have Ny823 := Aside0.mk hy823
                      clear hy823
                      replace H := Option.bind_eq_some_iff.mp H
                      obtain ⟨t827, A910, H⟩ := H
                      replace H : (if t827 = true then (if t786 = true then (some true) else (if t785 < (t783.size : Int) then (some true) else (some ((t819.length : Int) == (t815.length : Int))))) else (some false)) = some r := H
                      have A91 := Aside0.mk A910
                      clear A910
                      by_cases c92 : t827 = true
                      · subst c92
                        have H1 : (if t786 = true then (some true) else (if t785 < (t783.size : Int) then (some true) else (some ((t819.length : Int) == (t815.length : Int))))) = some r := by rw [if_pos rfl] at H; exact H
                        clear H
                        have H := H1
                        clear H1
                        by_cases c93 : t786 = true
                        · subst c93
                          have H1 : (some true) = some r := by rw [if_pos rfl] at H; exact H
                          clear H
                          have H := H1
                          clear H1
                          obtain rfl := Option.some.inj H
                          have hnb94 := NB787_801.out
                          have hnc94 := NB801_787.out
                          have hnb95 := NB787_807.out
                          have hnc95 := NB807_787.out
                          have hnb96 := NB787_813.out
                          have hnc96 := NB813_787.out
                          have hcz97_0 : wc.cell? ⟨gb787, 0, none⟩ = some (.string t782) := (blk_cell BK787.out 0).trans rfl
                          have hcz97_1 : wc.cell? ⟨gb787, 1, none⟩ = some (.string t783) := (blk_cell BK787.out 1).trans rfl
                          have hcz97_2 : wc.cell? ⟨gb787, 2, none⟩ = some (.int .i64 t784) := (blk_cell BK787.out 2).trans rfl
                          have hfz97_0 := blk_frozen BK787.out 0
                          have hfz97_1 := blk_frozen BK787.out 1
                          have hfz97_2 := blk_frozen BK787.out 2
                          go_wp2_with (first | ((with_reducible refine gate_callee (f := 41) rfl ?_); refine goesL_ (some 115) rfl rfl Tryd.func41 (by kernel_rfl) rfl #[.agg #[.string t782, .string t783, .int .i64 t784]] rfl z41_3 ?_; (with_reducible refine (impl_LogRecords.calls kj51 t782 t783 t784 t815 t818 _ ?side1 A86.out).mono ?_); (case side1 => exact Glob.below HGL.out z41_0); rintro e w98 ⟨v816, rfl, ho0, hb⟩; refine ⟨_, rfl, ?_⟩; have n0_ := Aside0.mk (Kd.R_lower ho0 (below_size z41_0)); have n1_ := Aside0.mk (blk_below (g := gb787) (o := .cells #[.string t782, .string t783, .int .i64 t784] 42 (0, 0)) z41_1 hb); have n2_ := Aside0.mk (blk_below (g := gb801) (o := .cells #[.string t796, .string t797, .int .i64 t798] 42 (0, 0)) z41_5 hb); have n3_ := Aside0.mk (blk_below (g := gb807) (o := .cells #[.string t802, .string t803, .int .i64 t804] 42 (0, 0)) z41_9 hb); have n4_ := Aside0.mk (blk_below (g := gb813) (o := .cells #[.string t808, .string t809, .int .i64 t810] 42 (0, 0)) z41_14 hb); have n5_ := Aside0.mk (below_step z41_0 hb); clear BK787; clear BK801; clear BK807; clear BK813; clear HB; have HO817 := n0_; have BK787 := n1_; have BK801 := n2_; have BK807 := n3_; have BK813 := n4_; have HB := n5_; clear n0_ n1_ n2_ n3_ n4_ n5_; (try clear hb); (try clear hb2); (try clear hk); (try clear hi); (try clear ho0); have hnb99 := NB813_801.out; have hnc99 := NB801_813.out; have hnb100 := NB813_807.out; have hnc100 := NB807_813.out; have hcz101_0 : w98.cell? ⟨gb813, 0, none⟩ = some (.string t808) := (blk_cell BK813.out 0).trans rfl; have hcz101_1 : w98.cell? ⟨gb813, 1, none⟩ = some (.string t809) := (blk_cell BK813.out 1).trans rfl; have hcz101_2 : w98.cell? ⟨gb813, 2, none⟩ = some (.int .i64 t810) := (blk_cell BK813.out 2).trans rfl; have hfz101_0 := blk_frozen BK813.out 0; have hfz101_1 := blk_frozen BK813.out 1; have hfz101_2 := blk_frozen BK813.out 2) | ((with_reducible refine gate_callee (f := 41) rfl ?_); refine goesL_ (some 120) rfl rfl Tryd.func41 (by kernel_rfl) rfl #[.agg #[.string t808, .string t809, .int .i64 t810]] rfl z41_3 ?_; (with_reducible refine (impl_LogRecords.calls kj51 t808 t809 t810 t819 t822 _ ?side1 A87.out).mono ?_); (case side1 => exact Glob.below HGL.out z41_0); rintro e w102 ⟨v820, rfl, ho0, hb⟩; refine ⟨_, rfl, ?_⟩; have n0_ := Aside0.mk (Kd.R_elder' z41_15 (Kd.R_base ho0) hb); have n1_ := Aside0.mk (Kd.R_lower (Kd.R_new' ho0 (Kd.R_lt z41_15)) (below_size z41_0)); have n2_ := Aside0.mk (blk_below (g := gb787) (o := .cells #[.string t782, .string t783, .int .i64 t784] 42 (0, 0)) z41_1 hb); have n3_ := Aside0.mk (blk_below (g := gb801) (o := .cells #[.string t796, .string t797, .int .i64 t798] 42 (0, 0)) z41_5 hb); have n4_ := Aside0.mk (blk_below (g := gb807) (o := .cells #[.string t802, .string t803, .int .i64 t804] 42 (0, 0)) z41_9 hb); have n5_ := Aside0.mk (blk_below (g := gb813) (o := .cells #[.string t808, .string t809, .int .i64 t810] 42 (0, 0)) z41_14 hb); have n6_ := Aside0.mk (below_step z41_0 hb); clear HO817; clear BK787; clear BK801; clear BK807; clear BK813; clear HB; have HO817 := n0_; have HO821 := n1_; have BK787 := n2_; have BK801 := n3_; have BK807 := n4_; have BK813 := n5_; have HB := n6_; clear n0_ n1_ n2_ n3_ n4_ n5_ n6_; (try clear hb); (try clear hb2); (try clear hk); (try clear hi); (try clear ho0); obtain ⟨Ao103, co103, eo103⟩ := Kd.R_slice HO821.out; subst eo103; obtain ⟨Ao104, co104, eo104⟩ := Kd.R_slice HO817.out; subst eo104; have q105 : ((t819.length : Int) : Int) ≤ ((t815.length : Int) : Int) := of_decide_eq_true z41_20; obtain ⟨i0105, hi0105, _, hsz105, _⟩ := info_parts info38; have hroom105 : t815.length ≤ co104 := (Kd.R_reads' HO817.out).2.1; have hC105 : Kd.C k38 _ Ao104 t815.length t815 := (Kd.R_reads' HO817.out).2.2; have hcut105 := cut_to (P := Tryd.prog) 59 38 .i64 Tryd.underlying59 hi0105 Ao104 t815.length co104 (t819.length : Int) (of_decide_eq_true z41_20) q105 hroom105; have hr105 := Kd.C_take (m := ((t819.length : Int) : Int).toNat) hC105 (by omega); have hy105 : y823.length = ((t819.length : Int) : Int).toNat := (by rw [Ny823.out, List.length_take]; omega); rw [← Ny823.out] at hr105; rw [← hy105] at hcut105; have HR826 := Aside0.mk hr105; have HC826 := Aside0.mk (show y823.length ≤ co104 from by omega); clear hr105 hC105 hroom105 hi0105 hsz105; have KY105 := Aside0.mk hy105; clear hy105; have KL105 := Aside0.mk (show ((t819.length : Int) : Int).toNat ≤ t815.length from by omega); replace q105 := eq_true q105) | (go_at_call 52; (with_reducible refine (laws_vRecords.calls kj51 _ _ t819 _ _ y823 true _ ?side1 ?side2 ?side3 ?side4 A91.out).mono ?_); (case side1 => repeat (first | exact (Kd.R_reads' HO821.out).2.2 | (with_reducible refine Kd.C_alloc ?_ _) | (with_reducible refine Kd.C_drewN ?_ _) | (with_reducible refine Kd.C_drew ?_))); (case side2 => exact (Kd.R_reads' HO821.out).2.1); (case side3 => repeat (first | exact z41_18 | (with_reducible refine Kd.C_alloc ?_ _) | (with_reducible refine Kd.C_drewN ?_ _) | (with_reducible refine Kd.C_drew ?_))); (case side4 => exact HC826.out); rintro e w' ⟨rfl, ⟨nd, rfl⟩⟩))
                          go_ret
                          exact ⟨z41_16, z41_0⟩
                        · replace c93 := Bool.eq_false_iff.mpr c93
                          subst c93
                          have H1 : (if t785 < (t783.size : Int) then (some true) else (some ((t819.length : Int) == (t815.length : Int)))) = some r := by rw [if_neg (show ¬ (false = true) by decide)] at H; exact H
                          clear H
                          have H := H1
                          clear H1
                          by_cases c106 : t785 < (t783.size : Int)
                          · rw [if_pos c106] at H
                            have c106b0 : decide (t785 < (t783.size : Int)) = true := decide_eq_true c106
                            clear c106
                            obtain rfl := Option.some.inj H
                            have hnb107 := NB787_801.out
                            have hnc107 := NB801_787.out
                            have hnb108 := NB787_807.out
                            have hnc108 := NB807_787.out
                            have hnb109 := NB787_813.out
                            have hnc109 := NB813_787.out
                            have hcz110_0 : wc.cell? ⟨gb787, 0, none⟩ = some (.string t782) := (blk_cell BK787.out 0).trans rfl
                            have hcz110_1 : wc.cell? ⟨gb787, 1, none⟩ = some (.string t783) := (blk_cell BK787.out 1).trans rfl
                            have hcz110_2 : wc.cell? ⟨gb787, 2, none⟩ = some (.int .i64 t784) := (blk_cell BK787.out 2).trans rfl
                            have hfz110_0 := blk_frozen BK787.out 0
                            have hfz110_1 := blk_frozen BK787.out 1
                            have hfz110_2 := blk_frozen BK787.out 2
                            go_wp2_with (first | ((with_reducible refine gate_callee (f := 41) rfl ?_); refine goesL_ (some 115) rfl rfl Tryd.func41 (by kernel_rfl) rfl #[.agg #[.string t782, .string t783, .int .i64 t784]] rfl z41_3 ?_; (with_reducible refine (impl_LogRecords.calls kj51 t782 t783 t784 t815 t818 _ ?side1 A86.out).mono ?_); (case side1 => exact Glob.below HGL.out z41_0); rintro e w111 ⟨v816, rfl, ho0, hb⟩; refine ⟨_, rfl, ?_⟩; have n0_ := Aside0.mk (Kd.R_lower ho0 (below_size z41_0)); have n1_ := Aside0.mk (blk_below (g := gb787) (o := .cells #[.string t782, .string t783, .int .i64 t784] 42 (0, 0)) z41_1 hb); have n2_ := Aside0.mk (blk_below (g := gb801) (o := .cells #[.string t796, .string t797, .int .i64 t798] 42 (0, 0)) z41_5 hb); have n3_ := Aside0.mk (blk_below (g := gb807) (o := .cells #[.string t802, .string t803, .int .i64 t804] 42 (0, 0)) z41_9 hb); have n4_ := Aside0.mk (blk_below (g := gb813) (o := .cells #[.string t808, .string t809, .int .i64 t810] 42 (0, 0)) z41_14 hb); have n5_ := Aside0.mk (below_step z41_0 hb); clear BK787; clear BK801; clear BK807; clear BK813; clear HB; have HO817 := n0_; have BK787 := n1_; have BK801 := n2_; have BK807 := n3_; have BK813 := n4_; have HB := n5_; clear n0_ n1_ n2_ n3_ n4_ n5_; (try clear hb); (try clear hb2); (try clear hk); (try clear hi); (try clear ho0); have hnb112 := NB813_801.out; have hnc112 := NB801_813.out; have hnb113 := NB813_807.out; have hnc113 := NB807_813.out; have hcz114_0 : w111.cell? ⟨gb813, 0, none⟩ = some (.string t808) := (blk_cell BK813.out 0).trans rfl; have hcz114_1 : w111.cell? ⟨gb813, 1, none⟩ = some (.string t809) := (blk_cell BK813.out 1).trans rfl; have hcz114_2 : w111.cell? ⟨gb813, 2, none⟩ = some (.int .i64 t810) := (blk_cell BK813.out 2).trans rfl; have hfz114_0 := blk_frozen BK813.out 0; have hfz114_1 := blk_frozen BK813.out 1; have hfz114_2 := blk_frozen BK813.out 2) | ((with_reducible refine gate_callee (f := 41) rfl ?_); refine goesL_ (some 120) rfl rfl Tryd.func41 (by kernel_rfl) rfl #[.agg #[.string t808, .string t809, .int .i64 t810]] rfl z41_3 ?_; (with_reducible refine (impl_LogRecords.calls kj51 t808 t809 t810 t819 t822 _ ?side1 A87.out).mono ?_); (case side1 => exact Glob.below HGL.out z41_0); rintro e w115 ⟨v820, rfl, ho0, hb⟩; refine ⟨_, rfl, ?_⟩; have n0_ := Aside0.mk (Kd.R_elder' z41_15 (Kd.R_base ho0) hb); have n1_ := Aside0.mk (Kd.R_lower (Kd.R_new' ho0 (Kd.R_lt z41_15)) (below_size z41_0)); have n2_ := Aside0.mk (blk_below (g := gb787) (o := .cells #[.string t782, .string t783, .int .i64 t784] 42 (0, 0)) z41_1 hb); have n3_ := Aside0.mk (blk_below (g := gb801) (o := .cells #[.string t796, .string t797, .int .i64 t798] 42 (0, 0)) z41_5 hb); have n4_ := Aside0.mk (blk_below (g := gb807) (o := .cells #[.string t802, .string t803, .int .i64 t804] 42 (0, 0)) z41_9 hb); have n5_ := Aside0.mk (blk_below (g := gb813) (o := .cells #[.string t808, .string t809, .int .i64 t810] 42 (0, 0)) z41_14 hb); have n6_ := Aside0.mk (below_step z41_0 hb); clear HO817; clear BK787; clear BK801; clear BK807; clear BK813; clear HB; have HO817 := n0_; have HO821 := n1_; have BK787 := n2_; have BK801 := n3_; have BK807 := n4_; have BK813 := n5_; have HB := n6_; clear n0_ n1_ n2_ n3_ n4_ n5_ n6_; (try clear hb); (try clear hb2); (try clear hk); (try clear hi); (try clear ho0); obtain ⟨Ao116, co116, eo116⟩ := Kd.R_slice HO821.out; subst eo116; obtain ⟨Ao117, co117, eo117⟩ := Kd.R_slice HO817.out; subst eo117; have q118 : ((t819.length : Int) : Int) ≤ ((t815.length : Int) : Int) := of_decide_eq_true z41_20; obtain ⟨i0118, hi0118, _, hsz118, _⟩ := info_parts info38; have hroom118 : t815.length ≤ co117 := (Kd.R_reads' HO817.out).2.1; have hC118 : Kd.C k38 _ Ao117 t815.length t815 := (Kd.R_reads' HO817.out).2.2; have hcut118 := cut_to (P := Tryd.prog) 59 38 .i64 Tryd.underlying59 hi0118 Ao117 t815.length co117 (t819.length : Int) (of_decide_eq_true z41_20) q118 hroom118; have hr118 := Kd.C_take (m := ((t819.length : Int) : Int).toNat) hC118 (by omega); have hy118 : y823.length = ((t819.length : Int) : Int).toNat := (by rw [Ny823.out, List.length_take]; omega); rw [← Ny823.out] at hr118; rw [← hy118] at hcut118; have HR826 := Aside0.mk hr118; have HC826 := Aside0.mk (show y823.length ≤ co117 from by omega); clear hr118 hC118 hroom118 hi0118 hsz118; have KY118 := Aside0.mk hy118; clear hy118; have KL118 := Aside0.mk (show ((t819.length : Int) : Int).toNat ≤ t815.length from by omega); replace q118 := eq_true q118) | (go_at_call 52; (with_reducible refine (laws_vRecords.calls kj51 _ _ t819 _ _ y823 true _ ?side1 ?side2 ?side3 ?side4 A91.out).mono ?_); (case side1 => repeat (first | exact (Kd.R_reads' HO821.out).2.2 | (with_reducible refine Kd.C_alloc ?_ _) | (with_reducible refine Kd.C_drewN ?_ _) | (with_reducible refine Kd.C_drew ?_))); (case side2 => exact (Kd.R_reads' HO821.out).2.1); (case side3 => repeat (first | exact z41_18 | (with_reducible refine Kd.C_alloc ?_ _) | (with_reducible refine Kd.C_drewN ?_ _) | (with_reducible refine Kd.C_drew ?_))); (case side4 => exact HC826.out); rintro e w' ⟨rfl, ⟨nd, rfl⟩⟩; have hcz119_0 : w115.cell? ⟨gb787, 0, none⟩ = some (.string t782) := (blk_cell BK787.out 0).trans rfl; have hcz119_1 : w115.cell? ⟨gb787, 1, none⟩ = some (.string t783) := (blk_cell BK787.out 1).trans rfl; have hcz119_2 : w115.cell? ⟨gb787, 2, none⟩ = some (.int .i64 t784) := (blk_cell BK787.out 2).trans rfl; have hfz119_0 := blk_frozen BK787.out 0; have hfz119_1 := blk_frozen BK787.out 1; have hfz119_2 := blk_frozen BK787.out 2))
                            go_ret
                            exact ⟨z41_16, z41_0⟩
                          · rw [if_neg c106] at H
                            have c106b0 : decide (t785 < (t783.size : Int)) = false := decide_eq_false c106
                            clear c106
                            obtain rfl := Option.some.inj H
                            have hnb120 := NB787_801.out
                            have hnc120 := NB801_787.out
                            have hnb121 := NB787_807.out
                            have hnc121 := NB807_787.out
                            have hnb122 := NB787_813.out
                            have hnc122 := NB813_787.out
                            have hcz123_0 : wc.cell? ⟨gb787, 0, none⟩ = some (.string t782) := (blk_cell BK787.out 0).trans rfl
                            have hcz123_1 : wc.cell? ⟨gb787, 1, none⟩ = some (.string t783) := (blk_cell BK787.out 1).trans rfl
                            have hcz123_2 : wc.cell? ⟨gb787, 2, none⟩ = some (.int .i64 t784) := (blk_cell BK787.out 2).trans rfl
                            have hfz123_0 := blk_frozen BK787.out 0
                            have hfz123_1 := blk_frozen BK787.out 1
                            have hfz123_2 := blk_frozen BK787.out 2
                            go_wp2_with (first | ((with_reducible refine gate_callee (f := 41) rfl ?_); refine goesL_ (some 115) rfl rfl Tryd.func41 (by kernel_rfl) rfl #[.agg #[.string t782, .string t783, .int .i64 t784]] rfl z41_3 ?_; (with_reducible refine (impl_LogRecords.calls kj51 t782 t783 t784 t815 t818 _ ?side1 A86.out).mono ?_); (case side1 => exact Glob.below HGL.out z41_0); rintro e w124 ⟨v816, rfl, ho0, hb⟩; refine ⟨_, rfl, ?_⟩; have n0_ := Aside0.mk (Kd.R_lower ho0 (below_size z41_0)); have n1_ := Aside0.mk (blk_below (g := gb787) (o := .cells #[.string t782, .string t783, .int .i64 t784] 42 (0, 0)) z41_1 hb); have n2_ := Aside0.mk (blk_below (g := gb801) (o := .cells #[.string t796, .string t797, .int .i64 t798] 42 (0, 0)) z41_5 hb); have n3_ := Aside0.mk (blk_below (g := gb807) (o := .cells #[.string t802, .string t803, .int .i64 t804] 42 (0, 0)) z41_9 hb); have n4_ := Aside0.mk (blk_below (g := gb813) (o := .cells #[.string t808, .string t809, .int .i64 t810] 42 (0, 0)) z41_14 hb); have n5_ := Aside0.mk (below_step z41_0 hb); clear BK787; clear BK801; clear BK807; clear BK813; clear HB; have HO817 := n0_; have BK787 := n1_; have BK801 := n2_; have BK807 := n3_; have BK813 := n4_; have HB := n5_; clear n0_ n1_ n2_ n3_ n4_ n5_; (try clear hb); (try clear hb2); (try clear hk); (try clear hi); (try clear ho0); have hnb125 := NB813_801.out; have hnc125 := NB801_813.out; have hnb126 := NB813_807.out; have hnc126 := NB807_813.out; have hcz127_0 : w124.cell? ⟨gb813, 0, none⟩ = some (.string t808) := (blk_cell BK813.out 0).trans rfl; have hcz127_1 : w124.cell? ⟨gb813, 1, none⟩ = some (.string t809) := (blk_cell BK813.out 1).trans rfl; have hcz127_2 : w124.cell? ⟨gb813, 2, none⟩ = some (.int .i64 t810) := (blk_cell BK813.out 2).trans rfl; have hfz127_0 := blk_frozen BK813.out 0; have hfz127_1 := blk_frozen BK813.out 1; have hfz127_2 := blk_frozen BK813.out 2) | ((with_reducible refine gate_callee (f := 41) rfl ?_); refine goesL_ (some 120) rfl rfl Tryd.func41 (by kernel_rfl) rfl #[.agg #[.string t808, .string t809, .int .i64 t810]] rfl z41_3 ?_; (with_reducible refine (impl_LogRecords.calls kj51 t808 t809 t810 t819 t822 _ ?side1 A87.out).mono ?_); (case side1 => exact Glob.below HGL.out z41_0); rintro e w128 ⟨v820, rfl, ho0, hb⟩; refine ⟨_, rfl, ?_⟩; have n0_ := Aside0.mk (Kd.R_elder' z41_15 (Kd.R_base ho0) hb); have n1_ := Aside0.mk (Kd.R_lower (Kd.R_new' ho0 (Kd.R_lt z41_15)) (below_size z41_0)); have n2_ := Aside0.mk (blk_below (g := gb787) (o := .cells #[.string t782, .string t783, .int .i64 t784] 42 (0, 0)) z41_1 hb); have n3_ := Aside0.mk (blk_below (g := gb801) (o := .cells #[.string t796, .string t797, .int .i64 t798] 42 (0, 0)) z41_5 hb); have n4_ := Aside0.mk (blk_below (g := gb807) (o := .cells #[.string t802, .string t803, .int .i64 t804] 42 (0, 0)) z41_9 hb); have n5_ := Aside0.mk (blk_below (g := gb813) (o := .cells #[.string t808, .string t809, .int .i64 t810] 42 (0, 0)) z41_14 hb); have n6_ := Aside0.mk (below_step z41_0 hb); clear HO817; clear BK787; clear BK801; clear BK807; clear BK813; clear HB; have HO817 := n0_; have HO821 := n1_; have BK787 := n2_; have BK801 := n3_; have BK807 := n4_; have BK813 := n5_; have HB := n6_; clear n0_ n1_ n2_ n3_ n4_ n5_ n6_; (try clear hb); (try clear hb2); (try clear hk); (try clear hi); (try clear ho0); obtain ⟨Ao129, co129, eo129⟩ := Kd.R_slice HO821.out; subst eo129; obtain ⟨Ao130, co130, eo130⟩ := Kd.R_slice HO817.out; subst eo130; have q131 : ((t819.length : Int) : Int) ≤ ((t815.length : Int) : Int) := of_decide_eq_true z41_20; obtain ⟨i0131, hi0131, _, hsz131, _⟩ := info_parts info38; have hroom131 : t815.length ≤ co130 := (Kd.R_reads' HO817.out).2.1; have hC131 : Kd.C k38 _ Ao130 t815.length t815 := (Kd.R_reads' HO817.out).2.2; have hcut131 := cut_to (P := Tryd.prog) 59 38 .i64 Tryd.underlying59 hi0131 Ao130 t815.length co130 (t819.length : Int) (of_decide_eq_true z41_20) q131 hroom131; have hr131 := Kd.C_take (m := ((t819.length : Int) : Int).toNat) hC131 (by omega); have hy131 : y823.length = ((t819.length : Int) : Int).toNat := (by rw [Ny823.out, List.length_take]; omega); rw [← Ny823.out] at hr131; rw [← hy131] at hcut131; have HR826 := Aside0.mk hr131; have HC826 := Aside0.mk (show y823.length ≤ co130 from by omega); clear hr131 hC131 hroom131 hi0131 hsz131; have KY131 := Aside0.mk hy131; clear hy131; have KL131 := Aside0.mk (show ((t819.length : Int) : Int).toNat ≤ t815.length from by omega); replace q131 := eq_true q131) | (go_at_call 52; (with_reducible refine (laws_vRecords.calls kj51 _ _ t819 _ _ y823 true _ ?side1 ?side2 ?side3 ?side4 A91.out).mono ?_); (case side1 => repeat (first | exact (Kd.R_reads' HO821.out).2.2 | (with_reducible refine Kd.C_alloc ?_ _) | (with_reducible refine Kd.C_drewN ?_ _) | (with_reducible refine Kd.C_drew ?_))); (case side2 => exact (Kd.R_reads' HO821.out).2.1); (case side3 => repeat (first | exact z41_18 | (with_reducible refine Kd.C_alloc ?_ _) | (with_reducible refine Kd.C_drewN ?_ _) | (with_reducible refine Kd.C_drew ?_))); (case side4 => exact HC826.out); rintro e w' ⟨rfl, ⟨nd, rfl⟩⟩; have hcz132_0 : w128.cell? ⟨gb787, 0, none⟩ = some (.string t782) := (blk_cell BK787.out 0).trans rfl; have hcz132_1 : w128.cell? ⟨gb787, 1, none⟩ = some (.string t783) := (blk_cell BK787.out 1).trans rfl; have hcz132_2 : w128.cell? ⟨gb787, 2, none⟩ = some (.int .i64 t784) := (blk_cell BK787.out 2).trans rfl; have hfz132_0 := blk_frozen BK787.out 0; have hfz132_1 := blk_frozen BK787.out 1; have hfz132_2 := blk_frozen BK787.out 2))
                            go_ret
                            exact ⟨z41_16, z41_0⟩
                      · replace c92 := Bool.eq_false_iff.mpr c92
                        subst c92
                        have H1 : (some false) = some r := by rw [if_neg (show ¬ (false = true) by decide)] at H; exact H
                        clear H
                        have H := H1
                        clear H1
                        obtain rfl := Option.some.inj H
                        have hnb133 := NB787_801.out
                        have hnc133 := NB801_787.out
                        have hnb134 := NB787_807.out
                        have hnc134 := NB807_787.out
                        have hnb135 := NB787_813.out
                        have hnc135 := NB813_787.out
                        have hcz136_0 : wc.cell? ⟨gb787, 0, none⟩ = some (.string t782) := (blk_cell BK787.out 0).trans rfl
                        have hcz136_1 : wc.cell? ⟨gb787, 1, none⟩ = some (.string t783) := (blk_cell BK787.out 1).trans rfl
                        have hcz136_2 : wc.cell? ⟨gb787, 2, none⟩ = some (.int .i64 t784) := (blk_cell BK787.out 2).trans rfl
                        have hfz136_0 := blk_frozen BK787.out 0
                        have hfz136_1 := blk_frozen BK787.out 1
                        have hfz136_2 := blk_frozen BK787.out 2
                        go_wp2_with (first | ((with_reducible refine gate_callee (f := 41) rfl ?_); refine goesL_ (some 115) rfl rfl Tryd.func41 (by kernel_rfl) rfl #[.agg #[.string t782, .string t783, .int .i64 t784]] rfl z41_3 ?_; (with_reducible refine (impl_LogRecords.calls kj51 t782 t783 t784 t815 t818 _ ?side1 A86.out).mono ?_); (case side1 => exact Glob.below HGL.out z41_0); rintro e w137 ⟨v816, rfl, ho0, hb⟩; refine ⟨_, rfl, ?_⟩; have n0_ := Aside0.mk (Kd.R_lower ho0 (below_size z41_0)); have n1_ := Aside0.mk (blk_below (g := gb787) (o := .cells #[.string t782, .string t783, .int .i64 t784] 42 (0, 0)) z41_1 hb); have n2_ := Aside0.mk (blk_below (g := gb801) (o := .cells #[.string t796, .string t797, .int .i64 t798] 42 (0, 0)) z41_5 hb); have n3_ := Aside0.mk (blk_below (g := gb807) (o := .cells #[.string t802, .string t803, .int .i64 t804] 42 (0, 0)) z41_9 hb); have n4_ := Aside0.mk (blk_below (g := gb813) (o := .cells #[.string t808, .string t809, .int .i64 t810] 42 (0, 0)) z41_14 hb); have n5_ := Aside0.mk (below_step z41_0 hb); clear BK787; clear BK801; clear BK807; clear BK813; clear HB; have HO817 := n0_; have BK787 := n1_; have BK801 := n2_; have BK807 := n3_; have BK813 := n4_; have HB := n5_; clear n0_ n1_ n2_ n3_ n4_ n5_; (try clear hb); (try clear hb2); (try clear hk); (try clear hi); (try clear ho0); have hnb138 := NB813_801.out; have hnc138 := NB801_813.out; have hnb139 := NB813_807.out; have hnc139 := NB807_813.out; have hcz140_0 : w137.cell? ⟨gb813, 0, none⟩ = some (.string t808) := (blk_cell BK813.out 0).trans rfl; have hcz140_1 : w137.cell? ⟨gb813, 1, none⟩ = some (.string t809) := (blk_cell BK813.out 1).trans rfl; have hcz140_2 : w137.cell? ⟨gb813, 2, none⟩ = some (.int .i64 t810) := (blk_cell BK813.out 2).trans rfl; have hfz140_0 := blk_frozen BK813.out 0; have hfz140_1 := blk_frozen BK813.out 1; have hfz140_2 := blk_frozen BK813.out 2) | ((with_reducible refine gate_callee (f := 41) rfl ?_); refine goesL_ (some 120) rfl rfl Tryd.func41 (by kernel_rfl) rfl #[.agg #[.string t808, .string t809, .int .i64 t810]] rfl z41_3 ?_; (with_reducible refine (impl_LogRecords.calls kj51 t808 t809 t810 t819 t822 _ ?side1 A87.out).mono ?_); (case side1 => exact Glob.below HGL.out z41_0); rintro e w141 ⟨v820, rfl, ho0, hb⟩; refine ⟨_, rfl, ?_⟩; have n0_ := Aside0.mk (Kd.R_elder' z41_15 (Kd.R_base ho0) hb); have n1_ := Aside0.mk (Kd.R_lower (Kd.R_new' ho0 (Kd.R_lt z41_15)) (below_size z41_0)); have n2_ := Aside0.mk (blk_below (g := gb787) (o := .cells #[.string t782, .string t783, .int .i64 t784] 42 (0, 0)) z41_1 hb); have n3_ := Aside0.mk (blk_below (g := gb801) (o := .cells #[.string t796, .string t797, .int .i64 t798] 42 (0, 0)) z41_5 hb); have n4_ := Aside0.mk (blk_below (g := gb807) (o := .cells #[.string t802, .string t803, .int .i64 t804] 42 (0, 0)) z41_9 hb); have n5_ := Aside0.mk (blk_below (g := gb813) (o := .cells #[.string t808, .string t809, .int .i64 t810] 42 (0, 0)) z41_14 hb); have n6_ := Aside0.mk (below_step z41_0 hb); clear HO817; clear BK787; clear BK801; clear BK807; clear BK813; clear HB; have HO817 := n0_; have HO821 := n1_; have BK787 := n2_; have BK801 := n3_; have BK807 := n4_; have BK813 := n5_; have HB := n6_; clear n0_ n1_ n2_ n3_ n4_ n5_ n6_; (try clear hb); (try clear hb2); (try clear hk); (try clear hi); (try clear ho0); obtain ⟨Ao142, co142, eo142⟩ := Kd.R_slice HO821.out; subst eo142; obtain ⟨Ao143, co143, eo143⟩ := Kd.R_slice HO817.out; subst eo143; have q144 : ((t819.length : Int) : Int) ≤ ((t815.length : Int) : Int) := of_decide_eq_true z41_20; obtain ⟨i0144, hi0144, _, hsz144, _⟩ := info_parts info38; have hroom144 : t815.length ≤ co143 := (Kd.R_reads' HO817.out).2.1; have hC144 : Kd.C k38 _ Ao143 t815.length t815 := (Kd.R_reads' HO817.out).2.2; have hcut144 := cut_to (P := Tryd.prog) 59 38 .i64 Tryd.underlying59 hi0144 Ao143 t815.length co143 (t819.length : Int) (of_decide_eq_true z41_20) q144 hroom144; have hr144 := Kd.C_take (m := ((t819.length : Int) : Int).toNat) hC144 (by omega); have hy144 : y823.length = ((t819.length : Int) : Int).toNat := (by rw [Ny823.out, List.length_take]; omega); rw [← Ny823.out] at hr144; rw [← hy144] at hcut144; have HR826 := Aside0.mk hr144; have HC826 := Aside0.mk (show y823.length ≤ co143 from by omega); clear hr144 hC144 hroom144 hi0144 hsz144; have KY144 := Aside0.mk hy144; clear hy144; have KL144 := Aside0.mk (show ((t819.length : Int) : Int).toNat ≤ t815.length from by omega); replace q144 := eq_true q144) | (go_at_call 52; (with_reducible refine (laws_vRecords.calls kj51 _ _ t819 _ _ y823 false _ ?side1 ?side2 ?side3 ?side4 A91.out).mono ?_); (case side1 => repeat (first | exact (Kd.R_reads' HO821.out).2.2 | (with_reducible refine Kd.C_alloc ?_ _) | (with_reducible refine Kd.C_drewN ?_ _) | (with_reducible refine Kd.C_drew ?_))); (case side2 => exact (Kd.R_reads' HO821.out).2.1); (case side3 => repeat (first | exact z41_18 | (with_reducible refine Kd.C_alloc ?_ _) | (with_reducible refine Kd.C_drewN ?_ _) | (with_reducible refine Kd.C_drew ?_))); (case side4 => exact HC826.out); rintro e w' ⟨rfl, ⟨nd, rfl⟩⟩))
                        go_ret
                        exact ⟨z41_16, z41_0⟩
                    · rw [if_neg c89] at H
                      exact absurd H (by simp)
                  · rw [if_neg c88] at H
                    have c88b0 : decide ((t819.length : Int) ≤ (t815.length : Int)) = false := decide_eq_false c88
                    have c88b1 : decide (t819.length ≤ t815.length) = false := decide_eq_false (fun h => c88 (Int.ofNat_le.mpr h))
                    clear c88
                    obtain rfl := Option.some.inj H
                    have hnb145 := NB787_801.out
                    have hnc145 := NB801_787.out
                    have hnb146 := NB787_807.out
                    have hnc146 := NB807_787.out
                    have hnb147 := NB787_813.out
                    have hnc147 := NB813_787.out
                    have hcz148_0 : wc.cell? ⟨gb787, 0, none⟩ = some (.string t782) := (blk_cell BK787.out 0).trans rfl
                    have hcz148_1 : wc.cell? ⟨gb787, 1, none⟩ = some (.string t783) := (blk_cell BK787.out 1).trans rfl
                    have hcz148_2 : wc.cell? ⟨gb787, 2, none⟩ = some (.int .i64 t784) := (blk_cell BK787.out 2).trans rfl
                    have hfz148_0 := blk_frozen BK787.out 0
                    have hfz148_1 := blk_frozen BK787.out 1
                    have hfz148_2 := blk_frozen BK787.out 2
                    go_wp2_with (first | ((with_reducible refine gate_callee (f := 41) rfl ?_); refine goesL_ (some 115) rfl rfl Tryd.func41 (by kernel_rfl) rfl #[.agg #[.string t782, .string t783, .int .i64 t784]] rfl z41_3 ?_; (with_reducible refine (impl_LogRecords.calls kj51 t782 t783 t784 t815 t818 _ ?side1 A86.out).mono ?_); (case side1 => exact Glob.below HGL.out z41_0); rintro e w149 ⟨v816, rfl, ho0, hb⟩; refine ⟨_, rfl, ?_⟩; have n0_ := Aside0.mk (Kd.R_lower ho0 (below_size z41_0)); have n1_ := Aside0.mk (blk_below (g := gb787) (o := .cells #[.string t782, .string t783, .int .i64 t784] 42 (0, 0)) z41_1 hb); have n2_ := Aside0.mk (blk_below (g := gb801) (o := .cells #[.string t796, .string t797, .int .i64 t798] 42 (0, 0)) z41_5 hb); have n3_ := Aside0.mk (blk_below (g := gb807) (o := .cells #[.string t802, .string t803, .int .i64 t804] 42 (0, 0)) z41_9 hb); have n4_ := Aside0.mk (blk_below (g := gb813) (o := .cells #[.string t808, .string t809, .int .i64 t810] 42 (0, 0)) z41_14 hb); have n5_ := Aside0.mk (below_step z41_0 hb); clear BK787; clear BK801; clear BK807; clear BK813; clear HB; have HO817 := n0_; have BK787 := n1_; have BK801 := n2_; have BK807 := n3_; have BK813 := n4_; have HB := n5_; clear n0_ n1_ n2_ n3_ n4_ n5_; (try clear hb); (try clear hb2); (try clear hk); (try clear hi); (try clear ho0); have hnb150 := NB813_801.out; have hnc150 := NB801_813.out; have hnb151 := NB813_807.out; have hnc151 := NB807_813.out; have hcz152_0 : w149.cell? ⟨gb813, 0, none⟩ = some (.string t808) := (blk_cell BK813.out 0).trans rfl; have hcz152_1 : w149.cell? ⟨gb813, 1, none⟩ = some (.string t809) := (blk_cell BK813.out 1).trans rfl; have hcz152_2 : w149.cell? ⟨gb813, 2, none⟩ = some (.int .i64 t810) := (blk_cell BK813.out 2).trans rfl; have hfz152_0 := blk_frozen BK813.out 0; have hfz152_1 := blk_frozen BK813.out 1; have hfz152_2 := blk_frozen BK813.out 2) | ((with_reducible refine gate_callee (f := 41) rfl ?_); refine goesL_ (some 120) rfl rfl Tryd.func41 (by kernel_rfl) rfl #[.agg #[.string t808, .string t809, .int .i64 t810]] rfl z41_3 ?_; (with_reducible refine (impl_LogRecords.calls kj51 t808 t809 t810 t819 t822 _ ?side1 A87.out).mono ?_); (case side1 => exact Glob.below HGL.out z41_0); rintro e w153 ⟨v820, rfl, ho0, hb⟩; refine ⟨_, rfl, ?_⟩; have n0_ := Aside0.mk (Kd.R_elder' z41_15 (Kd.R_base ho0) hb); have n1_ := Aside0.mk (Kd.R_lower (Kd.R_new' ho0 (Kd.R_lt z41_15)) (below_size z41_0)); have n2_ := Aside0.mk (blk_below (g := gb787) (o := .cells #[.string t782, .string t783, .int .i64 t784] 42 (0, 0)) z41_1 hb); have n3_ := Aside0.mk (blk_below (g := gb801) (o := .cells #[.string t796, .string t797, .int .i64 t798] 42 (0, 0)) z41_5 hb); have n4_ := Aside0.mk (blk_below (g := gb807) (o := .cells #[.string t802, .string t803, .int .i64 t804] 42 (0, 0)) z41_9 hb); have n5_ := Aside0.mk (blk_below (g := gb813) (o := .cells #[.string t808, .string t809, .int .i64 t810] 42 (0, 0)) z41_14 hb); have n6_ := Aside0.mk (below_step z41_0 hb); clear HO817; clear BK787; clear BK801; clear BK807; clear BK813; clear HB; have HO817 := n0_; have HO821 := n1_; have BK787 := n2_; have BK801 := n3_; have BK807 := n4_; have BK813 := n5_; have HB := n6_; clear n0_ n1_ n2_ n3_ n4_ n5_ n6_; (try clear hb); (try clear hb2); (try clear hk); (try clear hi); (try clear ho0); obtain ⟨Ao154, co154, eo154⟩ := Kd.R_slice HO821.out; subst eo154; obtain ⟨Ao155, co155, eo155⟩ := Kd.R_slice HO817.out; subst eo155))
                    go_ret
                    exact ⟨z41_16, z41_0⟩
          · replace c50 := Bool.eq_false_iff.mpr c50
            subst c50
            have H1 : (some true) = some r := by rw [if_neg (show ¬ (false = true) by decide)] at H; exact H
            clear H
            have H := H1
            clear H1
            obtain rfl := Option.some.inj H
            go_wp2
            go_ret
            exact ⟨z41_16, z41_4⟩
end Go.Proofs.YtgclcjohnnpejaaDoor.Pr
end

section
namespace Go.Proofs.YtgclcjohnnpejaaDoor.PureL
open Go.RowKit Go.Proofs.YtgclcjohnnpejaaDoor.Pr Go.Proofs.YtgclcjohnnpejaaDoorW.PrintWords Go.Proofs.YtgclcjohnnpejaaDoorW.PrintLast
abbrev L (s : ByteArray) : List UInt8 := s.data.toList
theorem ext_L {a b : ByteArray} (h : L a = L b) : a = b := by
  obtain ⟨⟨la⟩⟩ := a
  obtain ⟨⟨lb⟩⟩ := b
  have : la = lb := h
  rw [this]
theorem size_L (s : ByteArray) : s.size = (L s).length := by simp only [L, Array.length_toList]; rfl
theorem L_append (a b : ByteArray) : L (a ++ b) = L a ++ L b := by
  simp [L]
theorem L_extract (s : ByteArray) (a b : Nat) : L (s.extract a b) = ((L s).drop a).take (b - a) := Lib.extract_data s a b
theorem L_toList (s : ByteArray) : s.toList = L s := Lib.toList_data s
theorem L_mk (l : List UInt8) : L ⟨l.toArray⟩ = l := rfl
theorem wrap_up {i : Int} {n : Nat} (h0 : 0 ≤ i) (h : i < (n : Int)) (hn : n ≤ 9223372036854775807) : wrap64 (i + 1) = i + 1 := by
  unfold wrap64
  omega
theorem wrap_in {i : Int} (h0 : -9223372036854775808 ≤ i) (h : i ≤ 9223372036854775807) : wrap64 i = i := by
  unfold wrap64
  omega
theorem bt_get (s : ByteArray) (i : Nat) (h : i < (L s).length) : bt s (i : Int) = (((L s)[i]'h).toNat : Int) := by
  have h' : i < s.size := by rw [size_L]; exact h
  unfold bt
  simp only [Int.toNat_natCast, h', dif_pos]
  rfl
theorem bt_drop {s : ByteArray} {i : Nat} {b : UInt8} {l : List UInt8} (h : (L s).drop i = b :: l) : bt s (i : Int) = (b.toNat : Int) ∧ (L s).drop (i + 1) = l ∧ i < s.size := by
  have hi : i < (L s).length := by
    apply Decidable.byContradiction
    intro hc
    rw [List.drop_eq_nil_of_le (by omega)] at h
    cases h
  have e := List.drop_eq_getElem_cons hi
  rw [h] at e
  injection e with e1 e2
  refine ⟨by rw [bt_get s i hi, e1], e2.symm, by rw [size_L]; exact hi⟩
theorem drop_nil_iff {s : ByteArray} {i : Nat} : (L s).drop i = [] ↔ s.size ≤ i := by rw [List.drop_eq_nil_iff, size_L]
theorem byte_eq (a b : UInt8) : ((a.toNat : Int) = (b.toNat : Int)) ↔ a = b := by
  constructor
  · intro h; exact UInt8.toNat_inj.1 (by omega)
  · rintro rfl; rfl
theorem stands_l0 (s : ByteArray) (c : UInt8) (hs : s.size ≤ 9223372036854775807) : ∀ (l : List UInt8) (i k : Nat), (L s).drop i = l → i ≤ s.size → l.length < k →
    spec_l1Stands.l0 k s (c.toNat : Int) (i : Int) = some (decide (c ∈ l))
  | [], i, k, h, hi, hk => by
    obtain ⟨k, rfl⟩ : ∃ m, k = m + 1 := ⟨k - 1, by omega⟩
    have := drop_nil_iff.1 h
    simp only [spec_l1Stands.l0]
    rw [if_neg (by omega)]
    simp
  | b :: l, i, k, h, hi, hk => by
    obtain ⟨k, rfl⟩ : ∃ m, k = m + 1 := ⟨k - 1, by omega⟩
    obtain ⟨h1, h2, h3⟩ := bt_drop h
    simp only [List.length_cons] at hk
    simp only [spec_l1Stands.l0]
    rw [if_pos (by omega), if_pos (by omega), h1]
    by_cases e : b = c
    · subst e; simp
    · rw [if_neg (fun h => e ((byte_eq _ _).1 h)), wrap_up (n := s.size) (by omega) (by omega) hs]
      have := stands_l0 s c hs l (i + 1) k h2 (by omega) (by omega)
      rw [show ((i : Int) + 1) = ((i + 1 : Nat) : Int) from by omega, this]
      simp [Ne.symm e]
theorem stands (s : ByteArray) (c : UInt8) (k : Nat) (hs : s.size ≤ 9223372036854775807) (hk : s.size < k) : spec_l1Stands.f k s (c.toNat : Int) = some (decide (c ∈ L s)) := by
  unfold spec_l1Stands.f
  exact stands_l0 s c hs (L s) 0 k rfl (by omega) (by rw [← size_L]; exact hk)
def okB (b : UInt8) : Bool := 32 ≤ b && b ≤ 126 && b != 35
theorem okB_iff (b : UInt8) : okB b = true ↔ 32 ≤ (b.toNat : Int) ∧ (b.toNat : Int) ≤ 126 ∧ (b.toNat : Int) ≠ 35 := by
  unfold okB
  simp only [Bool.and_eq_true, decide_eq_true_eq, bne_iff_ne, ne_eq, UInt8.le_iff_toNat_le]
  rw [show (35 : Int) = ((35 : UInt8).toNat : Int) from rfl, byte_eq]
  constructor
  · rintro ⟨⟨h1, h2⟩, h3⟩
    exact ⟨by have : (32 : UInt8).toNat = 32 := rfl; omega, by have : (126 : UInt8).toNat = 126 := rfl; omega, h3⟩
  · rintro ⟨h1, h2, h3⟩
    exact ⟨⟨by have : (32 : UInt8).toNat = 32 := rfl; omega, by have : (126 : UInt8).toNat = 126 := rfl; omega⟩, h3⟩
theorem bytes_l0 (s : ByteArray) (m : Int) (hs : s.size ≤ 9223372036854775807) : ∀ (l : List UInt8) (i k : Nat), (L s).drop i = l → i ≤ s.size → l.length < k →
    spec_l12Bytes.l0 k s m (i : Int) = some (l.all okB && decide ((s.size : Int) ≤ m))
  | [], i, k, h, hi, hk => by
    obtain ⟨k, rfl⟩ : ∃ m, k = m + 1 := ⟨k - 1, by omega⟩
    have := drop_nil_iff.1 h
    simp only [spec_l12Bytes.l0]
    rw [if_neg (by omega)]
    simp
  | b :: l, i, k, h, hi, hk => by
    obtain ⟨k, rfl⟩ : ∃ m, k = m + 1 := ⟨k - 1, by omega⟩
    obtain ⟨h1, h2, h3⟩ := bt_drop h
    simp only [List.length_cons] at hk
    have hb : b.toNat < 256 := b.toNat_lt
    simp only [spec_l12Bytes.l0]
    rw [if_pos (by omega), if_pos (by omega), h1, wrap_in (by omega) (by omega)]
    have ih := bytes_l0 s m hs l (i + 1) k h2 (by omega) (by omega)
    unfold spec_l1In.f
    simp only [List.all_cons]
    cases e : okB b with
    | true =>
      obtain ⟨e1, e2, e3⟩ := (okB_iff b).1 e
      rw [if_pos (by omega)]
      simp only [Option.bind_some, decide_eq_true_eq]
      rw [if_pos e2, if_neg e3, wrap_up (n := s.size) (by omega) (by omega) hs, show ((i : Int) + 1) = ((i + 1 : Nat) : Int) from by omega, ih]
      simp
    | false =>
      have e' : ¬ (32 ≤ (b.toNat : Int) ∧ (b.toNat : Int) ≤ 126 ∧ (b.toNat : Int) ≠ 35) := fun h => by rw [(okB_iff b).2 h] at e; cases e
      by_cases c1 : 32 ≤ (b.toNat : Int)
      · rw [if_pos c1]
        simp only [Option.bind_some, decide_eq_true_eq]
        by_cases c2 : (b.toNat : Int) ≤ 126
        · rw [if_pos c2, if_pos (by omega)]; simp
        · rw [if_neg c2]; simp
      · rw [if_neg c1]; simp
def printed (l : List UInt8) (m : Nat) : Bool := l.all okB && decide (l.length ≤ m)
theorem bytes (s : ByteArray) (m k : Nat) (hs : s.size ≤ 9223372036854775807) (hk : s.size < k) : spec_l12Bytes.f k s (m : Int) = some (printed (L s) m) := by
  unfold spec_l12Bytes.f
  rw [show (0 : Int) = ((0 : Nat) : Int) from rfl, bytes_l0 s m hs (L s) 0 k rfl (by omega) (by rw [← size_L]; exact hk)]
  unfold printed
  rw [size_L]
  congr 2
  exact decide_eq_decide.2 (by omega)
theorem isPrinted_l0 (s : ByteArray) (m : Int) (hs : s.size ≤ 9223372036854775807) : ∀ (l : List UInt8) (i k : Nat), (L s).drop i = l → i ≤ s.size → l.length < k →
    impl_isPrinted.l0 k s m (s.size : Int) (i : Int) = some (l.all okB && decide ((s.size : Int) ≤ m))
  | [], i, k, h, hi, hk => by
    obtain ⟨k, rfl⟩ : ∃ m, k = m + 1 := ⟨k - 1, by omega⟩
    have := drop_nil_iff.1 h
    simp only [impl_isPrinted.l0]
    rw [if_neg (by omega)]
    simp
  | b :: l, i, k, h, hi, hk => by
    obtain ⟨k, rfl⟩ : ∃ m, k = m + 1 := ⟨k - 1, by omega⟩
    obtain ⟨h1, h2, h3⟩ := bt_drop h
    simp only [List.length_cons] at hk
    simp only [impl_isPrinted.l0]
    rw [if_pos (by omega), if_pos (by omega), if_pos (by omega), h1]
    have ih := isPrinted_l0 s m hs l (i + 1) k h2 (by omega) (by omega)
    simp only [List.all_cons]
    cases e : okB b with
    | true =>
      obtain ⟨e1, e2, e3⟩ := (okB_iff b).1 e
      rw [if_neg (by omega), if_neg (by omega), if_neg e3, wrap_up (n := s.size) (by omega) (by omega) hs, show ((i : Int) + 1) = ((i + 1 : Nat) : Int) from by omega, ih]
      simp
    | false =>
      have e' : ¬ (32 ≤ (b.toNat : Int) ∧ (b.toNat : Int) ≤ 126 ∧ (b.toNat : Int) ≠ 35) := fun h => by rw [(okB_iff b).2 h] at e; cases e
      by_cases c1 : (b.toNat : Int) < 32
      · rw [if_pos c1]; simp
      · rw [if_neg c1]
        by_cases c2 : (b.toNat : Int) > 126
        · rw [if_pos c2]; simp
        · rw [if_neg c2, if_pos (by omega)]; simp
theorem isPrinted (s : ByteArray) (m k : Nat) (hs : s.size ≤ 9223372036854775807) (hk : s.size < k) : impl_isPrinted.f k s (m : Int) = some (printed (L s) m) := by
  unfold impl_isPrinted.f
  rw [show (0 : Int) = ((0 : Nat) : Int) from rfl, isPrinted_l0 s m hs (L s) 0 k rfl (by omega) (by rw [← size_L]; exact hk)]
  unfold printed
  rw [size_L]
  congr 2
  exact decide_eq_decide.2 (by omega)
def validRec (c r : List UInt8) : Bool := !c.isEmpty && printed c 160 && !decide ((64 : UInt8) ∈ c) && printed r 280
theorem spec_valid (c r : ByteArray) (k : Nat) (hc : c.size ≤ 9223372036854775807) (hr : r.size ≤ 9223372036854775807) (hk : c.size < k) (hk' : r.size < k) :
    spec_l12Record.f k c r = some (validRec (L c) (L r)) := by
  unfold spec_l12Record.f validRec
  rw [L_toList, show (160 : Int) = ((160 : Nat) : Int) from rfl, show (280 : Int) = ((280 : Nat) : Int) from rfl, show (64 : Int) = ((64 : UInt8).toNat : Int) from rfl, bytes c 160 k hc hk, bytes r 280 k hr hk', stands c 64 k hc hk]
  by_cases h0 : L c = []
  · rw [if_pos h0, h0]; simp
  · rw [if_neg h0]
    have h0' : (L c).isEmpty = false := by simpa using h0
    rw [h0']
    cases printed (L c) 160 <;> by_cases h2 : (64 : UInt8) ∈ L c <;> simp [h2]
theorem impl_valid (c r : ByteArray) (k : Nat) (hc : c.size ≤ 9223372036854775807) (hr : r.size ≤ 9223372036854775807) (hk : c.size < k) (hk' : r.size < k) :
    impl_IsValidRecord.f k c r = some (validRec (L c) (L r)) := by
  unfold impl_IsValidRecord.f impl_isCommand.f validRec strings_Contains.f
  rw [L_toList, show (160 : Int) = ((160 : Nat) : Int) from rfl, show (280 : Int) = ((280 : Nat) : Int) from rfl, isPrinted c 160 k hc hk, isPrinted r 280 k hr hk']
  by_cases h0 : L c = []
  · rw [if_pos h0, h0]; simp
  · rw [if_neg h0]
    have h0' : (L c).isEmpty = false := by simpa using h0
    rw [h0', if_pos (by rfl)]
    have h64 : ((⟨#[64]⟩ : ByteArray).data.toList.headD 0) = 64 := rfl
    rw [h64]
    cases printed (L c) 160 <;> by_cases h2 : (64 : UInt8) ∈ L c <;> simp [h2]
theorem dig_at (n : Nat) (h : n < 10) : L ((⟨#[48, 49, 50, 51, 52, 53, 54, 55, 56, 57]⟩ : ByteArray).extract n (n + 1)) = [UInt8.ofNat (48 + n)] := by
  rw [L_extract]
  match n, h with
  | 0, _ => rfl | 1, _ => rfl | 2, _ => rfl | 3, _ => rfl | 4, _ => rfl | 5, _ => rfl | 6, _ => rfl | 7, _ => rfl | 8, _ => rfl | 9, _ => rfl
theorem dec_len1 (m : Nat) : (Lib.decDigits m).length ≤ m + 1 := by
  induction m using Nat.strongRecOn with
  | _ m ih =>
    rw [Lib.decDigits]
    by_cases hm : m < 10
    · rw [dif_pos hm]; simp
    · rw [dif_neg hm]
      have := ih (m / 10) (by omega)
      simp only [List.length_append, List.length_cons, List.length_nil]
      omega
theorem num_nat (k : Nat) : ∀ n : Nat, n < k → n ≤ 9000000000000000000 → ∃ s, spec_l1Num.f k (n : Int) = some s ∧ L s = Lib.decDigits n := by
  induction k with
  | zero => intro n h; omega
  | succ k ih =>
    intro n h hn
    simp only [spec_l1Num.f]
    rw [if_neg (by omega)]
    by_cases h10 : n < 10
    · rw [if_pos (by omega), if_pos (by omega), wrap_in (by omega) (by omega), if_pos (by omega), if_pos (by omega)]
      refine ⟨_, rfl, ?_⟩
      rw [show ((n : Int) + 1).toNat = n + 1 from by omega, Int.toNat_natCast, dig_at n h10, Lib.decDigits, dif_pos h10]
    · have e1 : Int.tdiv (n : Int) 10 = ((n / 10 : Nat) : Int) := by
        rw [Int.tdiv_eq_ediv_of_nonneg (by omega)]; omega
      have e2 : Int.tmod (n : Int) 10 = ((n % 10 : Nat) : Int) := by
        rw [Int.tmod_eq_emod_of_nonneg (by omega)]; omega
      obtain ⟨s, hs, hL⟩ := ih (n / 10) (by omega) (by omega)
      have hlen : s.size ≤ n := by
        rw [size_L, hL]
        have := dec_len1 (n / 10)
        omega
      rw [if_neg (by omega), e1, e2, wrap_in (i := ((n / 10 : Nat) : Int)) (by omega) (by omega), hs, Option.bind_some]
      rw [if_pos (by omega), wrap_in (by omega) (by omega), if_pos (by omega), if_pos (by omega)]
      have e3 : (((n % 10 : Nat) : Int) + 1).toNat = n % 10 + 1 := by omega
      have hd := dig_at (n % 10) (by omega)
      rw [e3, Int.toNat_natCast]
      have hsz : ((⟨#[48, 49, 50, 51, 52, 53, 54, 55, 56, 57]⟩ : ByteArray).extract (n % 10) (n % 10 + 1)).size = 1 := by rw [size_L, hd]; rfl
      rw [hsz, if_pos (by omega)]
      refine ⟨_, rfl, ?_⟩
      rw [L_append, hL, hd]
      conv => rhs; rw [Lib.decDigits, dif_neg h10]
theorem num_any (n : Int) (k : Nat) (hk : n.natAbs + 1 < k) (h0 : -9000000000000000000 ≤ n) (h1 : n ≤ 9000000000000000000) : ∃ s, spec_l1Num.f k n = some s ∧ L s = Lib.itoa n := by
  by_cases hn : n < 0
  · obtain ⟨k, rfl⟩ : ∃ m, k = m + 1 := ⟨k - 1, by omega⟩
    obtain ⟨s, hs, hL⟩ := num_nat k n.natAbs (by omega) (by omega)
    simp only [spec_l1Num.f]
    rw [if_pos hn, wrap_in (by omega) (by omega), show -n = (n.natAbs : Int) from by omega, hs, Option.bind_some]
    have hlen : s.size ≤ n.natAbs + 1 ∧ n.natAbs + 1 < 9223372036854775807 := by
      rw [size_L, hL]
      exact ⟨dec_len1 n.natAbs, by omega⟩
    rw [if_pos (by omega)]
    refine ⟨_, rfl, ?_⟩
    rw [L_append, hL]
    unfold Lib.itoa
    rw [if_pos hn]
    rfl
  · obtain ⟨s, hs, hL⟩ := num_nat k n.toNat (by omega) (by omega)
    refine ⟨s, by rw [← hs]; congr 1; omega, ?_⟩
    unfold Lib.itoa
    rw [if_neg hn, hL]
theorem num_eq (n : Int) (k : Nat) (hk : n.natAbs + 1 < k) (h0 : -9000000000000000000 ≤ n) (h1 : n ≤ 9000000000000000000) : spec_l1Num.f k n = some ⟨(Lib.itoa n).toArray⟩ := by
  obtain ⟨s, hs, hL⟩ := num_any n k hk h0 h1
  rw [hs, ext_L (a := s) (b := ⟨(Lib.itoa n).toArray⟩) (by rw [hL])]
theorem itoa_eq (n : Int) (h0 : -9000000000000000000 ≤ n) (h1 : n ≤ 9000000000000000000) : strconv_Itoa.f n = some ⟨(Lib.itoa n).toArray⟩ := by
  unfold strconv_Itoa.f
  rw [if_pos (by omega)]
def sumStep (h : Int) (b : UInt8) : Int := (41 * h + (b.toNat : Int) + 1) % 999979
def sumL (l : List UInt8) (h : Int) : Int := l.foldl sumStep h
theorem sumStep_in (h : Int) (b : UInt8) : 0 ≤ sumStep h b ∧ sumStep h b < 999979 := by unfold sumStep; omega
theorem sum_in (l : List UInt8) (h : Int) (h0 : 0 ≤ h) (h1 : h < 999979) : 0 ≤ sumL l h ∧ sumL l h < 999979 := by
  induction l generalizing h with
  | nil => exact ⟨h0, h1⟩
  | cons b l ih => exact ih _ (sumStep_in h b).1 (sumStep_in h b).2
theorem step_wrap (h : Int) (b : UInt8) (h0 : 0 ≤ h) (h1 : h < 999979) : Int.tmod (wrap64 ((wrap64 ((wrap64 (41 * h)) + (wrap64 (b.toNat : Int)))) + 1)) 999979 = sumStep h b := by
  have hb : b.toNat < 256 := b.toNat_lt
  rw [wrap_in (i := 41 * h) (by omega) (by omega), wrap_in (i := (b.toNat : Int)) (by omega) (by omega), wrap_in (i := 41 * h + (b.toNat : Int)) (by omega) (by omega), wrap_in (by omega) (by omega), Int.tmod_eq_emod_of_nonneg (by omega)]
  rfl
theorem sum_l0 (s : ByteArray) (hs : s.size ≤ 9223372036854775807) : ∀ (l : List UInt8) (h : Int) (i k : Nat), (L s).drop i = l → i ≤ s.size → l.length < k → 0 ≤ h → h < 999979 →
    spec_l1Sum.l0 k s h (i : Int) = some (sumL l h)
  | [], h, i, k, hd, hi, hk, _, _ => by
    obtain ⟨k, rfl⟩ : ∃ m, k = m + 1 := ⟨k - 1, by omega⟩
    have := drop_nil_iff.1 hd
    simp only [spec_l1Sum.l0]
    rw [if_neg (by omega)]
    rfl
  | b :: l, h, i, k, hd, hi, hk, h0, h1 => by
    obtain ⟨k, rfl⟩ : ∃ m, k = m + 1 := ⟨k - 1, by omega⟩
    obtain ⟨e1, e2, e3⟩ := bt_drop hd
    simp only [List.length_cons] at hk
    simp only [spec_l1Sum.l0]
    rw [if_pos (by omega), if_pos (by omega), e1, step_wrap h b h0 h1, wrap_up (n := s.size) (by omega) (by omega) hs, show ((i : Int) + 1) = ((i + 1 : Nat) : Int) from by omega,
      sum_l0 s hs l _ (i + 1) k e2 (by omega) (by omega) (sumStep_in h b).1 (sumStep_in h b).2]
    rfl
theorem sum_eq (s : ByteArray) (k : Nat) (hs : s.size ≤ 9223372036854775807) (hk : s.size < k) : spec_l1Sum.f k s = some (sumL (L s) 7) := by
  unfold spec_l1Sum.f
  exact sum_l0 s hs (L s) 7 0 k rfl (by omega) (by rw [← size_L]; exact hk) (by omega) (by omega)
theorem check_l0 (s : ByteArray) (hs : s.size ≤ 9223372036854775807) : ∀ (l : List UInt8) (h : Int) (i k : Nat), (L s).drop i = l → i ≤ s.size → l.length < k → 0 ≤ h → h < 999979 →
    impl_Checksum.l0 k s h (s.size : Int) (i : Int) = some (sumL l h, true)
  | [], h, i, k, hd, hi, hk, _, _ => by
    obtain ⟨k, rfl⟩ : ∃ m, k = m + 1 := ⟨k - 1, by omega⟩
    have := drop_nil_iff.1 hd
    simp only [impl_Checksum.l0]
    rw [if_neg (by omega)]
    rfl
  | b :: l, h, i, k, hd, hi, hk, h0, h1 => by
    obtain ⟨k, rfl⟩ : ∃ m, k = m + 1 := ⟨k - 1, by omega⟩
    obtain ⟨e1, e2, e3⟩ := bt_drop hd
    simp only [List.length_cons] at hk
    simp only [impl_Checksum.l0]
    rw [if_pos (by omega), if_pos (by omega), if_pos (by omega), e1, step_wrap h b h0 h1, wrap_up (n := s.size) (by omega) (by omega) hs, show ((i : Int) + 1) = ((i + 1 : Nat) : Int) from by omega,
      check_l0 s hs l _ (i + 1) k e2 (by omega) (by omega) (sumStep_in h b).1 (sumStep_in h b).2]
    rfl
theorem check_eq (s : ByteArray) (k : Nat) (hk : s.size < k) : impl_Checksum.f k s = some (if s.size ≤ 4000 then (sumL (L s) 7, true) else (0, false)) := by
  unfold impl_Checksum.f
  by_cases h : s.size ≤ 4000
  · rw [if_neg (by omega), if_pos h]
    exact check_l0 s (by omega) (L s) 7 0 k rfl (by omega) (by rw [← size_L]; exact hk) (by omega) (by omega)
  · rw [if_pos (by omega), if_neg h]
def sealL (l : List UInt8) : List UInt8 := l ++ [35] ++ Lib.itoa (sumL l 7)
theorem decDigits_len (m : Nat) : (Lib.decDigits m).length ≤ m / 10 + 1 := by
  induction m using Nat.strongRecOn with
  | _ m ih =>
    rw [Lib.decDigits]
    by_cases hm : m < 10
    · rw [dif_pos hm]; simp
    · rw [dif_neg hm]
      have := ih (m / 10) (by omega)
      simp only [List.length_append, List.length_cons, List.length_nil]
      omega
theorem itoa_len (n : Int) (h0 : 0 ≤ n) (h1 : n < 999979) : (Lib.itoa n).length ≤ 100000 := by
  unfold Lib.itoa
  rw [if_neg (by omega)]
  have := decDigits_len n.toNat
  omega
theorem seal_eq (s : ByteArray) (k : Nat) (hs : s.size ≤ 9000000000000000000) (hk : s.size < k) (hk2 : 1000000 < k) : spec_l1Seal.f k s = some ⟨(sealL (L s)).toArray⟩ := by
  unfold spec_l1Seal.f
  obtain ⟨h0, h1⟩ := sum_in (L s) 7 (by omega) (by omega)
  have hl := itoa_len _ h0 h1
  rw [if_pos (by omega), sum_eq s k (by omega) hk]
  simp only [Option.bind_some]
  rw [num_eq _ k (by omega) (by omega) (by omega)]
  simp only [Option.bind_some]
  rw [if_pos (by
    have : (⟨(Lib.itoa (sumL (L s) 7)).toArray⟩ : ByteArray).size = (Lib.itoa (sumL (L s) 7)).length := by rw [size_L]
    omega)]
  refine congrArg some (ext_L ?_)
  rw [L_append, L_append]
  rfl
theorem appendChecksum_eq (s : ByteArray) (k : Nat) (hs : s.size ≤ 9000000000000000000) (hk : s.size < k) :
    impl_AppendChecksum.f k s = some (if s.size ≤ 4000 ∧ (35 : UInt8) ∉ L s ∧ (sealL (L s)).length ≤ 4000 then (⟨(sealL (L s)).toArray⟩, true) else (⟨#[]⟩, false)) := by
  unfold impl_AppendChecksum.f
  obtain ⟨h0, h1⟩ := sum_in (L s) 7 (by omega) (by omega)
  have hl := itoa_len _ h0 h1
  rw [check_eq s k hk]
  simp only [Option.bind_some]
  rw [if_pos (by omega)]
  by_cases h4 : s.size ≤ 4000
  · rw [if_pos h4]
    have hz : (⟨(Lib.itoa (sumL (L s) 7)).toArray⟩ : ByteArray).size = (Lib.itoa (sumL (L s) 7)).length := by rw [size_L]
    have hc : strings_Contains.f s (⟨#[35]⟩ : ByteArray) = some (decide ((35 : UInt8) ∈ L s)) := by
      unfold strings_Contains.f
      rw [if_pos (show (⟨#[35]⟩ : ByteArray).size = 1 from rfl)]
      rfl
    have hsl : (sealL (L s)).length = s.size + 1 + (Lib.itoa (sumL (L s) 7)).length := by unfold sealL; rw [size_L]; simp only [List.length_append, List.length_cons, List.length_nil]
    rw [itoa_eq _ (by omega) (by omega)]
    simp only [Option.bind_some]
    rw [if_pos (by omega), if_pos trivial, hc]
    simp only [Option.bind_some, decide_eq_true_eq]
    by_cases h5 : (35 : UInt8) ∈ L s
    · rw [if_pos h5, if_neg (fun h => h.2.1 h5)]
    · rw [if_neg h5]
      by_cases h6 : (sealL (L s)).length ≤ 4000
      · rw [if_neg (by omega), if_pos ⟨h4, h5, h6⟩]
        refine congrArg some (Prod.ext ?_ rfl)
        apply ext_L
        rw [L_append, L_append]
        rfl
      · rw [if_pos (by omega), if_neg (fun h => h6 h.2.2)]
  · rw [if_neg h4, if_neg (fun h => h4 h.1)]
    rw [itoa_eq _ (by omega) (by omega)]
    simp only [Option.bind_some]
    have hz : (⟨(Lib.itoa 0).toArray⟩ : ByteArray).size = 1 := by rw [size_L]; unfold Lib.itoa; rw [if_neg (by omega), Lib.decDigits]; rfl
    rw [if_pos (by omega), if_neg (by simp)]
end Go.Proofs.YtgclcjohnnpejaaDoor.PureL
end

section
namespace Go.Proofs.YtgclcjohnnpejaaDoor.PureL
open Go.RowKit Go.Proofs.YtgclcjohnnpejaaDoor.Pr Go.Proofs.YtgclcjohnnpejaaDoorW.PrintWords Go.Proofs.YtgclcjohnnpejaaDoorW.PrintLast
theorem decDigits_pow : ∀ (d n : Nat), n < 10 ^ (d + 1) → (Lib.decDigits n).length ≤ d + 1
  | 0, n, h => by
    rw [Lib.decDigits, dif_pos (by omega)]
    simp
  | d + 1, n, h => by
    rw [Lib.decDigits]
    by_cases hn : n < 10
    · rw [dif_pos hn]; simp
    · rw [dif_neg hn]
      have := decDigits_pow d (n / 10) (by rw [Nat.pow_succ] at h; omega)
      simp only [List.length_append, List.length_cons, List.length_nil]
      omega
theorem decDigits_dig (n : Nat) : ∀ b ∈ Lib.decDigits n, 48 ≤ b.toNat ∧ b.toNat ≤ 57 := by
  induction n using Nat.strongRecOn with
  | _ n ih =>
    rw [Lib.decDigits]
    have hd : ∀ m : Nat, m < 10 → ∀ b ∈ [UInt8.ofNat (48 + m)], 48 ≤ b.toNat ∧ b.toNat ≤ 57 := fun m hm b hb => by
      rw [List.mem_singleton.1 hb, UInt8.toNat_ofNat']
      omega
    by_cases hn : n < 10
    · rw [dif_pos hn]; exact hd n hn
    · rw [dif_neg hn]
      intro b hb
      rcases List.mem_append.1 hb with hb | hb
      · exact ih (n / 10) (by omega) b hb
      · exact hd (n % 10) (by omega) b hb
theorem itoa_dig {n : Int} (h0 : 0 ≤ n) : ∀ b ∈ Lib.itoa n, 48 ≤ b.toNat ∧ b.toNat ≤ 57 := by
  unfold Lib.itoa
  rw [if_neg (by omega)]
  exact decDigits_dig _
theorem itoa_small {n : Int} (h0 : 0 ≤ n) (h1 : n < 1000000) : (Lib.itoa n).length ≤ 6 := by
  unfold Lib.itoa
  rw [if_neg (by omega)]
  exact decDigits_pow 5 n.toNat (by omega)
theorem sum_small (l : List UInt8) : (Lib.itoa (sumL l 7)).length ≤ 6 := by
  obtain ⟨h0, h1⟩ := sum_in l 7 (by omega) (by omega)
  exact itoa_small h0 (by omega)
def textL (n : Int) (c r : List UInt8) : List UInt8 := Lib.itoa n ++ [32] ++ c ++ [64] ++ r
def encL (n : Int) (c r : List UInt8) : List UInt8 := sealL (textL n c r) ++ [10]
theorem all_ok_no35 {l : List UInt8} (h : l.all okB = true) : (35 : UInt8) ∉ l := fun hm => by
  have := List.all_eq_true.1 h 35 hm
  exact absurd this (by decide)
theorem valid_parts {c r : List UInt8} (h : validRec c r = true) : c ≠ [] ∧ c.all okB = true ∧ c.length ≤ 160 ∧ (64 : UInt8) ∉ c ∧ r.all okB = true ∧ r.length ≤ 280 := by
  unfold validRec printed at h
  simp only [Bool.and_eq_true, decide_eq_true_eq, Bool.not_eq_true', decide_eq_false_iff_not] at h
  obtain ⟨⟨⟨h1, h2, h3⟩, h4⟩, h5, h6⟩ := h
  exact ⟨by simpa using h1, h2, h3, h4, h5, h6⟩
theorem text_no35 {n : Int} {c r : List UInt8} (h0 : 0 ≤ n) (h : validRec c r = true) : (35 : UInt8) ∉ textL n c r := by
  obtain ⟨_, h2, _, _, h5, _⟩ := valid_parts h
  unfold textL
  simp only [List.mem_append, List.mem_singleton, not_or]
  exact ⟨⟨⟨⟨fun hm => by have := itoa_dig h0 _ hm; have e : (35 : UInt8).toNat = 35 := rfl; omega, by decide⟩, all_ok_no35 h2⟩, by decide⟩, all_ok_no35 h5⟩
theorem text_len {n : Int} {c r : List UInt8} (h0 : 0 ≤ n) (h1 : n < 1000000) : (textL n c r).length ≤ 8 + c.length + r.length := by
  have := itoa_small h0 h1
  unfold textL
  simp only [List.length_append, List.length_cons, List.length_nil]
  omega
theorem seal_len (l : List UInt8) : (sealL l).length ≤ l.length + 7 := by
  have := sum_small l
  unfold sealL
  simp only [List.length_append, List.length_cons, List.length_nil]
  omega
theorem text_B (n : Int) (c r : ByteArray) : ((((⟨(Lib.itoa n).toArray⟩ : ByteArray) ++ (⟨#[32]⟩ : ByteArray)) ++ c) ++ (⟨#[64]⟩ : ByteArray)) ++ r = ⟨(textL n (L c) (L r)).toArray⟩ := by
  apply ext_L
  simp only [L_append]
  rfl
theorem B_size (l : List UInt8) : (⟨l.toArray⟩ : ByteArray).size = l.length := by rw [size_L]
theorem spec_line (n : Int) (c r : ByteArray) (k : Nat) (h0 : 0 ≤ n) (h1 : n < 1000000) (hc : c.size ≤ 1000000000000) (hr : r.size ≤ 1000000000000) (hk : 1000100 + c.size + r.size < k) :
    spec_l12Line.f k n c r = some ⟨(encL n (L c) (L r)).toArray⟩ := by
  have hi := itoa_small h0 h1
  have ht := text_len (c := L c) (r := L r) h0 h1
  have hs := seal_len (textL n (L c) (L r))
  have hc' := size_L c
  have hr' := size_L r
  unfold spec_l12Line.f
  rw [num_eq n k (by omega) (by omega) (by omega), Option.bind_some, B_size, if_pos (by omega), if_pos (by omega), if_pos (by omega), if_pos (by omega), text_B,
    seal_eq _ k (by rw [B_size]; omega) (by rw [B_size]; omega) (by omega), Option.bind_some, B_size, L_mk (textL n (L c) (L r)), if_pos (by omega)]
  refine congrArg some (ext_L ?_)
  rw [L_append]
  rfl
def encR (n : Int) (c r : ByteArray) : ByteArray × Bool := if 0 ≤ n ∧ n ≤ 59 ∧ validRec (L c) (L r) = true then (⟨(encL n (L c) (L r)).toArray⟩, true) else (⟨#[]⟩, false)
theorem impl_enc (n : Int) (c r : ByteArray) (k : Nat) (hc : c.size ≤ 1000000000000) (hr : r.size ≤ 1000000000000) (hk : 1000100 + c.size + r.size < k) :
    impl_EncodeRecord.f k n c r = some (encR n c r) := by
  obtain ⟨k, rfl⟩ : ∃ m, k = m + 1 := ⟨k - 1, by omega⟩
  unfold impl_EncodeRecord.f impl_in.f encR
  by_cases h0 : 0 ≤ n
  · rw [if_pos (by omega), Option.bind_some]
    by_cases h1 : n ≤ 59
    · rw [if_pos (by simpa using h1), impl_valid c r (k + 1) (by omega) (by omega) (by omega) (by omega), Option.bind_some]
      by_cases hv : validRec (L c) (L r) = true
      · have hi := itoa_small h0 (by omega : n < 1000000)
        have ht := text_len (c := L c) (r := L r) h0 (by omega : n < 1000000)
        have hs := seal_len (textL n (L c) (L r))
        obtain ⟨_, _, v1, _, _, v2⟩ := valid_parts hv
        have hc' := size_L c
        have hr' := size_L r
        rw [hv, if_pos ⟨h0, h1, rfl⟩]
        simp only [impl_EncodeRecord.j0]
        rw [if_neg (by simp), itoa_eq n (by omega) (by omega), Option.bind_some, B_size, if_pos (by omega), if_pos (by omega), if_pos (by omega), if_pos (by omega), text_B,
          appendChecksum_eq _ k (by rw [B_size]; omega) (by rw [B_size]; omega), L_mk (textL n (L c) (L r)), if_pos ⟨by rw [B_size]; omega, text_no35 h0 hv, by omega⟩, Option.bind_some, B_size, if_pos (by omega)]
        refine congrArg some (Prod.ext (ext_L ?_) rfl)
        rw [L_append]
        rfl
      · have hv' : validRec (L c) (L r) = false := by simpa using hv
        rw [hv', if_neg (by simp)]
        simp only [impl_EncodeRecord.j0]
        rw [if_pos (by simp)]
    · rw [if_neg (by simpa using h1), if_neg (fun h => h1 h.2.1)]
      simp only [impl_EncodeRecord.j0]
      rw [if_pos trivial]
  · rw [if_neg (by omega), Option.bind_some, if_neg (by simp), if_neg (fun h => h0 h.1)]
    simp only [impl_EncodeRecord.j0]
    rw [if_pos trivial]
end Go.Proofs.YtgclcjohnnpejaaDoor.PureL
end

section
namespace Go.Proofs.YtgclcjohnnpejaaDoor.PureL
open Go.RowKit Go.Proofs.YtgclcjohnnpejaaDoor.Pr Go.Proofs.YtgclcjohnnpejaaDoorW.PrintWords Go.Proofs.YtgclcjohnnpejaaDoorW.PrintLast
set_option linter.unusedSimpArgs false
set_option linter.unusedVariables false
def upL (l : List UInt8) (c : UInt8) : List UInt8 := l.takeWhile (· != c)
def aftL (l : List UInt8) (c : UInt8) : List UInt8 := (l.dropWhile (· != c)).tail
theorem up_no {l : List UInt8} {c : UInt8} (h : c ∉ l) : upL l c = l := by
  unfold upL
  induction l with
  | nil => rfl
  | cons b l ih =>
    have hb : (b != c) = true := by simp only [bne_iff_ne, ne_eq]; rintro rfl; exact h (List.mem_cons_self ..)
    rw [List.takeWhile_cons, if_pos hb, ih (fun hm => h (List.mem_cons_of_mem _ hm))]
theorem drop_no {l : List UInt8} {c : UInt8} (h : c ∉ l) : l.dropWhile (· != c) = [] := by
  induction l with
  | nil => rfl
  | cons b l ih =>
    have hb : (b != c) = true := by simp only [bne_iff_ne, ne_eq]; rintro rfl; exact h (List.mem_cons_self ..)
    rw [List.dropWhile_cons, if_pos hb, ih (fun hm => h (List.mem_cons_of_mem _ hm))]
theorem up_mid {l r : List UInt8} {c : UInt8} (h : c ∉ l) : upL (l ++ c :: r) c = l := by
  unfold upL
  induction l with
  | nil => simp
  | cons b l ih =>
    have hb : (b != c) = true := by simp only [bne_iff_ne, ne_eq]; rintro rfl; exact h (List.mem_cons_self ..)
    rw [List.cons_append, List.takeWhile_cons, if_pos hb, ih (fun hm => h (List.mem_cons_of_mem _ hm))]
theorem aft_mid {l r : List UInt8} {c : UInt8} (h : c ∉ l) : aftL (l ++ c :: r) c = r := by
  unfold aftL
  induction l with
  | nil => simp
  | cons b l ih =>
    have hb : (b != c) = true := by simp only [bne_iff_ne, ne_eq]; rintro rfl; exact h (List.mem_cons_self ..)
    rw [List.cons_append, List.dropWhile_cons, if_pos hb, ih (fun hm => h (List.mem_cons_of_mem _ hm))]
theorem cutAt_eq (l : List UInt8) (c : UInt8) : cutAt l c = (upL l c, aftL l c, decide (c ∈ l)) := by
  unfold cutAt
  by_cases h : c ∈ l
  · rw [if_pos h, decide_eq_true h]; rfl
  · rw [if_neg h, up_no h, decide_eq_false h]
    unfold aftL
    rw [drop_no h]
    rfl
theorem up_len (l : List UInt8) (c : UInt8) : (upL l c).length ≤ l.length := by
  have := (List.takeWhile_prefix (· != c) (l := l)).length_le
  exact this
theorem no_tw : ∀ (l : List UInt8) (c : UInt8), c ∉ l.takeWhile (· != c)
  | [], c => by simp
  | b :: l, c => by
    by_cases hb : (b != c) = true
    · rw [List.takeWhile_cons, if_pos hb, List.mem_cons, not_or]
      exact ⟨fun e => by rw [e] at hb; simp at hb, no_tw l c⟩
    · rw [List.takeWhile_cons, if_neg hb]; simp
theorem up_lt {l : List UInt8} {c : UInt8} (h : c ∈ l) : (upL l c).length < l.length := by
  have h1 := List.takeWhile_append_dropWhile (p := (· != c)) (l := l)
  have h2 : l.dropWhile (· != c) ≠ [] := fun e => by
    have : c ∈ l.takeWhile (· != c) := by rw [e, List.append_nil] at h1; rw [h1]; exact h
    exact no_tw l c this
  have h3 := congrArg List.length h1
  rw [List.length_append] at h3
  have := List.length_pos_iff.2 h2
  unfold upL
  omega
theorem aft_len (l : List UInt8) (c : UInt8) : (aftL l c).length ≤ l.length := by
  unfold aftL
  have h1 := (List.dropWhile_suffix (· != c) (l := l)).length_le
  rw [List.length_tail]
  omega
theorem cut_f (s : ByteArray) (c : UInt8) (hs : s.size < 4294967281) : strings_Cut.f s (⟨#[c]⟩ : ByteArray) = some (⟨(upL (L s) c).toArray⟩, ⟨(aftL (L s) c).toArray⟩, decide (c ∈ L s)) := by
  unfold strings_Cut.f
  rw [if_pos ⟨rfl, hs⟩]
  have e : ((⟨#[c]⟩ : ByteArray).data.toList.headD 0) = c := rfl
  rw [e, cutAt_eq]
theorem split_l0 (s : ByteArray) (c : UInt8) (hs : s.size ≤ 1000000000000) : ∀ (l : List UInt8) (acc : List ByteArray) (fr i k : Nat), (L s).drop i = l → fr ≤ i → i ≤ s.size → acc.length ≤ i → l.length < k →
    ∃ q qs, spec_l1Split.l0 k s (c.toNat : Int) acc (fr : Int) (i : Int) = some (acc ++ q :: qs) ∧ qs.length = l.count c ∧ L q = ((L s).drop fr).take (i - fr) ++ upL l c
  | [], acc, fr, i, k, h, hf, hi, ha, hk => by
    obtain ⟨k, rfl⟩ : ∃ m, k = m + 1 := ⟨k - 1, by omega⟩
    have hsz := drop_nil_iff.1 h
    have hi' : i = s.size := by omega
    simp only [spec_l1Split.l0]
    rw [if_neg (by omega), if_pos (by omega), if_pos (by omega), if_pos (by omega)]
    refine ⟨_, [], rfl, rfl, ?_⟩
    rw [L_extract, Int.toNat_natCast, hi', size_L]
    simp [upL]
  | b :: l, acc, fr, i, k, h, hf, hi, ha, hk => by
    obtain ⟨k, rfl⟩ : ∃ m, k = m + 1 := ⟨k - 1, by omega⟩
    obtain ⟨e1, e2, e3⟩ := bt_drop h
    simp only [List.length_cons] at hk
    simp only [spec_l1Split.l0]
    rw [if_pos (by omega), if_pos (by omega), e1]
    by_cases e : b = c
    · subst e
      rw [if_pos rfl, if_pos (by omega), if_pos (by omega), if_pos (by omega), if_pos (by omega), wrap_up (n := s.size) (by omega) (by omega) (by omega), show ((i : Int) + 1) = ((i + 1 : Nat) : Int) from by omega]
      obtain ⟨q, qs, h1, h2, _⟩ := split_l0 s b hs l (acc ++ [s.extract (fr : Int).toNat (i : Int).toNat]) (i + 1) (i + 1) k e2 (by omega) (by omega) (by simp; omega) (by omega)
      refine ⟨s.extract fr i, q :: qs, ?_, by simp [h2], ?_⟩
      · rw [h1]; simp
      · rw [L_extract]; simp [upL]
    · rw [if_neg (fun hh => e ((byte_eq _ _).1 hh)), wrap_up (n := s.size) (by omega) (by omega) (by omega), show ((i : Int) + 1) = ((i + 1 : Nat) : Int) from by omega]
      obtain ⟨q, qs, h1, h2, h3⟩ := split_l0 s c hs l acc fr (i + 1) k e2 (by omega) (by omega) (by omega) (by omega)
      refine ⟨q, qs, h1, by rw [h2, List.count_cons]; simp [e], ?_⟩
      rw [h3]
      have hb : (b != c) = true := by simpa using e
      have hup : upL (b :: l) c = b :: upL l c := by unfold upL; rw [List.takeWhile_cons, if_pos hb]
      rw [hup]
      have hlen : i - fr < ((L s).drop fr).length := by rw [List.length_drop, ← size_L]; omega
      have hget : ((L s).drop fr)[i - fr]'hlen = b := by
        rw [List.getElem_drop]
        have hi2 : i < (L s).length := by rw [← size_L]; exact e3
        have := List.drop_eq_getElem_cons hi2
        rw [h] at this
        injection this with t1 _
        rw [t1]
        congr 1
        omega
      rw [show i + 1 - fr = (i - fr) + 1 from by omega, List.take_succ_eq_append_getElem hlen, hget]
      simp
theorem split_f (s : ByteArray) (c : UInt8) (k : Nat) (hs : s.size ≤ 1000000000000) (hk : s.size < k) :
    ∃ q qs, spec_l1Split.f k s (c.toNat : Int) = some (q :: qs) ∧ qs.length = (L s).count c ∧ L q = upL (L s) c := by
  obtain ⟨q, qs, h1, h2, h3⟩ := split_l0 s c hs (L s) [] 0 0 k rfl (by omega) (by omega) (by simp) (by rw [← size_L]; exact hk)
  exact ⟨q, qs, h1, h2, by simpa using h3⟩
def decI (_n : Nat) (line : List UInt8) : List UInt8 × List UInt8 := (upL (aftL (upL line 35) 32) 64, aftL (aftL (upL line 35) 32) 64)
def goodI (n : Nat) (line : List UInt8) : Bool := validRec (decI n line).1 (decI n line).2 && decide (encL n (decI n line).1 (decI n line).2 = line ++ [10])
theorem no_in_itoa {n : Nat} {b : UInt8} (h : b.toNat < 48) : b ∉ Lib.itoa (n : Int) := fun hm => by have := itoa_dig (n := (n : Int)) (by omega) b hm; omega
theorem enc_cuts {n : Nat} {c r line : List UInt8} (hv : validRec c r = true) (he : encL n c r = line ++ [10]) :
    upL line 35 = textL n c r ∧ aftL (textL n c r) 32 = c ++ 64 :: r ∧ upL (c ++ 64 :: r) 64 = c ∧ aftL (c ++ 64 :: r) 64 = r := by
  have hl : sealL (textL n c r) = line := by
    unfold encL at he
    exact (List.append_inj' he rfl).1
  have h35 := text_no35 (n := (n : Int)) (by omega) hv
  obtain ⟨_, _, _, h64, _, _⟩ := valid_parts hv
  refine ⟨?_, ?_, up_mid h64, aft_mid h64⟩
  · rw [← hl]
    unfold sealL
    rw [List.append_assoc]
    exact up_mid h35
  · unfold textL
    rw [show Lib.itoa (n : Int) ++ [32] ++ c ++ [64] ++ r = Lib.itoa (n : Int) ++ 32 :: (c ++ 64 :: r) from by simp]
    exact aft_mid (no_in_itoa (by decide))
theorem goodI_of {n : Nat} {c r line : List UInt8} (hv : validRec c r = true) (he : encL n c r = line ++ [10]) : goodI n line = true ∧ decI n line = (c, r) := by
  obtain ⟨h1, h2, h3, h4⟩ := enc_cuts hv he
  have hd : decI n line = (c, r) := by unfold decI; rw [h1, h2, h3, h4]
  refine ⟨?_, hd⟩
  unfold goodI
  rw [hd, hv, decide_eq_true he]
  rfl
theorem decode_f (n : Nat) (line : ByteArray) (k : Nat) (hn : n < 60) (hs : line.size ≤ 100000000000) (hk : 2000100 + 2 * line.size < k) :
    ∃ c r, spec_l12Decode.f k line (n : Int) = some (c, r, goodI n (L line)) ∧ (goodI n (L line) = true → (L c, L r) = decI n (L line)) := by
  obtain ⟨k, rfl⟩ : ∃ m, k = m + 1 := ⟨k - 1, by omega⟩
  have hi := itoa_small (n := (n : Int)) (by omega) (by omega)
  obtain ⟨q, qs, h1, h2, h3⟩ := split_f line 35 (k + 1) (by omega) (by omega)
  have hq : q.size ≤ line.size := by rw [size_L, h3, size_L]; exact up_len _ _
  unfold spec_l12Decode.f
  rw [num_eq (n : Int) (k + 1) (by omega) (by omega) (by omega), Option.bind_some, B_size, if_pos (by omega), show (35 : Int) = ((35 : UInt8).toNat : Int) from rfl, h1, Option.bind_some, if_pos (by simp)]
  have hrd : rdOf ByteArray.empty (q :: qs) 0 = q := rfl
  rw [hrd]
  have bad : goodI n (L line) = false → ∀ c r, validRec c r = true → encL n c r = L line ++ [10] → False := fun hb c r hv he => by rw [(goodI_of hv he).1] at hb; cases hb
  have ahead : ((⟨(Lib.itoa (n : Int)).toArray⟩ : ByteArray) ++ (⟨#[32]⟩ : ByteArray)) = ⟨(Lib.itoa (n : Int) ++ [32]).toArray⟩ := by apply ext_L; rw [L_append]
  have nohead : ¬ (Lib.itoa (n : Int) ++ [32]) <+: L q → goodI n (L line) = false := fun hp => by
    cases hg : goodI n (L line) with
    | false => rfl
    | true =>
      unfold goodI at hg
      simp only [Bool.and_eq_true, decide_eq_true_eq] at hg
      obtain ⟨e1, _⟩ := enc_cuts hg.1 hg.2
      refine absurd ?_ hp
      rw [h3, e1]
      unfold textL
      exact ⟨(decI n (L line)).1 ++ 64 :: (decI n (L line)).2, by simp⟩
  by_cases hlt : ((q.size : Int)) < (((Lib.itoa (n : Int)).length : Int) + 1)
  · rw [if_pos hlt]
    simp only [spec_l12Decode.j0]
    rw [if_pos trivial]
    have hg := nohead (fun hp => by
      have := hp.length_le
      rw [List.length_append, List.length_singleton, ← size_L] at this
      omega)
    exact ⟨_, _, by rw [hg], fun h => by rw [hg] at h; cases h⟩
  · rw [if_neg hlt, if_pos (by omega), if_pos (by omega), ahead]
    have htk : (q.extract 0 ((((Lib.itoa (n : Int)).length : Int) + 1) : Int).toNat).toList = (L q).take ((Lib.itoa (n : Int)).length + 1) := by
      rw [L_toList, L_extract]
      simp only [List.drop_zero, Nat.sub_zero]
      congr 1
    rw [htk, L_toList, L_mk (Lib.itoa (n : Int) ++ [32])]
    by_cases hp : (L q).take ((Lib.itoa (n : Int)).length + 1) = Lib.itoa (n : Int) ++ [32]
    · rw [show ((L q).take ((Lib.itoa (n : Int)).length + 1) != Lib.itoa (n : Int) ++ [32]) = false from by rw [bne_eq_false_iff_eq]; exact hp]
      simp only [spec_l12Decode.j0]
      have hsz : (⟨(Lib.itoa (n : Int) ++ [32]).toArray⟩ : ByteArray).size = (Lib.itoa (n : Int)).length + 1 := by rw [B_size]; simp
      rw [if_neg (by simp), hsz, if_pos (by omega), if_pos (by omega)]
      generalize hrest : q.extract ((Lib.itoa (n : Int)).length + 1) q.size = rest
      have hL : L rest = (L q).drop ((Lib.itoa (n : Int)).length + 1) := by
        rw [← hrest, L_extract, size_L]
        exact List.take_of_length_le (by simp)
      have hrs : rest.size = q.size - ((Lib.itoa (n : Int)).length + 1) := by rw [size_L, hL, List.length_drop, ← size_L]
      have hqq : L q = Lib.itoa (n : Int) ++ 32 :: L rest := by
        have := List.take_append_drop ((Lib.itoa (n : Int)).length + 1) (L q)
        rw [hp, ← hL] at this
        rw [← this]
        simp
      obtain ⟨p, ps, g1, g2, g3⟩ := split_f rest 64 k (by omega) (by omega)
      have hpr : p.size ≤ rest.size := by rw [size_L, g3, size_L]; exact up_len _ _
      rw [show (64 : Int) = ((64 : UInt8).toNat : Int) from rfl, g1, Option.bind_some, if_pos (by simp)]
      have hrd2 : rdOf ByteArray.empty (p :: ps) 0 = p := rfl
      rw [hrd2]
      have hdec : aftL (upL (L line) 35) 32 = L rest := by rw [← h3, hqq]; exact aft_mid (no_in_itoa (by decide))
      have hdI : decI n (L line) = (upL (L rest) 64, aftL (L rest) 64) := by unfold decI; rw [hdec]
      by_cases hm : (64 : UInt8) ∈ L rest
      · have hlt2 : p.size < rest.size := by rw [size_L, g3, size_L]; exact up_lt hm
        rw [if_neg (by omega), wrap_in (by omega) (by omega), if_pos (by omega), if_pos (by omega)]
        have hrest2 : rest.extract (((p.size : Int) + 1) : Int).toNat (q.size - ((Lib.itoa (n : Int)).length + 1)) = ⟨(aftL (L rest) 64).toArray⟩ := by
          apply ext_L
          rw [← hrs, L_extract, size_L rest, List.take_of_length_le (by simp), show (((p.size : Int) + 1) : Int).toNat = p.size + 1 from by omega, size_L p, g3]
          unfold aftL upL
          rw [← drop_takeWhile, List.tail_drop]
        rw [hrest2]
        have hc : L p = (decI n (L line)).1 := by rw [hdI, g3]
        have hr : aftL (L rest) 64 = (decI n (L line)).2 := by rw [hdI]
        have hasz : (⟨(aftL (L rest) 64).toArray⟩ : ByteArray).size ≤ rest.size := by rw [B_size, size_L]; exact aft_len _ _
        rw [spec_valid p _ k (by omega) (by omega) (by omega) (by omega), Option.bind_some, L_mk (aftL (L rest) 64), hc, hr]
        by_cases hv : validRec (decI n (L line)).1 (decI n (L line)).2 = true
        · rw [if_pos hv, spec_line (n : Int) p _ k (by omega) (by omega) (by omega) (by rw [← hr]; omega) (by rw [← hr]; omega), Option.bind_some, if_pos (by omega)]
          refine ⟨p, ⟨(decI n (L line)).2.toArray⟩, ?_, fun _ => Prod.ext hc rfl⟩
          refine congrArg some (Prod.ext rfl (Prod.ext rfl ?_))
          show (_ == _) = goodI n (L line)
          unfold goodI
          rw [hv, Bool.true_and, L_toList, L_toList, L_append, hc, L_mk (decI n (L line)).2, Bool.eq_iff_iff, beq_iff_eq, decide_eq_true_eq]
        · rw [if_neg hv]
          have hg : goodI n (L line) = false := by unfold goodI; rw [show validRec (decI n (L line)).1 (decI n (L line)).2 = false from by simpa using hv]; rfl
          exact ⟨_, _, by rw [hg], fun h => by rw [hg] at h; cases h⟩
      · have hpe : p.size = rest.size := by rw [size_L, g3, up_no hm, size_L]
        rw [if_pos (by omega)]
        have hg : goodI n (L line) = false := by
          cases hg : goodI n (L line) with
          | false => rfl
          | true =>
            unfold goodI at hg
            simp only [Bool.and_eq_true, decide_eq_true_eq] at hg
            obtain ⟨e1, e2, _⟩ := enc_cuts hg.1 hg.2
            rw [e1] at hdec
            rw [e2] at hdec
            refine absurd ?_ hm
            rw [← hdec]
            simp
        exact ⟨_, _, by rw [hg], fun h => by rw [hg] at h; cases h⟩
    · rw [show ((L q).take ((Lib.itoa (n : Int)).length + 1) != Lib.itoa (n : Int) ++ [32]) = true from by rw [bne_iff_ne]; exact hp]
      simp only [spec_l12Decode.j0]
      rw [if_pos trivial]
      have hg := nohead (fun hpre => hp (by
        have := List.prefix_iff_eq_take.1 hpre
        rw [List.length_append, List.length_singleton] at this
        exact this.symm))
      exact ⟨_, _, by rw [hg], fun h => by rw [hg] at h; cases h⟩
def rdL : Nat → Nat → List UInt8 → List S38 × Nat
  | 0, _, _ => ([], 0)
  | d + 1, n, t => if n < 60 ∧ (10 : UInt8) ∈ t ∧ goodI n (upL t 10) = true then (⟨⟨(decI n (upL t 10)).1.toArray⟩, ⟨(decI n (upL t 10)).2.toArray⟩⟩ :: (rdL d (n + 1) (aftL t 10)).1, (upL t 10).length + 1 + (rdL d (n + 1) (aftL t 10)).2) else ([], 0)
theorem open_eq (s : ByteArray) (hs : s.size ≤ 2000000) : ∀ (d i : Nat) (acc : List S38), i ≤ s.size → s.size - i ≤ d →
    ∃ (l : List S38) (n : Nat), n ≤ s.size ∧ (l.length ≤ 60 ∨ l = acc) ∧ (l = acc ++ (rdL d acc.length ((L s).drop i)).1 ∧ n = i + (rdL d acc.length ((L s).drop i)).2) ∧ ∀ k, 9000000 + 2 * d < k → impl_readRecords.l0 k s acc (i : Int) = some (l, (n : Int)) ∧ spec_l12Open.l0 k s acc (i : Int) = some (l, (n : Int)) := by
  intro d
  induction d with
  | zero =>
    intro i acc hi hd
    have hie : i = s.size := by omega
    refine ⟨acc, i, hi, .inr rfl, ⟨by simp [rdL], by simp [rdL]⟩, fun k hk => ?_⟩
    obtain ⟨k, rfl⟩ : ∃ m, k = m + 2 := ⟨k - 2, by omega⟩
    constructor
    · simp only [impl_readRecords.l0]
      by_cases h60 : (acc.length : Int) < 60
      · have he : L (s.extract i s.size) = [] := by rw [L_extract, hie, size_L]; simp
        have hez : (s.extract i s.size).size = 0 := by rw [size_L, he]; rfl
        rw [if_pos h60, if_pos (by omega), if_pos (by omega), Int.toNat_natCast, cut_f _ 10 (by omega), Option.bind_some, he]
        simp only [upL, aftL, List.takeWhile_nil, List.dropWhile_nil, List.tail_nil]
        rw [cut_f _ 35 (by rw [B_size]; decide), Option.bind_some, L_mk]
        simp only [upL, aftL, List.takeWhile_nil, List.dropWhile_nil, List.tail_nil]
        rw [cut_f _ 32 (by rw [B_size]; decide), Option.bind_some, L_mk]
        simp only [upL, aftL, List.takeWhile_nil, List.dropWhile_nil, List.tail_nil]
        rw [cut_f _ 64 (by rw [B_size]; decide), Option.bind_some, L_mk]
        simp only [upL, aftL, List.takeWhile_nil, List.dropWhile_nil, List.tail_nil]
        rw [impl_enc _ _ _ _ (by rw [B_size]; decide) (by rw [B_size]; decide) (by rw [B_size]; simp; omega), Option.bind_some, if_neg (by simp)]
      · rw [if_neg h60]
    · simp only [spec_l12Open.l0]
      rw [if_neg (by omega)]
      simp only [spec_l12Open.j1]
      rw [if_neg (by simp)]
  | succ d ih =>
    intro i acc hi hd
    by_cases h60 : (acc.length : Int) < 60
    · generalize hx : s.extract i s.size = x
      have hLx : L x = (L s).drop i := by rw [← hx, L_extract, size_L]; exact List.take_of_length_le (by simp)
      have hxs : x.size = s.size - i := by rw [size_L, hLx, List.length_drop, ← size_L]
      generalize hline : (⟨(upL (L x) 10).toArray⟩ : ByteArray) = line
      have hLl : L line = upL (L x) 10 := by rw [← hline]
      have hls : line.size ≤ x.size := by rw [size_L, hLl, size_L]; exact up_len _ _
      have hal : acc.length < 60 := by omega
      have hb : (⟨(upL (L line) 35).toArray⟩ : ByteArray).size ≤ line.size := by rw [B_size, size_L]; exact up_len _ _
      have hr : (⟨(aftL (upL (L line) 35) 32).toArray⟩ : ByteArray).size ≤ line.size := by rw [B_size]; have := aft_len (upL (L line) 35) 32; have h2 := up_len (L line) 35; rw [size_L]; omega
      have hc : (⟨(upL (aftL (upL (L line) 35) 32) 64).toArray⟩ : ByteArray).size ≤ line.size := by rw [B_size] at hr ⊢; have := up_len (aftL (upL (L line) 35) 32) 64; omega
      have hrp : (⟨(aftL (aftL (upL (L line) 35) 32) 64).toArray⟩ : ByteArray).size ≤ line.size := by rw [B_size] at hr ⊢; have := aft_len (aftL (upL (L line) 35) 32) 64; omega
      have impl_step : ∀ k, 9000000 < k → impl_readRecords.l0 (k + 1) s acc (i : Int) =
          if (10 : UInt8) ∈ L x ∧ goodI acc.length (L line) = true then impl_readRecords.l0 k s (acc ++ [⟨⟨(decI acc.length (L line)).1.toArray⟩, ⟨(decI acc.length (L line)).2.toArray⟩⟩]) ((i + line.size + 1 : Nat) : Int) else some (acc, (i : Int)) := by
        intro k hk
        simp only [impl_readRecords.l0]
        rw [if_pos h60, if_pos (by omega), if_pos (by omega), Int.toNat_natCast, hx, cut_f x 10 (by omega), Option.bind_some, hline]
        dsimp only
        rw [cut_f line 35 (by omega), Option.bind_some]
        dsimp only
        rw [cut_f _ 32 (by omega), Option.bind_some, L_mk (upL (L line) 35)]
        dsimp only
        rw [cut_f _ 64 (by omega), Option.bind_some, L_mk (aftL (upL (L line) 35) 32)]
        dsimp only
        rw [impl_enc _ _ _ _ (by omega) (by omega) (by omega), Option.bind_some]
        by_cases hm : (10 : UInt8) ∈ L x
        · rw [if_pos (by simpa using hm)]
          by_cases hv : validRec (upL (aftL (upL (L line) 35) 32) 64) (aftL (aftL (upL (L line) 35) 32) 64) = true
          · have henc : encR (acc.length : Int) ⟨(upL (aftL (upL (L line) 35) 32) 64).toArray⟩ ⟨(aftL (aftL (upL (L line) 35) 32) 64).toArray⟩ = (⟨(encL (acc.length : Int) (upL (aftL (upL (L line) 35) 32) 64) (aftL (aftL (upL (L line) 35) 32) 64)).toArray⟩, true) := by
              unfold encR
              rw [L_mk (upL (aftL (upL (L line) 35) 32) 64), L_mk (aftL (aftL (upL (L line) 35) 32) 64), if_pos ⟨by omega, by omega, hv⟩]
            rw [henc]
            dsimp only
            rw [if_pos rfl, if_pos (by omega), L_toList, L_toList, L_append, L_mk (encL (acc.length : Int) (upL (aftL (upL (L line) 35) 32) 64) (aftL (aftL (upL (L line) 35) 32) 64)), L_mk [10]]
            by_cases he : encL (acc.length : Int) (upL (aftL (upL (L line) 35) 32) 64) (aftL (aftL (upL (L line) 35) 32) 64) = L line ++ [10]
            · rw [if_pos he, if_pos (by omega), if_pos ⟨hm, (goodI_of hv he).1⟩, wrap_in (i := (i : Int) + (line.size : Int)) (by omega) (by omega), wrap_in (by omega) (by omega)]
              rfl
            · rw [if_neg he, if_neg (fun h => he (by
                have h2 := h.2
                unfold goodI decI at h2
                simp only [Bool.and_eq_true, decide_eq_true_eq] at h2
                exact h2.2))]
          · have henc : encR (acc.length : Int) ⟨(upL (aftL (upL (L line) 35) 32) 64).toArray⟩ ⟨(aftL (aftL (upL (L line) 35) 32) 64).toArray⟩ = (⟨#[]⟩, false) := by
              unfold encR
              rw [L_mk (upL (aftL (upL (L line) 35) 32) 64), L_mk (aftL (aftL (upL (L line) 35) 32) 64), if_neg (fun h => hv h.2.2)]
            rw [henc]
            dsimp only
            rw [if_neg (by simp), if_neg (fun h => hv (by
              have h2 := h.2
              unfold goodI decI at h2
              simp only [Bool.and_eq_true, decide_eq_true_eq] at h2
              exact h2.1))]
        · rw [if_neg (by simpa using hm), if_neg (fun h => hm h.1)]
      have spec_step : ∀ k, 9000000 < k → spec_l12Open.l0 (k + 2) s acc (i : Int) =
          if (10 : UInt8) ∈ L x ∧ goodI acc.length (L line) = true then spec_l12Open.l0 k s (acc ++ [⟨⟨(decI acc.length (L line)).1.toArray⟩, ⟨(decI acc.length (L line)).2.toArray⟩⟩]) ((i + line.size + 1 : Nat) : Int) else some (acc, (i : Int)) := by
        intro k hk
        simp only [spec_l12Open.l0]
        by_cases hlt : (i : Int) < (s.size : Int)
        · rw [if_pos hlt]
          simp only [spec_l12Open.j1]
          rw [if_pos (by simpa using h60), if_pos (by omega), if_pos (by omega), Int.toNat_natCast, hx]
          obtain ⟨q, qs, h1, h2, h3⟩ := split_f x 10 k (by omega) (by omega)
          rw [show (10 : Int) = ((10 : UInt8).toNat : Int) from rfl, h1, Option.bind_some, if_pos (by simp)]
          have hq : rdOf ByteArray.empty (q :: qs) 0 = line := by
            show q = line
            apply ext_L
            rw [h3, hLl]
          rw [hq]
          obtain ⟨c, r, g1, g2⟩ := decode_f acc.length line k hal (by omega) (by omega)
          rw [g1, Option.bind_some]
          by_cases hm : (10 : UInt8) ∈ L x
          · have hcnt : 0 < qs.length := by rw [h2]; exact List.count_pos_iff.2 hm
            rw [if_neg (by simp only [List.length_cons]; omega)]
            by_cases hg : goodI acc.length (L line) = true
            · rw [if_pos hg, if_pos (by omega), if_pos ⟨hm, hg⟩, wrap_in (i := (i : Int) + (line.size : Int)) (by omega) (by omega), wrap_in (by omega) (by omega)]
              have h4 := g2 hg
              have e1 : c = ⟨(decI acc.length (L line)).1.toArray⟩ := ext_L (by rw [← h4])
              have e2 : r = ⟨(decI acc.length (L line)).2.toArray⟩ := ext_L (by rw [← h4])
              rw [e1, e2]
              rfl
            · rw [if_neg hg, if_neg (fun h => hg h.2)]
          · have hcnt : qs.length = 0 := by rw [h2]; exact List.count_eq_zero.2 hm
            rw [if_pos (by simp only [List.length_cons]; omega), if_neg (fun h => hm h.1)]
        · rw [if_neg hlt]
          simp only [spec_l12Open.j1]
          have hm : (10 : UInt8) ∉ L x := by
            have : L x = [] := List.eq_nil_of_length_eq_zero (by rw [← size_L]; omega)
            rw [this]; simp
          rw [if_neg (by simp), if_neg (fun h => hm h.1)]
      by_cases hgo : (10 : UInt8) ∈ L x ∧ goodI acc.length (L line) = true
      · have hlt := up_lt hgo.1
        rw [← hLl, ← size_L, ← size_L] at hlt
        have haft : (L s).drop (i + line.size + 1) = aftL (L x) 10 := by
          rw [Nat.add_assoc, ← List.drop_drop, ← hLx, size_L, hLl]
          unfold aftL upL
          rw [← drop_takeWhile, List.tail_drop]
        have hrd : rdL (d + 1) acc.length ((L s).drop i) = (⟨⟨(decI acc.length (L line)).1.toArray⟩, ⟨(decI acc.length (L line)).2.toArray⟩⟩ :: (rdL d (acc.length + 1) (aftL (L x) 10)).1, (L line).length + 1 + (rdL d (acc.length + 1) (aftL (L x) 10)).2) := by
          rw [← hLx, rdL, if_pos ⟨hal, hgo.1, by rw [← hLl]; exact hgo.2⟩, ← hLl]
        obtain ⟨l, n, hn, hll, ⟨hl2, hn2⟩, h⟩ := ih (i + line.size + 1) (acc ++ [⟨⟨(decI acc.length (L line)).1.toArray⟩, ⟨(decI acc.length (L line)).2.toArray⟩⟩]) (by omega) (by omega)
        refine ⟨l, n, hn, .inl (hll.elim id (fun e => by rw [e, List.length_append]; simp; omega)), ?_, fun k hk => ?_⟩
        · rw [haft, List.length_append, List.length_singleton] at hl2 hn2
          rw [hrd]
          exact ⟨by rw [hl2, List.append_assoc]; rfl, by rw [hn2, size_L]; dsimp only; omega⟩
        obtain ⟨k, rfl⟩ : ∃ m, k = m + 2 := ⟨k - 2, by omega⟩
        rw [show k + 2 = (k + 1) + 1 from rfl, impl_step (k + 1) (by omega), if_pos hgo]
        refine ⟨(h (k + 1) (by omega)).1, ?_⟩
        rw [show k + 1 + 1 = k + 2 from rfl, spec_step k (by omega), if_pos hgo]
        exact (h k (by omega)).2
      · have hrd : rdL (d + 1) acc.length ((L s).drop i) = ([], 0) := by
          rw [← hLx, rdL, if_neg (fun h => hgo ⟨h.2.1, by rw [hLl]; exact h.2.2⟩)]
        refine ⟨acc, i, hi, .inr rfl, ⟨by rw [hrd]; simp, by rw [hrd]; simp⟩, fun k hk => ?_⟩
        obtain ⟨k, rfl⟩ : ∃ m, k = m + 2 := ⟨k - 2, by omega⟩
        rw [show k + 2 = (k + 1) + 1 from rfl, impl_step (k + 1) (by omega), if_neg hgo]
        refine ⟨rfl, ?_⟩
        rw [show k + 1 + 1 = k + 2 from rfl, spec_step k (by omega), if_neg hgo]
    · have hrd : rdL (d + 1) acc.length ((L s).drop i) = ([], 0) := by
        rw [rdL, if_neg (fun h => h60 (by omega))]
      refine ⟨acc, i, hi, .inr rfl, ⟨by rw [hrd]; simp, by rw [hrd]; simp⟩, fun k hk => ?_⟩
      obtain ⟨k, rfl⟩ : ∃ m, k = m + 2 := ⟨k - 2, by omega⟩
      constructor
      · simp only [impl_readRecords.l0]
        rw [if_neg h60]
      · simp only [spec_l12Open.l0]
        by_cases hlt : (i : Int) < (s.size : Int)
        · rw [if_pos hlt]
          simp only [spec_l12Open.j1]
          rw [if_neg (by simpa using h60)]
        · rw [if_neg hlt]
          simp only [spec_l12Open.j1]
          rw [if_neg (by simp)]
theorem read_eq2 (s : ByteArray) (hs : s.size ≤ 2000000) : (rdL s.size 0 (L s)).2 ≤ s.size ∧ (rdL s.size 0 (L s)).1.length ≤ 60 ∧ ∀ k, 20000000 < k → impl_readRecords.f k s = some ((rdL s.size 0 (L s)).1, ((rdL s.size 0 (L s)).2 : Int)) ∧ spec_l12Open.f k s = some ((rdL s.size 0 (L s)).1, ((rdL s.size 0 (L s)).2 : Int)) := by
  obtain ⟨l, n, hn, hl, ⟨e1, e2⟩, h⟩ := open_eq s hs s.size 0 [] (by omega) (by omega)
  rw [List.nil_append, List.length_nil, List.drop_zero] at e1
  rw [List.length_nil, List.drop_zero, Nat.zero_add] at e2
  subst e1
  subst e2
  exact ⟨hn, hl.elim id (fun e => by rw [e]; simp), fun k hk => h k (by omega)⟩
end Go.Proofs.YtgclcjohnnpejaaDoor.PureL
end

section
set_option linter.unusedVariables false
set_option linter.unusedSimpArgs false
namespace Go.Proofs.YtgclcjohnnpejaaDoor.PureL
open Go.RowKit Go.Proofs.YtgclcjohnnpejaaDoor.Pr Go.Proofs.YtgclcjohnnpejaaDoorW.PrintWords Go.Proofs.YtgclcjohnnpejaaDoorW.PrintLast
theorem up_aft {t : List UInt8} {c : UInt8} (h : c ∈ t) : t = upL t c ++ c :: aftL t c := by
  have h1 := List.takeWhile_append_dropWhile (p := (· != c)) (l := t)
  have h2 : t.dropWhile (· != c) ≠ [] := fun e => by
    have : c ∈ t.takeWhile (· != c) := by rw [e, List.append_nil] at h1; rw [h1]; exact h
    exact no_tw t c this
  unfold upL aftL
  obtain ⟨b, r, hb⟩ := List.exists_cons_of_ne_nil h2
  have hbc : b = c := by
    have := List.head?_dropWhile_not (· != c) t
    rw [hb] at this
    simpa using this
  subst hbc
  rw [hb] at h1 ⊢
  exact h1.symm
theorem up_not (t : List UInt8) (c : UInt8) : c ∉ upL t c := no_tw t c
def rdA (n : Nat) (t : List UInt8) : List S38 × Nat := rdL t.length n t
theorem rdL_fuel : ∀ (d n : Nat) (t : List UInt8), t.length ≤ d → rdL d n t = rdA n t := by
  have main : ∀ (m d e n : Nat) (t : List UInt8), t.length ≤ m → t.length ≤ d → t.length ≤ e → rdL d n t = rdL e n t := by
    intro m
    induction m with
    | zero =>
      intro d e n t h0 h1 h2
      have : t = [] := List.eq_nil_of_length_eq_zero (by omega)
      subst this
      cases d <;> cases e <;> simp [rdL]
    | succ m ih =>
      intro d e n t h0 h1 h2
      by_cases hc : (10 : UInt8) ∈ t
      · have hl := congrArg List.length (up_aft hc)
        rw [List.length_append, List.length_cons] at hl
        obtain ⟨d, rfl⟩ : ∃ z, d = z + 1 := ⟨d - 1, by omega⟩
        obtain ⟨e, rfl⟩ : ∃ z, e = z + 1 := ⟨e - 1, by omega⟩
        rw [rdL, rdL, ih d e (n + 1) (aftL t 10) (by omega) (by omega) (by omega)]
      · cases d <;> cases e <;> simp [rdL, hc]
  intro d n t h
  exact main d d t.length n t h h (Nat.le_refl _)
theorem rdA_eq (n : Nat) (t : List UInt8) : rdA n t = if n < 60 ∧ (10 : UInt8) ∈ t ∧ goodI n (upL t 10) = true then (⟨⟨(decI n (upL t 10)).1.toArray⟩, ⟨(decI n (upL t 10)).2.toArray⟩⟩ :: (rdA (n + 1) (aftL t 10)).1, (upL t 10).length + 1 + (rdA (n + 1) (aftL t 10)).2) else ([], 0) := by
  by_cases hc : (10 : UInt8) ∈ t
  · have hl := congrArg List.length (up_aft hc)
    rw [List.length_append, List.length_cons] at hl
    rw [← rdL_fuel (t.length + 1) n t (by omega), rdL, rdL_fuel t.length (n + 1) (aftL t 10) (by omega)]
  · rw [← rdL_fuel (t.length + 1) n t (by omega), rdL, if_neg (fun h => hc h.2.1), if_neg (fun h => hc h.2.1)]
theorem rdA_le (n : Nat) (t : List UInt8) : (rdA n t).2 ≤ t.length := by
  have main : ∀ (m n : Nat) (t : List UInt8), t.length ≤ m → (rdA n t).2 ≤ t.length := by
    intro m
    induction m with
    | zero =>
      intro n t h
      have : t = [] := List.eq_nil_of_length_eq_zero (by omega)
      subst this
      rw [rdA_eq, if_neg (by simp)]
      simp
    | succ m ih =>
      intro n t h
      rw [rdA_eq]
      split
      · rename_i h1
        have hl := congrArg List.length (up_aft h1.2.1)
        rw [List.length_append, List.length_cons] at hl
        have := ih (n + 1) (aftL t 10) (by omega)
        dsimp only
        omega
      · simp
  exact main t.length n t (Nat.le_refl _)
theorem rdA_append : ∀ (m n : Nat) (t u : List UInt8), t.length ≤ m → (rdA n t).2 = t.length → rdA n (t ++ u) = ((rdA n t).1 ++ (rdA (n + (rdA n t).1.length) u).1, t.length + (rdA (n + (rdA n t).1.length) u).2) := by
  intro m
  induction m with
  | zero =>
    intro n t u h hf
    have : t = [] := List.eq_nil_of_length_eq_zero (by omega)
    subst this
    have e : rdA n [] = ([], 0) := by rw [rdA_eq, if_neg (by simp)]
    rw [e]
    simp
  | succ m ih =>
    intro n t u h hf
    by_cases hn : t = []
    · subst hn
      have e : rdA n [] = ([], 0) := by rw [rdA_eq, if_neg (by simp)]
      rw [e]
      simp
    · have hpos : 0 < t.length := List.length_pos_iff.2 hn
      by_cases hg : n < 60 ∧ (10 : UInt8) ∈ t ∧ goodI n (upL t 10) = true
      · have ht := up_aft hg.2.1
        have hl := congrArg List.length ht
        rw [List.length_append, List.length_cons] at hl
        have hu : upL (t ++ u) 10 = upL t 10 := by
          conv => lhs; rw [ht, List.append_assoc, List.cons_append]
          exact up_mid (up_not t 10)
        have ha : aftL (t ++ u) 10 = aftL t 10 ++ u := by
          conv => lhs; rw [ht, List.append_assoc, List.cons_append]
          exact aft_mid (up_not t 10)
        have e := rdA_eq n t
        rw [if_pos hg] at e
        rw [e] at hf
        dsimp only at hf
        have hle := rdA_le (n + 1) (aftL t 10)
        have hi := ih (n + 1) (aftL t 10) u (by omega) (by omega)
        rw [rdA_eq n (t ++ u), hu, ha, if_pos ⟨hg.1, List.mem_append_left _ hg.2.1, hg.2.2⟩, hi, e]
        dsimp only
        rw [List.length_cons, show n + 1 + (rdA (n + 1) (aftL t 10)).1.length = n + ((rdA (n + 1) (aftL t 10)).1.length + 1) by omega]
        refine Prod.ext rfl ?_
        dsimp only
        omega
      · rw [rdA_eq, if_neg hg] at hf
        dsimp only at hf
        omega
theorem rdA_take : ∀ (m n : Nat) (t : List UInt8), t.length ≤ m → rdA n (t.take (rdA n t).2) = rdA n t := by
  intro m
  induction m with
  | zero =>
    intro n t h
    have : t = [] := List.eq_nil_of_length_eq_zero (by omega)
    subst this
    simp
  | succ m ih =>
    intro n t h
    by_cases hg : n < 60 ∧ (10 : UInt8) ∈ t ∧ goodI n (upL t 10) = true
    · have ht := up_aft hg.2.1
      have hl := congrArg List.length ht
      rw [List.length_append, List.length_cons] at hl
      have e := rdA_eq n t
      rw [if_pos hg] at e
      have hi := ih (n + 1) (aftL t 10) (by omega)
      have htk : t.take (rdA n t).2 = upL t 10 ++ 10 :: (aftL t 10).take (rdA (n + 1) (aftL t 10)).2 := by
        rw [e]
        dsimp only
        conv => lhs; arg 2; rw [ht]
        rw [List.take_append, List.take_of_length_le (by omega), show (upL t 10).length + 1 + (rdA (n + 1) (aftL t 10)).2 - (upL t 10).length = (rdA (n + 1) (aftL t 10)).2 + 1 by omega, List.take_succ_cons]
      rw [htk, rdA_eq n (upL t 10 ++ _), up_mid (up_not t 10), aft_mid (up_not t 10), if_pos ⟨hg.1, by simp, hg.2.2⟩, hi, e]
    · rw [rdA_eq n t, if_neg hg]
      simp only [List.take_zero]
      rw [rdA_eq, if_neg (by simp)]
theorem ok_small (b : UInt8) (h : okB b = true) : 32 ≤ b.toNat ∧ b.toNat < 127 := by
  have := (okB_iff b).1 h
  omega
theorem line_bytes {n : Nat} {line : List UInt8} (h : goodI n line = true) : ∀ b ∈ line, 32 ≤ b.toNat ∧ b.toNat < 127 := by
  unfold goodI at h
  simp only [Bool.and_eq_true, decide_eq_true_eq] at h
  obtain ⟨hv, he⟩ := h
  have hl : line = sealL (textL n (decI n line).1 (decI n line).2) := by
    have := he
    unfold encL at this
    exact ((List.append_inj' this rfl).1).symm
  obtain ⟨_, h2, _, _, h5, _⟩ := valid_parts hv
  have hd : ∀ m : Int, 0 ≤ m → ∀ b ∈ Lib.itoa m, 32 ≤ b.toNat ∧ b.toNat < 127 := fun m hm b hb => by have := itoa_dig hm b hb; omega
  intro b hb
  rw [hl] at hb
  unfold sealL textL at hb
  simp only [List.mem_append, List.mem_singleton] at hb
  rcases hb with ((((((hb | hb) | hb) | hb) | hb) | hb) | hb)
  · exact hd _ (by omega) b hb
  · subst hb; decide
  · exact ok_small b (List.all_eq_true.1 h2 b hb)
  · subst hb; decide
  · exact ok_small b (List.all_eq_true.1 h5 b hb)
  · subst hb; decide
  · exact hd _ (sum_in _ 7 (by omega) (by omega)).1 b hb
end Go.Proofs.YtgclcjohnnpejaaDoor.PureL
end

section
set_option linter.unusedVariables false
set_option linter.unusedSimpArgs false
namespace Go.Proofs.YtgclcjohnnpejaaDoor.PureL
open Go.RowKit Go.Proofs.YtgclcjohnnpejaaDoor.Pr Go.Proofs.YtgclcjohnnpejaaDoorW.PrintWords Go.Proofs.YtgclcjohnnpejaaDoorW.PrintLast
theorem rdA_none (n : Nat) (t : List UInt8) (h : (10 : UInt8) ∉ t) : rdA n t = ([], 0) := by rw [rdA_eq, if_neg (fun h2 => h h2.2.1)]
theorem rdA_cons (n : Nat) (ln t : List UInt8) (hn : n < 60) (hg : goodI n ln = true) : rdA n (ln ++ 10 :: t) = (⟨⟨(decI n ln).1.toArray⟩, ⟨(decI n ln).2.toArray⟩⟩ :: (rdA (n + 1) t).1, ln.length + 1 + (rdA (n + 1) t).2) := by
  have hno : (10 : UInt8) ∉ ln := fun hm => by have := line_bytes hg 10 hm; simp at this
  rw [rdA_eq, up_mid hno, aft_mid hno, if_pos ⟨hn, by simp, hg⟩]
def Left (u v : List UInt8) : Prop := v = u ∨ ∃ x y w, u = w ++ [x] ∧ v = w ++ [y] ∧ y.toNat = 255 - x.toNat
theorem left_none {u v : List UInt8} (h : Left u v) (hb : ∀ b ∈ u, 32 ≤ b.toNat ∧ b.toNat < 127) : (10 : UInt8) ∉ v := by
  intro hm
  rcases h with rfl | ⟨x, y, w, rfl, rfl, hy⟩
  · have := hb 10 hm; simp at this
  · rcases List.mem_append.1 hm with h | h
    · have := hb 10 (List.mem_append_left _ h); simp at this
    · have e := List.mem_singleton.1 h
      subst e
      have := hb x (by simp)
      have h10 : (10 : UInt8).toNat = 10 := rfl
      omega
theorem rdA_left : ∀ (m n : Nat) (P u v : List UInt8), P.length ≤ m → (rdA n P).2 = P.length → u <+: P → Left u v → (rdA n v).1 <+: (rdA n P).1 := by
  intro m
  induction m with
  | zero =>
    intro n P u v h hf hu hl
    have : P = [] := List.eq_nil_of_length_eq_zero (by omega)
    subst this
    have hu2 := List.prefix_nil.1 hu
    subst hu2
    rcases hl with rfl | ⟨x, y, w, hx, _, _⟩
    · exact List.prefix_refl _
    · exact absurd hx (by simp)
  | succ m ih =>
    intro n P u v h hf hu hl
    by_cases hP : P = []
    · subst hP
      have hu2 := List.prefix_nil.1 hu
      subst hu2
      rcases hl with rfl | ⟨x, y, w, hx, _, _⟩
      · exact List.prefix_refl _
      · exact absurd hx (by simp)
    · have hpos : 0 < P.length := List.length_pos_iff.2 hP
      by_cases hg : n < 60 ∧ (10 : UInt8) ∈ P ∧ goodI n (upL P 10) = true
      · have ht := up_aft hg.2.1
        generalize upL P 10 = ln at ht hg
        generalize aftL P 10 = P' at ht
        subst ht
        have e := rdA_cons n ln P' hg.1 hg.2.2
        rw [e] at hf ⊢
        rw [List.length_append, List.length_cons] at hf h
        dsimp only at hf
        have hlb := line_bytes hg.2.2
        by_cases hlen : u.length ≤ ln.length
        · have hul : u <+: ln := List.prefix_of_prefix_length_le hu (List.prefix_append _ _) hlen
          rw [rdA_none n v (left_none hl (fun b hb => hlb b (hul.subset hb)))]
          exact List.nil_prefix
        · obtain ⟨u', rfl, hu'⟩ : ∃ u', u = ln ++ 10 :: u' ∧ u' <+: P' := by
            obtain ⟨z, hz⟩ := hu
            have h1 : ln <+: u := List.prefix_of_prefix_length_le (List.prefix_append _ _) ⟨z, hz⟩ (by omega)
            obtain ⟨q, rfl⟩ := h1
            rw [List.append_assoc] at hz
            have hz2 := List.append_cancel_left hz
            cases q with
            | nil => simp at hlen
            | cons b q =>
              rw [List.cons_append] at hz2
              injection hz2 with hb hq
              subst hb
              exact ⟨q, rfl, ⟨z, hq⟩⟩
          rcases hl with rfl | ⟨x, y, w, hx, rfl, hy⟩
          · rw [rdA_cons n ln u' hg.1 hg.2.2]
            dsimp only
            rw [List.prefix_cons_inj]
            exact ih (n + 1) P' u' u' (by omega) (by omega) hu' (.inl rfl)
          · rcases List.eq_nil_or_concat u' with rfl | ⟨q, x', rfl⟩
            · have := List.append_inj' hx rfl
              obtain ⟨e1, e2⟩ := this
              injection e2 with e2 _
              subst e1
              subst e2
              rw [rdA_none]
              · exact List.nil_prefix
              · intro hm
                rcases List.mem_append.1 hm with h | h
                · have := hlb 10 h; simp at this
                · have e := List.mem_singleton.1 h
                  subst e
                  have h10 : (10 : UInt8).toNat = 10 := rfl
                  omega
            · rw [List.concat_eq_append] at hx hu'
              have hx2 : (ln ++ 10 :: q) ++ [x'] = w ++ [x] := by rw [← hx]; simp
              obtain ⟨e1, e2⟩ := List.append_inj' hx2 rfl
              injection e2 with e2 _
              subst e1
              subst e2
              rw [show (ln ++ 10 :: q) ++ [y] = ln ++ 10 :: (q ++ [y]) by simp, rdA_cons n ln (q ++ [y]) hg.1 hg.2.2]
              dsimp only
              rw [List.prefix_cons_inj]
              exact ih (n + 1) P' (q ++ [x']) (q ++ [y]) (by omega) (by omega) hu' (.inr ⟨x', y, q, rfl, rfl, hy⟩)
      · rw [rdA_eq, if_neg hg] at hf
        dsimp only at hf
        omega
end Go.Proofs.YtgclcjohnnpejaaDoor.PureL
end

section
namespace Go.Proofs.YtgclcjohnnpejaaDoor.Pr
open Go.RowKit Go.Proofs.YtgclcjohnnpejaaDoorW.PrintWords Go.Proofs.YtgclcjohnnpejaaDoorW.PrintLast Go.Proofs.YtgclcjohnnpejaaDoorW.PrintMore
attribute [local go_sem] max2_int min2_int max_two min_two max_three min_three max_four min_four
set_option linter.unusedVariables false
set_option linter.unusedSimpArgs false
theorem z21_0 {P : Prop} (h : P := by repeat (first | (with_reducible first | exact HB.out | apply below_alloc | apply pw_below_drewN | apply below_drew1 | refine below_set ?_ GE299.out | refine below_set ?_ GE300.out | refine below_set ?_ GE301.out) | exact HB.out)) : P := h
theorem z21_1 {P : Prop} (h : P := by (with_reducible repeat (first | refine blk_drewN ?_ _ | refine blk_drew ?_ | refine blk_alloc ?_ _)); exact BK299.out) : P := h
theorem z21_2 {P : Prop} (h : P := by repeat (first | (with_reducible first | exact HB.out | apply below_alloc | apply pw_below_drewN | apply below_drew1 | refine below_set ?_ GE331.out) | exact HB.out)) : P := h
theorem z21_3 {P : Prop} (h : P := by repeat (first | (with_reducible first | exact HB.out | apply below_alloc | apply pw_below_drewN | apply below_drew1) | exact HB.out)) : P := h
theorem z21_4 {P : Prop} (h : P := by (with_reducible repeat (first | refine blk_drewN ?_ _ | refine blk_drew ?_ | refine blk_alloc ?_ _)); exact BK300.out) : P := h
theorem z21_5 {P : Prop} (h : P := by (with_reducible repeat (first | refine blk_drewN ?_ _ | refine blk_drew ?_ | refine blk_alloc ?_ _)); refine blk_put (cs := #[.string a0_0, .string a0_1, .int .i64 0]) ?_ 2 _ rfl; (with_reducible repeat (first | refine blk_drewN ?_ _ | refine blk_drew ?_ | refine blk_alloc ?_ _)); refine blk_put (cs := #[.string a0_0, .string (⟨#[]⟩ : ByteArray), .int .i64 0]) ?_ 1 _ rfl; (with_reducible repeat (first | refine blk_drewN ?_ _ | refine blk_drew ?_ | refine blk_alloc ?_ _)); refine blk_put (cs := #[.string (⟨#[]⟩ : ByteArray), .string (⟨#[]⟩ : ByteArray), .int .i64 0]) ?_ 0 _ rfl; (with_reducible repeat (first | refine blk_drewN ?_ _ | refine blk_drew ?_ | refine blk_alloc ?_ _)); exact BK301.out) : P := h
theorem z21_6 {P : Prop} (h : P := by (try simp only [List.map_toArray, List.map_cons, List.map_nil]); first | done | rfl | (simp only [List.length_drop, List.length_take]; rfl)) : P := h
theorem z21_7 {P : Prop} (h : P := by (with_reducible repeat (first | refine blk_drewN ?_ _ | refine blk_drew ?_ | refine blk_alloc ?_ _)); exact BK301.out) : P := h
theorem z21_8 {P : Prop} (h : P := by repeat (first | (with_reducible first | exact HB.out | apply below_alloc | apply pw_below_drewN | apply below_drew1 | refine below_set ?_ GE299.out | refine below_set ?_ GE300.out) | exact HB.out)) : P := h
theorem z21_9 {P : Prop} (h : P := by first | rfl | (simp [errW_none, errW_some] <;> rfl) | (simp [*, errW_none, errW_some] <;> rfl)) : P := h
theorem z21_10 {P : Prop} (h : P := by (with_reducible repeat (first | refine blk_drewN ?_ _ | refine blk_drew ?_ | refine blk_alloc ?_ _)); exact BK331.out) : P := h
theorem z21_11 {P : Prop} (h : P := by repeat (first | (with_reducible first | exact HB.out | apply below_alloc | apply pw_below_drewN | apply below_drew1 | refine below_set ?_ GE299.out) | exact HB.out)) : P := h
def impl_AppendRecord.j0 : Nat → Bool → ByteArray → ByteArray → Int → ByteArray → ByteArray → Option (ByteArray × ByteArray × Int × Int)
  | 0, _, _, _, _, _, _ => none
  | k + 1, x8, x300000, x300001, x300002, x301000, x301001 => if x8 = true then (some (x300000, x300001, x300002, 1)) else (if x300002 = 60 then (some (x300000, x300001, x300002, 2)) else ((impl_EncodeRecord.f k x300002 x301000 x301001).bind fun bt304 => (if x300001.size + bt304.1.size ≤ 9223372036854775807 then (some (x300000, x300001 ++ bt304.1, wrap64 (x300002 + 1), 0)) else (none))))
def impl_AppendRecord.f (k : Nat) (a0_0 : ByteArray) (a0_1 : ByteArray) (a0_2 : Int) (a1_0 : ByteArray) (a1_1 : ByteArray) : Option (ByteArray × ByteArray × Int × Int) := (impl_IsValidLog.f k a0_0 a0_1 a0_2).bind fun t302 => (if t302 = true then ((impl_IsValidRecord.f k a1_0 a1_1).bind fun t303 => (impl_AppendRecord.j0 k (!t303) a0_0 a0_1 a0_2 a1_0 a1_1)) else (impl_AppendRecord.j0 k true a0_0 a0_1 a0_2 a1_0 a1_1))
theorem impl_AppendRecord.mono_l : ∀ k, (∀ y0 y1 y2 y3 y4 y5, LeO (impl_AppendRecord.j0 k y0 y1 y2 y3 y4 y5) (impl_AppendRecord.j0 (k + 1) y0 y1 y2 y3 y4 y5))
  | 0 => fun _ _ _ _ _ _ r h => by simp [impl_AppendRecord.j0] at h
  | k + 1 => by
    have ih0 := impl_AppendRecord.mono_l k
    · intro y0 y1 y2 y3 y4 y5
      unfold impl_AppendRecord.j0
      repeat' first
      | (with_reducible exact ih0 _ _ _ _ _ _)
      | (with_reducible exact impl_EncodeRecord.mono _ _ _ _)
      | (with_reducible exact impl_IsValidLog.mono _ _ _ _)
      | (with_reducible exact impl_IsValidRecord.mono _ _ _)
      | (with_reducible exact LeO.refl _)
      | (with_reducible exact LeO.none _)
      | (with_reducible refine LeO.ite ?_ ?_)
      | (with_reducible refine LeO.bind ?_ (fun _ => ?_))
      | exact ih0 _ _ _ _ _ _
      | exact impl_EncodeRecord.mono _ _ _ _
      | exact impl_IsValidLog.mono _ _ _ _
      | exact impl_IsValidRecord.mono _ _ _
      | exact LeO.none _
      | refine LeO.ite ?_ ?_
      | refine LeO.bind ?_ (fun _ => ?_)
theorem impl_AppendRecord.mono : ∀ a0 a1 a2 a3 a4 k, LeO (impl_AppendRecord.f k a0 a1 a2 a3 a4) (impl_AppendRecord.f (k + 1) a0 a1 a2 a3 a4) := by
  intro a0 a1 a2 a3 a4 k
  have ih0 := impl_AppendRecord.mono_l k
  unfold impl_AppendRecord.f
  repeat' first
      | (with_reducible exact ih0 _ _ _ _ _ _)
      | (with_reducible exact impl_EncodeRecord.mono _ _ _ _)
      | (with_reducible exact impl_IsValidLog.mono _ _ _ _)
      | (with_reducible exact impl_IsValidRecord.mono _ _ _)
      | (with_reducible exact LeO.refl _)
      | (with_reducible exact LeO.none _)
      | (with_reducible refine LeO.ite ?_ ?_)
      | (with_reducible refine LeO.bind ?_ (fun _ => ?_))
      | exact ih0 _ _ _ _ _ _
      | exact impl_EncodeRecord.mono _ _ _ _
      | exact impl_IsValidLog.mono _ _ _ _
      | exact impl_IsValidRecord.mono _ _ _
      | exact LeO.none _
      | refine LeO.ite ?_ ?_
      | refine LeO.bind ?_ (fun _ => ?_)
set_option maxHeartbeats 8000000 in
set_option maxRecDepth 100000 in
theorem impl_AppendRecord.calls (k : Nat) (a0_0 : ByteArray) (a0_1 : ByteArray) (a0_2 : Int) (a1_0 : ByteArray) (a1_1 : ByteArray) (r1 : ByteArray) (r2 : ByteArray) (r3 : Int) (r4 : Int) (w : World) (hgl : Glob w) (h : impl_AppendRecord.f k a0_0 a0_1 a0_2 a1_0 a1_1 = some (r1, r2, r3, r4)) :
    Calls Tryd.prog 39 #[.agg #[.string a0_0, .string a0_1, .int .i64 a0_2], .agg #[.string a1_0, .string a1_1]] w fun e w' => e = .returned (.tuple #[.agg #[.string r1, .string r2, .int .i64 r3], .int .i64 r4]) ∧ Below w.heap.size w w' := by
  have hu42 := Tryd.underlying42
  have hu38 := Tryd.underlying38
  have HB := Aside0.mk (Below.refl w.heap.size w)
  have HGL := Aside0.mk hgl
  clear hgl
  have H : ((impl_IsValidLog.f k a0_0 a0_1 a0_2).bind fun t302 => (if t302 = true then ((impl_IsValidRecord.f k a1_0 a1_1).bind fun t303 => (impl_AppendRecord.j0 k (!t303) a0_0 a0_1 a0_2 a1_0 a1_1)) else (impl_AppendRecord.j0 k true a0_0 a0_1 a0_2 a1_0 a1_1))) = some (r1, r2, r3, r4) := h
  clear h
  have HC3 := Aside0.mk H
  clear H
  go_enter Tryd.func39, Tryd.ntmps39
  go_upto_region 1 with (first | ((with_reducible refine gate_dst (N := 2) rfl ?_); refine box_event ?hg (N := 2) ?hd (cs := #[.string a0_0, .string a0_1, .int .i64 a0_2]) (t := 42) ?hr ?_; (case hd => rfl); (case hg => rfl); (case hr => first | (go_simp; done) | (go_simp; rfl)); intro gb299 hg w4 hbox hb; have n0_ := Aside0.mk (below_step z21_3 hb); have n1_ := Aside0.mk (hbox); have n2_ := Aside0.mk ((by rw [hg]; exact (below_size z21_3) : w.heap.size ≤ gb299)); have n3_ := Aside0.mk ((by rw [hg]; exact (below_size z21_3) : w.heap.size ≤ gb299)); clear HB; have HB := n0_; have BK299 := n1_; have GW299 := n2_; have GE299 := n3_; clear n0_ n1_ n2_ n3_; clear hb hbox hg) | ((with_reducible refine gate_dst (N := 3) rfl ?_); refine box_event ?hg (N := 3) ?hd (cs := #[.string a1_0, .string a1_1]) (t := 38) ?hr ?_; (case hd => rfl); (case hg => rfl); (case hr => first | (go_simp; done) | (go_simp; rfl)); intro gb300 hg w5 hbox hb; have n0_ := Aside0.mk (blk_below (g := gb299) (o := .cells #[.string a0_0, .string a0_1, .int .i64 a0_2] 42 (0, 0)) z21_1 hb); have n1_ := Aside0.mk (below_step z21_11 hb); have n2_ := Aside0.mk (hbox); have n3_ := Aside0.mk ((by rw [hg]; exact (below_size z21_11) : w.heap.size ≤ gb300)); have n4_ := Aside0.mk ((by rw [hg]; exact (below_size z21_11) : w.heap.size ≤ gb300)); have n5_ := Aside0.mk ((by rw [hg]; exact Nat.ne_of_lt (blk_lt (g := gb299) (o := .cells #[.string a0_0, .string a0_1, .int .i64 a0_2] 42 (0, 0)) z21_1) : gb299 ≠ gb300)); have n6_ := Aside0.mk ((by rw [hg]; exact Nat.ne_of_gt (blk_lt (g := gb299) (o := .cells #[.string a0_0, .string a0_1, .int .i64 a0_2] 42 (0, 0)) z21_1) : gb300 ≠ gb299)); clear BK299; clear HB; have BK299 := n0_; have HB := n1_; have BK300 := n2_; have GW300 := n3_; have GE300 := n4_; have NB299_300 := n5_; have NB300_299 := n6_; clear n0_ n1_ n2_ n3_ n4_ n5_ n6_; clear hb hbox hg) | ((with_reducible refine gate_dst (N := 4) rfl ?_); refine box_event ?hg (N := 4) ?hd (cs := #[.string (⟨#[]⟩ : ByteArray), .string (⟨#[]⟩ : ByteArray), .int .i64 0]) (t := 42) ?hr ?_; (case hd => rfl); (case hg => rfl); (case hr => first | (go_simp; done) | (go_simp; rfl)); intro gb301 hg w6 hbox hb; have n0_ := Aside0.mk (blk_below (g := gb299) (o := .cells #[.string a0_0, .string a0_1, .int .i64 a0_2] 42 (0, 0)) z21_1 hb); have n1_ := Aside0.mk (blk_below (g := gb300) (o := .cells #[.string a1_0, .string a1_1] 38 (0, 0)) z21_4 hb); have n2_ := Aside0.mk (below_step z21_8 hb); have n3_ := Aside0.mk (hbox); have n4_ := Aside0.mk ((by rw [hg]; exact (below_size z21_8) : w.heap.size ≤ gb301)); have n5_ := Aside0.mk ((by rw [hg]; exact (below_size z21_8) : w.heap.size ≤ gb301)); have n6_ := Aside0.mk ((by rw [hg]; exact Nat.ne_of_lt (blk_lt (g := gb299) (o := .cells #[.string a0_0, .string a0_1, .int .i64 a0_2] 42 (0, 0)) z21_1) : gb299 ≠ gb301)); have n7_ := Aside0.mk ((by rw [hg]; exact Nat.ne_of_gt (blk_lt (g := gb299) (o := .cells #[.string a0_0, .string a0_1, .int .i64 a0_2] 42 (0, 0)) z21_1) : gb301 ≠ gb299)); have n8_ := Aside0.mk ((by rw [hg]; exact Nat.ne_of_lt (blk_lt (g := gb300) (o := .cells #[.string a1_0, .string a1_1] 38 (0, 0)) z21_4) : gb300 ≠ gb301)); have n9_ := Aside0.mk ((by rw [hg]; exact Nat.ne_of_gt (blk_lt (g := gb300) (o := .cells #[.string a1_0, .string a1_1] 38 (0, 0)) z21_4) : gb301 ≠ gb300)); clear BK299; clear BK300; clear HB; have BK299 := n0_; have BK300 := n1_; have HB := n2_; have BK301 := n3_; have GW301 := n4_; have GE301 := n5_; have NB299_301 := n6_; have NB301_299 := n7_; have NB300_301 := n8_; have NB301_300 := n9_; clear n0_ n1_ n2_ n3_ n4_ n5_ n6_ n7_ n8_ n9_; clear hb hbox hg))
  (try simp only [Act.put, List.setIfInBounds_toArray, List.set_cons_zero, List.set_cons_succ])
  go_cut [8] (fun v8 wc => ∃ (kq : Nat) (x8_2 : Bool), v8 = .bool x8_2 ∧ Aside0 (impl_AppendRecord.j0 kq x8_2 a0_0 a0_1 a0_2 a1_0 a1_1 = some (r1, r2, r3, r4)) ∧ Aside0 (kq ≤ k) ∧ Aside0 (wc.heap[gb299]? = some (.cells #[.string a0_0, .string a0_1, .int .i64 a0_2] 42 (0, 0))) ∧ Aside0 (wc.heap[gb300]? = some (.cells #[.string a1_0, .string a1_1] 38 (0, 0))) ∧ Aside0 (wc.heap[gb301]? = some (.cells #[.string (⟨#[]⟩ : ByteArray), .string (⟨#[]⟩ : ByteArray), .int .i64 0] 42 (0, 0))) ∧ Aside0 (Below w.heap.size w wc))
  case first =>
    have H := HC3.out
    clear HC3
    replace H := Option.bind_eq_some_iff.mp H
    obtain ⟨t302, A70, H⟩ := H
    replace H : (if t302 = true then ((impl_IsValidRecord.f k a1_0 a1_1).bind fun t303 => (impl_AppendRecord.j0 k (!t303) a0_0 a0_1 a0_2 a1_0 a1_1)) else (impl_AppendRecord.j0 k true a0_0 a0_1 a0_2 a1_0 a1_1)) = some (r1, r2, r3, r4) := H
    have A7 := Aside0.mk A70
    clear A70
    by_cases c8 : t302 = true
    · subst c8
      have H1 : ((impl_IsValidRecord.f k a1_0 a1_1).bind fun t303 => (impl_AppendRecord.j0 k (!t303) a0_0 a0_1 a0_2 a1_0 a1_1)) = some (r1, r2, r3, r4) := by rw [if_pos rfl] at H; exact H
      clear H
      have H := H1
      clear H1
      replace H := Option.bind_eq_some_iff.mp H
      obtain ⟨t303, A90, H⟩ := H
      replace H : (impl_AppendRecord.j0 k (!t303) a0_0 a0_1 a0_2 a1_0 a1_1) = some (r1, r2, r3, r4) := H
      have A9 := Aside0.mk A90
      clear A90
      have H' := Aside0.mk H
      clear H
      have hnb10 := NB299_300.out
      have hnc10 := NB300_299.out
      have hnb11 := NB299_301.out
      have hnc11 := NB301_299.out
      have hcz12_0 : w6.cell? ⟨gb299, 0, none⟩ = some (.string a0_0) := (blk_cell BK299.out 0).trans rfl
      have hcz12_1 : w6.cell? ⟨gb299, 1, none⟩ = some (.string a0_1) := (blk_cell BK299.out 1).trans rfl
      have hcz12_2 : w6.cell? ⟨gb299, 2, none⟩ = some (.int .i64 a0_2) := (blk_cell BK299.out 2).trans rfl
      have hfz12_0 := blk_frozen BK299.out 0
      have hfz12_1 := blk_frozen BK299.out 1
      have hfz12_2 := blk_frozen BK299.out 2
      go_wp2_with (first | ((with_reducible refine gate_callee (f := 33) rfl ?_); refine goesL_ (some 10) rfl rfl Tryd.func33 (by kernel_rfl) rfl #[.agg #[.string a0_0, .string a0_1, .int .i64 a0_2]] rfl z21_6 ?_; (with_reducible refine (impl_IsValidLog.calls k a0_0 a0_1 a0_2 true _ ?side1 A7.out).mono ?_); (case side1 => exact Glob.below HGL.out z21_0); rintro e w13 ⟨rfl, hb⟩; refine ⟨_, rfl, ?_⟩; have n0_ := Aside0.mk (blk_below (g := gb299) (o := .cells #[.string a0_0, .string a0_1, .int .i64 a0_2] 42 (0, 0)) z21_1 hb); have n1_ := Aside0.mk (blk_below (g := gb300) (o := .cells #[.string a1_0, .string a1_1] 38 (0, 0)) z21_4 hb); have n2_ := Aside0.mk (blk_below (g := gb301) (o := .cells #[.string (⟨#[]⟩ : ByteArray), .string (⟨#[]⟩ : ByteArray), .int .i64 0] 42 (0, 0)) z21_7 hb); have n3_ := Aside0.mk (below_step z21_0 hb); clear BK299; clear BK300; clear BK301; clear HB; have BK299 := n0_; have BK300 := n1_; have BK301 := n2_; have HB := n3_; clear n0_ n1_ n2_ n3_; (try clear hb); (try clear hb2); (try clear hk); (try clear hi); have hnb14 := NB300_301.out; have hnc14 := NB301_300.out; have hcz15_0 : w13.cell? ⟨gb300, 0, none⟩ = some (.string a1_0) := (blk_cell BK300.out 0).trans rfl; have hcz15_1 : w13.cell? ⟨gb300, 1, none⟩ = some (.string a1_1) := (blk_cell BK300.out 1).trans rfl; have hfz15_0 := blk_frozen BK300.out 0; have hfz15_1 := blk_frozen BK300.out 1) | (go_at_call 50; (with_reducible refine (impl_IsValidRecord.calls k a1_0 a1_1 t303 _ A9.out).mono ?_); rintro e w16 ⟨rfl, hb⟩; have n0_ := Aside0.mk (blk_below (g := gb299) (o := .cells #[.string a0_0, .string a0_1, .int .i64 a0_2] 42 (0, 0)) z21_1 hb); have n1_ := Aside0.mk (blk_below (g := gb300) (o := .cells #[.string a1_0, .string a1_1] 38 (0, 0)) z21_4 hb); have n2_ := Aside0.mk (blk_below (g := gb301) (o := .cells #[.string (⟨#[]⟩ : ByteArray), .string (⟨#[]⟩ : ByteArray), .int .i64 0] 42 (0, 0)) z21_7 hb); have n3_ := Aside0.mk (below_step z21_0 hb); clear BK299; clear BK300; clear BK301; clear HB; have BK299 := n0_; have BK300 := n1_; have BK301 := n2_; have HB := n3_; clear n0_ n1_ n2_ n3_; (try clear hb); (try clear hb2); (try clear hk); (try clear hi)))
      go_meet
      case rel => exact ⟨_, (!t303), (by first | rfl | (simp; done) | (simp [*]; done)), H', ⟨by first | omega | exact Nat.le_refl _⟩, ⟨z21_1⟩, ⟨z21_4⟩, ⟨z21_7⟩, ⟨z21_0⟩⟩
    · replace c8 := Bool.eq_false_iff.mpr c8
      subst c8
      have H1 : (impl_AppendRecord.j0 k true a0_0 a0_1 a0_2 a1_0 a1_1) = some (r1, r2, r3, r4) := by rw [if_neg (show ¬ (false = true) by decide)] at H; exact H
      clear H
      have H := H1
      clear H1
      have H' := Aside0.mk H
      clear H
      have hnb17 := NB299_300.out
      have hnc17 := NB300_299.out
      have hnb18 := NB299_301.out
      have hnc18 := NB301_299.out
      have hcz19_0 : w6.cell? ⟨gb299, 0, none⟩ = some (.string a0_0) := (blk_cell BK299.out 0).trans rfl
      have hcz19_1 : w6.cell? ⟨gb299, 1, none⟩ = some (.string a0_1) := (blk_cell BK299.out 1).trans rfl
      have hcz19_2 : w6.cell? ⟨gb299, 2, none⟩ = some (.int .i64 a0_2) := (blk_cell BK299.out 2).trans rfl
      have hfz19_0 := blk_frozen BK299.out 0
      have hfz19_1 := blk_frozen BK299.out 1
      have hfz19_2 := blk_frozen BK299.out 2
      go_wp2_with (first | ((with_reducible refine gate_callee (f := 33) rfl ?_); refine goesL_ (some 10) rfl rfl Tryd.func33 (by kernel_rfl) rfl #[.agg #[.string a0_0, .string a0_1, .int .i64 a0_2]] rfl z21_6 ?_; (with_reducible refine (impl_IsValidLog.calls k a0_0 a0_1 a0_2 false _ ?side1 A7.out).mono ?_); (case side1 => exact Glob.below HGL.out z21_0); rintro e w20 ⟨rfl, hb⟩; refine ⟨_, rfl, ?_⟩; have n0_ := Aside0.mk (blk_below (g := gb299) (o := .cells #[.string a0_0, .string a0_1, .int .i64 a0_2] 42 (0, 0)) z21_1 hb); have n1_ := Aside0.mk (blk_below (g := gb300) (o := .cells #[.string a1_0, .string a1_1] 38 (0, 0)) z21_4 hb); have n2_ := Aside0.mk (blk_below (g := gb301) (o := .cells #[.string (⟨#[]⟩ : ByteArray), .string (⟨#[]⟩ : ByteArray), .int .i64 0] 42 (0, 0)) z21_7 hb); have n3_ := Aside0.mk (below_step z21_0 hb); clear BK299; clear BK300; clear BK301; clear HB; have BK299 := n0_; have BK300 := n1_; have BK301 := n2_; have HB := n3_; clear n0_ n1_ n2_ n3_; (try clear hb); (try clear hb2); (try clear hk); (try clear hi)))
      go_meet
      case rel => exact ⟨_, (true), (by first | rfl | (simp; done) | (simp [*]; done)), H', ⟨by first | omega | exact Nat.le_refl _⟩, ⟨z21_1⟩, ⟨z21_4⟩, ⟨z21_7⟩, ⟨z21_0⟩⟩
  case rest =>
    clear HC3
    try clear c1
    try clear p2
    try clear c3
    try clear c8
    try clear c10
    try clear c11
    try clear c14
    try clear c17
    try clear c18
    try clear hcz12_0
    try clear hcz12_1
    try clear hcz12_2
    try clear hcz15_0
    try clear hcz15_1
    try clear hcz19_0
    try clear hcz19_1
    try clear hcz19_2
    try clear hfz12_0
    try clear hfz12_1
    try clear hfz12_2
    try clear hfz15_0
    try clear hfz15_1
    try clear hfz19_0
    try clear hfz19_1
    try clear hfz19_2
    obtain ⟨kq, x8_2, rfl, HA, HJ2, BK299, BK300, BK301, HB⟩ := hcut
    cases kq with
    | zero => exact absurd HA.out (by simp [impl_AppendRecord.j0])
    | succ kj2 =>
      have H := HA.out
      clear HA
      simp only [impl_AppendRecord.j0] at H
      by_cases c21 : x8_2 = true
      · subst c21
        have H1 : (some (a0_0, a0_1, a0_2, 1)) = some (r1, r2, r3, r4) := by rw [if_pos rfl] at H; exact H
        clear H
        have H := H1
        clear H1
        simp only [Option.some.injEq, Prod.mk.injEq] at H
        obtain ⟨rfl, rfl, rfl, rfl⟩ := H
        have hnb22 := NB299_300.out
        have hnc22 := NB300_299.out
        have hnb23 := NB299_301.out
        have hnc23 := NB301_299.out
        have hcz24_0 : wc.cell? ⟨gb299, 0, none⟩ = some (.string a0_0) := (blk_cell BK299.out 0).trans rfl
        have hcz24_1 : wc.cell? ⟨gb299, 1, none⟩ = some (.string a0_1) := (blk_cell BK299.out 1).trans rfl
        have hcz24_2 : wc.cell? ⟨gb299, 2, none⟩ = some (.int .i64 a0_2) := (blk_cell BK299.out 2).trans rfl
        have hfz24_0 := blk_frozen BK299.out 0
        have hfz24_1 := blk_frozen BK299.out 1
        have hfz24_2 := blk_frozen BK299.out 2
        have hnb25 := NB301_300.out
        have hnc25 := NB300_301.out
        have hcz26_0 : wc.cell? ⟨gb301, 0, none⟩ = some (.string (⟨#[]⟩ : ByteArray)) := (blk_cell BK301.out 0).trans rfl
        have hcz26_1 : wc.cell? ⟨gb301, 1, none⟩ = some (.string (⟨#[]⟩ : ByteArray)) := (blk_cell BK301.out 1).trans rfl
        have hcz26_2 : wc.cell? ⟨gb301, 2, none⟩ = some (.int .i64 0) := (blk_cell BK301.out 2).trans rfl
        have hfz26_0 := blk_frozen BK301.out 0
        have hfz26_1 := blk_frozen BK301.out 1
        have hfz26_2 := blk_frozen BK301.out 2
        go_wp2
        refine bodyPost_ret (results_ct rfl _ _ gb301 42 #[.string a0_0, .string a0_1, .int .i64 a0_2] (0, 0) _ rfl z21_5 Tryd.underlying42 rfl (by kernel_rfl)) rfl ?_
        exact ⟨z21_9, z21_0⟩
      · replace c21 := Bool.eq_false_iff.mpr c21
        subst c21
        have H1 : (if a0_2 = 60 then (some (a0_0, a0_1, a0_2, 2)) else ((impl_EncodeRecord.f kj2 a0_2 a1_0 a1_1).bind fun bt304 => (if a0_1.size + bt304.1.size ≤ 9223372036854775807 then (some (a0_0, a0_1 ++ bt304.1, wrap64 (a0_2 + 1), 0)) else (none)))) = some (r1, r2, r3, r4) := by rw [if_neg (show ¬ (false = true) by decide)] at H; exact H
        clear H
        have H := H1
        clear H1
        by_cases c27 : a0_2 = 60
        · rw [if_pos c27] at H
          have c27b0 : (a0_2 == 60) = true := beq_iff_eq.mpr c27
          have c27b1 : (a0_2 != 60) = false := bne_eq_false_iff_eq.mpr c27
          clear c27
          simp only [Option.some.injEq, Prod.mk.injEq] at H
          obtain ⟨rfl, rfl, rfl, rfl⟩ := H
          have hnb28 := NB299_300.out
          have hnc28 := NB300_299.out
          have hnb29 := NB299_301.out
          have hnc29 := NB301_299.out
          have hcz30_0 : wc.cell? ⟨gb299, 0, none⟩ = some (.string a0_0) := (blk_cell BK299.out 0).trans rfl
          have hcz30_1 : wc.cell? ⟨gb299, 1, none⟩ = some (.string a0_1) := (blk_cell BK299.out 1).trans rfl
          have hcz30_2 : wc.cell? ⟨gb299, 2, none⟩ = some (.int .i64 a0_2) := (blk_cell BK299.out 2).trans rfl
          have hfz30_0 := blk_frozen BK299.out 0
          have hfz30_1 := blk_frozen BK299.out 1
          have hfz30_2 := blk_frozen BK299.out 2
          have hnb31 := NB301_300.out
          have hnc31 := NB300_301.out
          have hcz32_0 : wc.cell? ⟨gb301, 0, none⟩ = some (.string (⟨#[]⟩ : ByteArray)) := (blk_cell BK301.out 0).trans rfl
          have hcz32_1 : wc.cell? ⟨gb301, 1, none⟩ = some (.string (⟨#[]⟩ : ByteArray)) := (blk_cell BK301.out 1).trans rfl
          have hcz32_2 : wc.cell? ⟨gb301, 2, none⟩ = some (.int .i64 0) := (blk_cell BK301.out 2).trans rfl
          have hfz32_0 := blk_frozen BK301.out 0
          have hfz32_1 := blk_frozen BK301.out 1
          have hfz32_2 := blk_frozen BK301.out 2
          go_wp2
          refine bodyPost_ret (results_ct rfl _ _ gb301 42 #[.string a0_0, .string a0_1, .int .i64 a0_2] (0, 0) _ rfl z21_5 Tryd.underlying42 rfl (by kernel_rfl)) rfl ?_
          exact ⟨z21_9, z21_0⟩
        · rw [if_neg c27] at H
          have c27b0 : (a0_2 == 60) = false := beq_eq_false_iff_ne.mpr c27
          have c27b1 : (a0_2 != 60) = true := bne_iff_ne.mpr c27
          replace H := Option.bind_eq_some_iff.mp H
          obtain ⟨⟨t304, t305⟩, A330, H⟩ := H
          replace H : (if a0_1.size + t304.size ≤ 9223372036854775807 then (some (a0_0, a0_1 ++ t304, wrap64 (a0_2 + 1), 0)) else (none)) = some (r1, r2, r3, r4) := H
          have A33 := Aside0.mk A330
          clear A330
          by_cases c34 : a0_1.size + t304.size ≤ 9223372036854775807
          · rw [if_pos c34] at H
            have c34b0 := eq_true c34
            have c34b1 : decide (a0_1.size + t304.size ≤ 9223372036854775807) = true := decide_eq_true c34
            try have c34b2 : (9223372036854775807 < a0_1.size + t304.size) = False := eq_false (Nat.not_lt.2 c34)
            simp only [Option.some.injEq, Prod.mk.injEq] at H
            obtain ⟨rfl, rfl, rfl, rfl⟩ := H
            have hnb35 := NB299_300.out
            have hnc35 := NB300_299.out
            have hnb36 := NB299_301.out
            have hnc36 := NB301_299.out
            have hcz37_0 : wc.cell? ⟨gb299, 0, none⟩ = some (.string a0_0) := (blk_cell BK299.out 0).trans rfl
            have hcz37_1 : wc.cell? ⟨gb299, 1, none⟩ = some (.string a0_1) := (blk_cell BK299.out 1).trans rfl
            have hcz37_2 : wc.cell? ⟨gb299, 2, none⟩ = some (.int .i64 a0_2) := (blk_cell BK299.out 2).trans rfl
            have hfz37_0 := blk_frozen BK299.out 0
            have hfz37_1 := blk_frozen BK299.out 1
            have hfz37_2 := blk_frozen BK299.out 2
            have hnb38 := NB300_301.out
            have hnc38 := NB301_300.out
            have hcz39_0 : wc.cell? ⟨gb300, 0, none⟩ = some (.string a1_0) := (blk_cell BK300.out 0).trans rfl
            have hcz39_1 : wc.cell? ⟨gb300, 1, none⟩ = some (.string a1_1) := (blk_cell BK300.out 1).trans rfl
            have hfz39_0 := blk_frozen BK300.out 0
            have hfz39_1 := blk_frozen BK300.out 1
            go_wp2_with (first | ((with_reducible refine gate_callee (f := 26) rfl ?_); refine goesL_ (some 27) rfl rfl Tryd.func26 (by kernel_rfl) rfl #[.int .i64 a0_2, .agg #[.string a1_0, .string a1_1]] rfl z21_6 ?_; (with_reducible refine (impl_EncodeRecord.calls kj2 a0_2 a1_0 a1_1 t304 t305 _ ?side1 A33.out).mono ?_); (case side1 => exact Glob.below HGL.out z21_0); rintro e w40 ⟨rfl, hb⟩; refine ⟨_, rfl, ?_⟩; have n0_ := Aside0.mk (blk_below (g := gb299) (o := .cells #[.string a0_0, .string a0_1, .int .i64 a0_2] 42 (0, 0)) z21_1 hb); have n1_ := Aside0.mk (blk_below (g := gb300) (o := .cells #[.string a1_0, .string a1_1] 38 (0, 0)) z21_4 hb); have n2_ := Aside0.mk (blk_below (g := gb301) (o := .cells #[.string (⟨#[]⟩ : ByteArray), .string (⟨#[]⟩ : ByteArray), .int .i64 0] 42 (0, 0)) z21_7 hb); have n3_ := Aside0.mk (below_step z21_0 hb); clear BK299; clear BK300; clear BK301; clear HB; have BK299 := n0_; have BK300 := n1_; have BK301 := n2_; have HB := n3_; clear n0_ n1_ n2_ n3_; (try clear hb); (try clear hb2); (try clear hk); (try clear hi); have hcz41_0 : w40.cell? ⟨gb299, 0, none⟩ = some (.string a0_0) := (blk_cell BK299.out 0).trans rfl; have hcz41_1 : w40.cell? ⟨gb299, 1, none⟩ = some (.string a0_1) := (blk_cell BK299.out 1).trans rfl; have hcz41_2 : w40.cell? ⟨gb299, 2, none⟩ = some (.int .i64 a0_2) := (blk_cell BK299.out 2).trans rfl; have hfz41_0 := blk_frozen BK299.out 0; have hfz41_1 := blk_frozen BK299.out 1; have hfz41_2 := blk_frozen BK299.out 2; have hcz42_0 : w40.cell? ⟨gb301, 0, none⟩ = some (.string (⟨#[]⟩ : ByteArray)) := (blk_cell BK301.out 0).trans rfl; have hcz42_1 : w40.cell? ⟨gb301, 1, none⟩ = some (.string (⟨#[]⟩ : ByteArray)) := (blk_cell BK301.out 1).trans rfl; have hcz42_2 : w40.cell? ⟨gb301, 2, none⟩ = some (.int .i64 0) := (blk_cell BK301.out 2).trans rfl; have hfz42_0 := blk_frozen BK301.out 0; have hfz42_1 := blk_frozen BK301.out 1; have hfz42_2 := blk_frozen BK301.out 2))
            refine bodyPost_ret (results_ct rfl _ _ gb301 42 #[.string a0_0, .string (a0_1 ++ t304), .int .i64 (wrap64 (a0_2 + 1))] (0, 0) _ rfl (by (with_reducible repeat (first | refine blk_drewN ?_ _ | refine blk_drew ?_ | refine blk_alloc ?_ _)); refine blk_put (cs := #[.string a0_0, .string (a0_1 ++ t304), .int .i64 0]) ?_ 2 _ rfl; (with_reducible repeat (first | refine blk_drewN ?_ _ | refine blk_drew ?_ | refine blk_alloc ?_ _)); refine blk_put (cs := #[.string a0_0, .string (⟨#[]⟩ : ByteArray), .int .i64 0]) ?_ 1 _ rfl; (with_reducible repeat (first | refine blk_drewN ?_ _ | refine blk_drew ?_ | refine blk_alloc ?_ _)); refine blk_put (cs := #[.string (⟨#[]⟩ : ByteArray), .string (⟨#[]⟩ : ByteArray), .int .i64 0]) ?_ 0 _ rfl; (with_reducible repeat (first | refine blk_drewN ?_ _ | refine blk_drew ?_ | refine blk_alloc ?_ _)); exact BK301.out) Tryd.underlying42 rfl (by kernel_rfl)) rfl ?_
            exact ⟨z21_9, z21_0⟩
          · rw [if_neg c34] at H
            exact absurd H (by simp)
def spec_LogRecords.f (k : Nat) (a0_0 : ByteArray) (a0_1 : ByteArray) (a0_2 : Int) : Option ((List (S38)) × Bool) := (spec_l12Valid.f k a0_0 a0_1 a0_2).bind fun t332 => (if t332 = true then (if a0_0.size + a0_1.size ≤ 9223372036854775807 then ((spec_l12Open.f k (a0_0 ++ a0_1)).bind fun bt333 => (some (bt333.1, true))) else (none)) else (some ((([] : List (S38))), false)))
theorem spec_LogRecords.mono : ∀ a0 a1 a2 k, LeO (spec_LogRecords.f k a0 a1 a2) (spec_LogRecords.f (k + 1) a0 a1 a2) := by
  intro a0 a1 a2 k
  unfold spec_LogRecords.f
  repeat' first
      | (with_reducible exact spec_l12Open.mono _ _)
      | (with_reducible exact spec_l12Valid.mono _ _ _ _)
      | (with_reducible exact LeO.refl _)
      | (with_reducible exact LeO.none _)
      | (with_reducible refine LeO.ite ?_ ?_)
      | (with_reducible refine LeO.bind ?_ (fun _ => ?_))
      | exact spec_l12Open.mono _ _
      | exact spec_l12Valid.mono _ _ _ _
      | exact LeO.none _
      | refine LeO.ite ?_ ?_
      | refine LeO.bind ?_ (fun _ => ?_)
set_option maxHeartbeats 8000000 in
set_option maxRecDepth 100000 in
theorem spec_LogRecords.calls (k : Nat) (a0_0 : ByteArray) (a0_1 : ByteArray) (a0_2 : Int) (r1 : List (S38)) (r2 : Bool) (w : World) (h : spec_LogRecords.f k a0_0 a0_1 a0_2 = some (r1, r2)) :
    Calls Tryd.prog 40 #[.agg #[.string a0_0, .string a0_1, .int .i64 a0_2]] w fun e w' => ∃ v0_ : Value, e = .returned (.tuple #[v0_, .bool r2]) ∧ Kd.R k38 38 w' w.heap.size (fun _ => True) v0_ r1 ∧ Below w.heap.size w w' := by
  have hu42 := Tryd.underlying42
  have HB := Aside0.mk (Below.refl w.heap.size w)
  have H : ((spec_l12Valid.f k a0_0 a0_1 a0_2).bind fun t332 => (if t332 = true then (if a0_0.size + a0_1.size ≤ 9223372036854775807 then ((spec_l12Open.f k (a0_0 ++ a0_1)).bind fun bt333 => (some (bt333.1, true))) else (none)) else (some ((([] : List (S38))), false)))) = some (r1, r2) := h
  clear h
  replace H := Option.bind_eq_some_iff.mp H
  obtain ⟨t332, A20, H⟩ := H
  replace H : (if t332 = true then (if a0_0.size + a0_1.size ≤ 9223372036854775807 then ((spec_l12Open.f k (a0_0 ++ a0_1)).bind fun bt333 => (some (bt333.1, true))) else (none)) else (some ((([] : List (S38))), false))) = some (r1, r2) := H
  have A2 := Aside0.mk A20
  clear A20
  by_cases c3 : t332 = true
  · subst c3
    have H1 : (if a0_0.size + a0_1.size ≤ 9223372036854775807 then ((spec_l12Open.f k (a0_0 ++ a0_1)).bind fun bt333 => (some (bt333.1, true))) else (none)) = some (r1, r2) := by rw [if_pos rfl] at H; exact H
    clear H
    have H := H1
    clear H1
    by_cases c4 : a0_0.size + a0_1.size ≤ 9223372036854775807
    · rw [if_pos c4] at H
      have c4b0 := eq_true c4
      have c4b1 : decide (a0_0.size + a0_1.size ≤ 9223372036854775807) = true := decide_eq_true c4
      try have c4b2 : (9223372036854775807 < a0_0.size + a0_1.size) = False := eq_false (Nat.not_lt.2 c4)
      replace H := Option.bind_eq_some_iff.mp H
      obtain ⟨⟨t333, t334⟩, A50, H⟩ := H
      replace H : (some (t333, true)) = some (r1, r2) := H
      have A5 := Aside0.mk A50
      clear A50
      simp only [Option.some.injEq, Prod.mk.injEq] at H
      obtain ⟨rfl, rfl⟩ := H
      go_enter Tryd.func40, Tryd.ntmps40
      go_wp2_with (first | ((with_reducible refine gate_dst (N := 1) rfl ?_); refine box_event ?hg (N := 1) ?hd (cs := #[.string a0_0, .string a0_1, .int .i64 a0_2]) (t := 42) ?hr ?_; (case hd => rfl); (case hg => rfl); (case hr => first | (go_simp; done) | (go_simp; rfl)); intro gb331 hg w6 hbox hb; have n0_ := Aside0.mk (below_step z21_3 hb); have n1_ := Aside0.mk (hbox); have n2_ := Aside0.mk ((by rw [hg]; exact (below_size z21_3) : w.heap.size ≤ gb331)); have n3_ := Aside0.mk ((by rw [hg]; exact (below_size z21_3) : w.heap.size ≤ gb331)); clear HB; have HB := n0_; have BK331 := n1_; have GW331 := n2_; have GE331 := n3_; clear n0_ n1_ n2_ n3_; clear hb hbox hg; have hcz7_0 : w6.cell? ⟨gb331, 0, none⟩ = some (.string a0_0) := (blk_cell BK331.out 0).trans rfl; have hcz7_1 : w6.cell? ⟨gb331, 1, none⟩ = some (.string a0_1) := (blk_cell BK331.out 1).trans rfl; have hcz7_2 : w6.cell? ⟨gb331, 2, none⟩ = some (.int .i64 a0_2) := (blk_cell BK331.out 2).trans rfl; have hfz7_0 := blk_frozen BK331.out 0; have hfz7_1 := blk_frozen BK331.out 1; have hfz7_2 := blk_frozen BK331.out 2) | ((with_reducible refine gate_callee (f := 81) rfl ?_); refine goesL_ (some 7) rfl rfl Tryd.func81 (by kernel_rfl) rfl #[.agg #[.string a0_0, .string a0_1, .int .i64 a0_2]] rfl z21_6 ?_; (with_reducible refine (spec_l12Valid.calls k a0_0 a0_1 a0_2 true _ A2.out).mono ?_); rintro e w8 ⟨rfl, hb⟩; refine ⟨_, rfl, ?_⟩; have n0_ := Aside0.mk (blk_below (g := gb331) (o := .cells #[.string a0_0, .string a0_1, .int .i64 a0_2] 42 (0, 0)) z21_10 hb); have n1_ := Aside0.mk (below_step z21_2 hb); clear BK331; clear HB; have BK331 := n0_; have HB := n1_; clear n0_ n1_; (try clear hb); (try clear hb2); (try clear hk); (try clear hi); have hcz9_0 : w8.cell? ⟨gb331, 0, none⟩ = some (.string a0_0) := (blk_cell BK331.out 0).trans rfl; have hcz9_1 : w8.cell? ⟨gb331, 1, none⟩ = some (.string a0_1) := (blk_cell BK331.out 1).trans rfl; have hcz9_2 : w8.cell? ⟨gb331, 2, none⟩ = some (.int .i64 a0_2) := (blk_cell BK331.out 2).trans rfl; have hfz9_0 := blk_frozen BK331.out 0; have hfz9_1 := blk_frozen BK331.out 1; have hfz9_2 := blk_frozen BK331.out 2) | ((with_reducible refine gate_callee (f := 79) rfl ?_); refine goesL_ (some 16) rfl rfl Tryd.func79 (by kernel_rfl) rfl #[.string (a0_0 ++ a0_1)] rfl z21_6 ?_; (with_reducible refine (spec_l12Open.calls k (a0_0 ++ a0_1) t333 t334 _ A5.out).mono ?_); rintro e w10 ⟨v335, rfl, ho0, hb⟩; refine ⟨_, rfl, ?_⟩; have n0_ := Aside0.mk (Kd.R_lower ho0 (below_size z21_2)); have n1_ := Aside0.mk (blk_below (g := gb331) (o := .cells #[.string a0_0, .string a0_1, .int .i64 a0_2] 42 (0, 0)) z21_10 hb); have n2_ := Aside0.mk (below_step z21_2 hb); clear BK331; clear HB; have HO336 := n0_; have BK331 := n1_; have HB := n2_; clear n0_ n1_ n2_; (try clear hb); (try clear hb2); (try clear hk); (try clear hi); (try clear ho0)))
      go_ret2
      exact ⟨_, z21_9, by (with_reducible repeat (first | apply Kd.R_alloc | apply Kd.R_drewN | apply Kd.R_drew)); exact HO336.out, z21_2⟩
    · rw [if_neg c4] at H
      exact absurd H (by simp)
  · replace c3 := Bool.eq_false_iff.mpr c3
    subst c3
    have H1 : (some ((([] : List (S38))), false)) = some (r1, r2) := by rw [if_neg (show ¬ (false = true) by decide)] at H; exact H
    clear H
    have H := H1
    clear H1
    obtain ⟨y337, hy337⟩ : ∃ y_ : List (S38), y_ = (([] : List (S38))) := ⟨_, rfl⟩
    replace H : (some (y337, false)) = some (r1, r2) := by first | (rw [hy337]; with_reducible exact H) | (have H2_ := (Option.bind_some _ _).symm.trans H; rw [hy337]; with_reducible exact H2_) | (have H2_ := (Option.bind_some _ _).symm.trans H; with_reducible exact H2_) | with_reducible exact H | (rw [hy337]; exact H) | exact H
    have Ny337 := Aside0.mk hy337
    clear hy337
    simp only [Option.some.injEq, Prod.mk.injEq] at H
    obtain ⟨rfl, rfl⟩ := H
    go_enter Tryd.func40, Tryd.ntmps40
    go_wp2_with (first | ((with_reducible refine gate_dst (N := 1) rfl ?_); refine box_event ?hg (N := 1) ?hd (cs := #[.string a0_0, .string a0_1, .int .i64 a0_2]) (t := 42) ?hr ?_; (case hd => rfl); (case hg => rfl); (case hr => first | (go_simp; done) | (go_simp; rfl)); intro gb331 hg w11 hbox hb; have n0_ := Aside0.mk (below_step z21_3 hb); have n1_ := Aside0.mk (hbox); have n2_ := Aside0.mk ((by rw [hg]; exact (below_size z21_3) : w.heap.size ≤ gb331)); have n3_ := Aside0.mk ((by rw [hg]; exact (below_size z21_3) : w.heap.size ≤ gb331)); clear HB; have HB := n0_; have BK331 := n1_; have GW331 := n2_; have GE331 := n3_; clear n0_ n1_ n2_ n3_; clear hb hbox hg; have hcz12_0 : w11.cell? ⟨gb331, 0, none⟩ = some (.string a0_0) := (blk_cell BK331.out 0).trans rfl; have hcz12_1 : w11.cell? ⟨gb331, 1, none⟩ = some (.string a0_1) := (blk_cell BK331.out 1).trans rfl; have hcz12_2 : w11.cell? ⟨gb331, 2, none⟩ = some (.int .i64 a0_2) := (blk_cell BK331.out 2).trans rfl; have hfz12_0 := blk_frozen BK331.out 0; have hfz12_1 := blk_frozen BK331.out 1; have hfz12_2 := blk_frozen BK331.out 2) | ((with_reducible refine gate_callee (f := 81) rfl ?_); refine goesL_ (some 7) rfl rfl Tryd.func81 (by kernel_rfl) rfl #[.agg #[.string a0_0, .string a0_1, .int .i64 a0_2]] rfl z21_6 ?_; (with_reducible refine (spec_l12Valid.calls k a0_0 a0_1 a0_2 false _ A2.out).mono ?_); rintro e w13 ⟨rfl, hb⟩; refine ⟨_, rfl, ?_⟩; have n0_ := Aside0.mk (blk_below (g := gb331) (o := .cells #[.string a0_0, .string a0_1, .int .i64 a0_2] 42 (0, 0)) z21_10 hb); have n1_ := Aside0.mk (below_step z21_2 hb); clear BK331; clear HB; have BK331 := n0_; have HB := n1_; clear n0_ n1_; (try clear hb); (try clear hb2); (try clear hk); (try clear hi)) | ((with_reducible refine gate_dst (N := 9) rfl ?_); refine Kd.R_lit k38 _ 38 ?hg (N := 9) ?hd (xs := ([] : List (S38))) (inner := []) (ok := fun _ => True) (okp := fun _ => True) ?hr ?hp (fun _ hk => hk) trivial (Below.refl _ _) (Nat.le_refl _) (by simp) ?_; (case hd => rfl); (case hg => rfl); (case hr => first | (go_simp; done) | (go_simp; rfl)); (case hp => exact (Reps.none _ _)); intro v338 w14 ho15 hb hg_ hnew_; clear hg_ hnew_; (first | rw [← Ny337.out] at ho15 | (simp only [Int.reduceToNat] at ho15; rw [← Ny337.out] at ho15)); have n0_ := Aside0.mk (Kd.R_lower ho15 (below_size z21_2)); have n1_ := Aside0.mk (blk_below (g := gb331) (o := .cells #[.string a0_0, .string a0_1, .int .i64 a0_2] 42 (0, 0)) z21_10 hb); have n2_ := Aside0.mk (below_step z21_2 hb); clear BK331; clear HB; have HO339 := n0_; have BK331 := n1_; have HB := n2_; clear n0_ n1_ n2_; clear hb ho15))
    go_ret2
    exact ⟨_, z21_9, by (with_reducible repeat (first | apply Kd.R_alloc | apply Kd.R_drewN | apply Kd.R_drew)); exact HO339.out, z21_2⟩
end Go.Proofs.YtgclcjohnnpejaaDoor.Pr
end

section
set_option linter.unusedVariables false
set_option linter.unusedSimpArgs false
namespace Go.Proofs.YtgclcjohnnpejaaDoor.PureL
open Go.RowKit Go.Proofs.YtgclcjohnnpejaaDoor.Pr Go.Proofs.YtgclcjohnnpejaaDoorW.PrintWords Go.Proofs.YtgclcjohnnpejaaDoorW.PrintLast
theorem size_add (a b : ByteArray) : (a ++ b).size = a.size + b.size := by rw [size_L, L_append, List.length_append, ← size_L, ← size_L]
def Valid (a b : ByteArray) (n : Int) : Prop := a.size + b.size ≤ 30000 ∧ (rdA 0 (L (a ++ b))).2 = a.size + b.size ∧ (rdA 0 (L a)).2 = a.size ∧ ((rdA 0 (L (a ++ b))).1.length : Int) = n
instance (a b : ByteArray) (n : Int) : Decidable (Valid a b n) := by unfold Valid; infer_instance
theorem read_A (s : ByteArray) (hs : s.size ≤ 2000000) : (rdA 0 (L s)).2 ≤ s.size ∧ (rdA 0 (L s)).1.length ≤ 60 ∧ ∀ k, 20000000 < k → impl_readRecords.f k s = some ((rdA 0 (L s)).1, ((rdA 0 (L s)).2 : Int)) ∧ spec_l12Open.f k s = some ((rdA 0 (L s)).1, ((rdA 0 (L s)).2 : Int)) := by
  have h := read_eq2 s hs
  rw [show rdL s.size 0 (L s) = rdA 0 (L s) from rdL_fuel _ _ _ (by rw [size_L]; exact Nat.le_refl _)] at h
  exact h
theorem valid_A (a b : ByteArray) (n : Int) (ha : a.size ≤ 1048576) (hb : b.size ≤ 1048576) (k : Nat) (hk : 30000000 < k) :
    spec_l12Valid.f k a b n = some (decide (Valid a b n)) ∧ impl_Log_records.f k a b n = some (if a.size + b.size ≤ 30000 then (rdA 0 (L (a ++ b))).1 else [], decide (Valid a b n)) := by
  by_cases h : a.size + b.size ≤ 30000
  · obtain ⟨hn1, hl1, h1⟩ := read_A (a ++ b) (by rw [size_add]; omega)
    obtain ⟨hn2, hl2, h2⟩ := read_A a (by omega)
    obtain ⟨i1, s1⟩ := h1 k (by omega)
    obtain ⟨i2, s2⟩ := h2 k (by omega)
    have hd : decide (Valid a b n) = (decide (((rdA 0 (L (a ++ b))).2 : Int) = (a.size : Int) + (b.size : Int)) && decide (((rdA 0 (L a)).2 : Int) = (a.size : Int)) && decide (((rdA 0 (L (a ++ b))).1.length : Int) = n)) := by
      rw [← Bool.decide_and, ← Bool.decide_and]
      refine decide_eq_decide.2 ?_
      unfold Valid
      constructor
      · rintro ⟨_, q1, q2, q3⟩; exact ⟨⟨by omega, by omega⟩, q3⟩
      · rintro ⟨⟨q1, q2⟩, q3⟩; exact ⟨h, by omega, by omega, q3⟩
    rw [if_pos h, hd]
    generalize (rdA 0 (L (a ++ b))).1 = l1 at *
    generalize (rdA 0 (L (a ++ b))).2 = n1 at *
    generalize (rdA 0 (L a)).1 = l2 at *
    generalize (rdA 0 (L a)).2 = n2 at *
    unfold spec_l12Valid.f impl_Log_records.f
    rw [i1, i2, s1, s2, wrap_in (by omega) (by omega), if_neg (by omega), if_pos (by omega), Option.bind_some]
    dsimp only
    rw [Option.bind_some, Option.bind_some]
    dsimp only
    refine ⟨?_, ?_⟩
    · by_cases c1 : (n1 : Int) = (a.size : Int) + (b.size : Int)
      · rw [if_pos c1, decide_eq_true c1]
        by_cases c2 : (n2 : Int) = (a.size : Int)
        · rw [if_pos c2, decide_eq_true c2]; rfl
        · rw [if_neg c2, decide_eq_false c2]; rfl
      · rw [if_neg c1, decide_eq_false c1]; rfl
    · rw [if_neg (by omega), if_pos (by omega), Option.bind_some]
      dsimp only
      by_cases c1 : (n1 : Int) = (a.size : Int) + (b.size : Int)
      · rw [if_pos c1, decide_eq_true c1]
        by_cases c2 : (n2 : Int) = (a.size : Int)
        · rw [if_pos c2, decide_eq_true c2]; rfl
        · rw [if_neg c2, decide_eq_false c2]; rfl
      · rw [if_neg c1, decide_eq_false c1]; rfl
  · have hd : decide (Valid a b n) = false := decide_eq_false (fun hv => h hv.1)
    rw [hd, if_neg h]
    unfold spec_l12Valid.f impl_Log_records.f
    rw [wrap_in (by omega) (by omega), if_pos (by omega), if_pos (by omega)]
    exact ⟨rfl, rfl⟩
theorem isValid_A (a b : ByteArray) (n : Int) (ha : a.size ≤ 1048576) (hb : b.size ≤ 1048576) (k : Nat) (hk : 30000000 < k) :
    spec_IsValidLog.f k a b n = some (decide (Valid a b n)) ∧ impl_IsValidLog.f k a b n = some (decide (Valid a b n)) := by
  obtain ⟨h1, h2⟩ := valid_A a b n ha hb k hk
  unfold spec_IsValidLog.f impl_IsValidLog.f
  rw [h1, h2]
  exact ⟨rfl, rfl⟩
theorem sync_A (a b : ByteArray) (n : Int) (ha : a.size ≤ 1048576) (hb : b.size ≤ 1048576) (k : Nat) (hk : 30000000 < k) :
    spec_SyncLog.f k a b n = some (if Valid a b n then (a ++ b, ⟨#[]⟩, n, true) else (⟨#[]⟩, ⟨#[]⟩, 0, false)) ∧ impl_SyncLog.f k a b n = some (if Valid a b n then (a ++ b, ⟨#[]⟩, n, true) else (⟨#[]⟩, ⟨#[]⟩, 0, false)) := by
  obtain ⟨h1, _⟩ := valid_A a b n ha hb k hk
  obtain ⟨_, h2⟩ := isValid_A a b n ha hb k hk
  unfold spec_SyncLog.f impl_SyncLog.f
  rw [h1, h2, Option.bind_some]
  by_cases hv : Valid a b n
  · rw [decide_eq_true hv, if_pos rfl, if_pos hv, if_pos (by omega)]; exact ⟨rfl, rfl⟩
  · rw [decide_eq_false hv, if_neg hv]; exact ⟨rfl, rfl⟩
theorem logRecords_A (a b : ByteArray) (n : Int) (ha : a.size ≤ 1048576) (hb : b.size ≤ 1048576) (k : Nat) (hk : 30000000 < k) :
    spec_LogRecords.f k a b n = some (if Valid a b n then ((rdA 0 (L (a ++ b))).1, true) else ([], false)) ∧ impl_LogRecords.f k a b n = some (if Valid a b n then ((rdA 0 (L (a ++ b))).1, true) else ([], false)) := by
  obtain ⟨h1, h2⟩ := valid_A a b n ha hb k hk
  unfold spec_LogRecords.f impl_LogRecords.f
  rw [h1, h2, Option.bind_some, Option.bind_some]
  by_cases hv : Valid a b n
  · obtain ⟨_, _, h3⟩ := read_A (a ++ b) (by rw [size_add]; have := hv.1; omega)
    rw [decide_eq_true hv, if_pos rfl, if_pos hv, if_pos (by omega), (h3 k (by omega)).2, Option.bind_some, if_pos rfl, if_pos hv.1]
    exact ⟨rfl, rfl⟩
  · rw [decide_eq_false hv, if_neg hv]; exact ⟨rfl, rfl⟩
def AppR (a b : ByteArray) (n : Int) (c r : ByteArray) : ByteArray × ByteArray × Int × Int :=
  if Valid a b n ∧ validRec (L c) (L r) = true then (if n = 60 then (a, b, n, 2) else (a, b ++ ⟨(encL n (L c) (L r)).toArray⟩, n + 1, 0)) else (a, b, n, 1)
theorem Valid.count {a b : ByteArray} {n : Int} (h : Valid a b n) : 0 ≤ n ∧ n ≤ 60 := by
  have h60 := (read_A (a ++ b) (by rw [size_add]; have := h.1; omega)).2.1
  have := h.2.2.2
  omega
theorem append_A (a b : ByteArray) (n : Int) (c r : ByteArray) (ha : a.size ≤ 1048576) (hb : b.size ≤ 1048576) (hc : c.size ≤ 1048576) (hr : r.size ≤ 1048576) (k : Nat) (hk : 50000000 < k) :
    spec_AppendRecord.f k a b n c r = some (AppR a b n c r) ∧ impl_AppendRecord.f k a b n c r = some (AppR a b n c r) := by
  have hrec : spec_l12Record.f k c r = some (validRec (L c) (L r)) ∧ impl_IsValidRecord.f k c r = some (validRec (L c) (L r)) := ⟨spec_valid c r k (by omega) (by omega) (by omega) (by omega), impl_valid c r k (by omega) (by omega) (by omega) (by omega)⟩
  have hS : spec_AppendRecord.f k a b n c r = spec_AppendRecord.j0 k (!(decide (Valid a b n) && validRec (L c) (L r))) a b n c r ∧ impl_AppendRecord.f k a b n c r = impl_AppendRecord.j0 k (!(decide (Valid a b n) && validRec (L c) (L r))) a b n c r := by
    obtain ⟨h1, _⟩ := valid_A a b n ha hb k (by omega)
    obtain ⟨_, h2⟩ := isValid_A a b n ha hb k (by omega)
    unfold spec_AppendRecord.f impl_AppendRecord.f
    rw [h1, h2, hrec.1, hrec.2]
    cases decide (Valid a b n) <;> exact ⟨rfl, rfl⟩
  rw [hS.1, hS.2]
  obtain ⟨k, rfl⟩ : ∃ z, k = z + 1 := ⟨k - 1, by omega⟩
  have nt : ¬ (!true) = true := by simp
  unfold AppR
  by_cases hv : Valid a b n ∧ validRec (L c) (L r) = true
  · obtain ⟨n0, n1⟩ := hv.1.count
    rw [if_pos hv, decide_eq_true hv.1, hv.2, Bool.and_true, spec_AppendRecord.j0, impl_AppendRecord.j0, if_neg nt, if_neg nt]
    by_cases h60 : n = 60
    · rw [if_pos h60, if_pos h60, if_pos h60]; exact ⟨rfl, rfl⟩
    · have l1 := spec_line n c r k (by omega) (by omega) (by omega) (by omega) (by omega)
      have l2 := impl_enc n c r k (by omega) (by omega) (by omega)
      have l3 : encR n c r = (⟨(encL n (L c) (L r)).toArray⟩, true) := by
        unfold encR
        rw [if_pos ⟨n0, by omega, hv.2⟩]
      have hz : (encL n (L c) (L r)).length ≤ 3000000 := by
        have a1 := text_len (n := n) (c := L c) (r := L r) n0 (by omega)
        have a2 := seal_len (textL n (L c) (L r))
        rw [← size_L, ← size_L] at a1
        unfold encL
        rw [List.length_append, List.length_singleton]
        omega
      rw [if_neg h60, if_neg h60, if_neg h60, l1, l2, l3, Option.bind_some, Option.bind_some]
      dsimp only
      have hz2 : (⟨(encL n (L c) (L r)).toArray⟩ : ByteArray).size ≤ 3000000 := by rw [B_size]; exact hz
      rw [if_pos (by omega), wrap_in (by omega) (by omega)]
      exact ⟨rfl, rfl⟩
  · rw [if_neg hv]
    have hf : (decide (Valid a b n) && validRec (L c) (L r)) = false := by
      cases h : (decide (Valid a b n) && validRec (L c) (L r)) with
      | false => rfl
      | true => exact absurd ⟨of_decide_eq_true (Bool.and_eq_true _ _ ▸ h).1, (Bool.and_eq_true _ _ ▸ h).2⟩ hv
    rw [hf, spec_AppendRecord.j0, impl_AppendRecord.j0]
    exact ⟨rfl, rfl⟩
theorem enc_small (n : Int) (c r : List UInt8) (h0 : 0 ≤ n) (h1 : n < 1000000) (hv : validRec c r = true) : (encL n c r).length ≤ 500 := by
  obtain ⟨_, _, h3, _, _, h6⟩ := valid_parts hv
  have a1 := text_len (n := n) (c := c) (r := r) h0 h1
  have a2 := seal_len (textL n c r)
  unfold encL
  rw [List.length_append, List.length_singleton]
  omega
theorem appR_small (a b : ByteArray) (n : Int) (c r : ByteArray) (h : a.size + b.size ≤ 40000) (hn : 0 ≤ n ∧ n ≤ 1000) :
    (AppR a b n c r).1.size + (AppR a b n c r).2.1.size ≤ 40000 ∧ 0 ≤ (AppR a b n c r).2.2.1 ∧ (AppR a b n c r).2.2.1 ≤ 1000 := by
  unfold AppR
  split
  · rename_i hv
    split
    · exact ⟨h, hn⟩
    · have := enc_small n (L c) (L r) (by omega) (by omega) hv.2
      obtain ⟨n0, n1⟩ := hv.1.count
      have h3 := hv.1.1
      dsimp only
      have hz : (⟨(encL n (L c) (L r)).toArray⟩ : ByteArray).size = (encL n (L c) (L r)).length := B_size _
      rw [size_add, hz]
      omega
  · exact ⟨h, hn⟩
end Go.Proofs.YtgclcjohnnpejaaDoor.PureL
end

section
set_option linter.unusedVariables false
set_option linter.unusedSimpArgs false
namespace Go.Proofs.YtgclcjohnnpejaaDoor.PureL
open Go.RowKit Go.Proofs.YtgclcjohnnpejaaDoor.Pr Go.Proofs.YtgclcjohnnpejaaDoorW.PrintWords Go.Proofs.YtgclcjohnnpejaaDoorW.PrintLast
theorem bytesOf_L (s : ByteArray) : bytesOf s = (L s).map fun b => (b.toNat : Int) := rfl
theorem L_strOf (l : List Int) : L (Go.strOfNums l) = l.map fun n => UInt8.ofNat n.toNat := Go.strOfNums_data l
theorem strOf_bytes (s : ByteArray) : Go.strOfNums (bytesOf s) = s := by
  apply ext_L
  rw [L_strOf, bytesOf_L, List.map_map]
  have : ∀ l : List UInt8, l.map ((fun n : Int => UInt8.ofNat n.toNat) ∘ fun b : UInt8 => (b.toNat : Int)) = l := by
    intro l
    induction l with
    | nil => rfl
    | cons b l ih => rw [List.map_cons, ih]; simp
  exact this _
theorem bt_append (a s : ByteArray) (i : Nat) (h : i < s.size) : bt (a ++ s) ((a.size + i : Nat) : Int) = bt s (i : Int) := by
  have h1 : a.size + i < (L (a ++ s)).length := by rw [L_append, List.length_append, ← size_L, ← size_L]; omega
  have h2 : i < (L s).length := by rw [← size_L]; exact h
  rw [bt_get _ _ h1, bt_get _ _ h2]
  congr 2
  simp only [L_append]
  rw [List.getElem_append_right (by rw [← size_L]; omega)]
  congr 1
  rw [← size_L]
  omega
theorem crashed_append (a s : ByteArray) (t m : Bool) (h : m = true → 0 < s.size) : crashed (a ++ s) t m = a ++ crashed s t m := by
  unfold crashed
  cases hb : (t && m) with
  | false => simp only [Bool.false_eq_true, if_false]; rw [strOf_bytes, strOf_bytes]
  | true =>
    have hm : m = true := by cases t <;> cases m <;> simp_all
    have hs := h hm
    simp only [if_true]
    unfold tornL
    have hsz : (a ++ s).size = a.size + s.size := by rw [size_L, L_append, List.length_append, ← size_L, ← size_L]
    rw [hsz, show a.size + s.size - 1 = a.size + (s.size - 1) by omega, bt_append a s (s.size - 1) (by omega)]
    apply ext_L
    rw [L_append, L_strOf, L_strOf, bytesOf_L, L_append, List.map_append, List.set_append_right _ _ (by rw [List.length_map, ← size_L]; omega), List.length_map, ← size_L, show a.size + (s.size - 1) - a.size = s.size - 1 by omega, List.map_append]
    congr 1
    have := congrArg L (strOf_bytes a)
    rw [L_strOf, bytesOf_L] at this
    exact this
theorem crashed_size (s : ByteArray) (t m : Bool) : (crashed s t m).size = s.size := by
  unfold crashed tornL
  split
  · rw [Go.strOfNums_size, List.length_set, bytesOf_length]
  · rw [Go.strOfNums_size, bytesOf_length]
def CrashR (a b : ByteArray) (n keep : Int) (t : Bool) : ByteArray × Bool := if Valid a b n ∧ 0 ≤ keep ∧ keep ≤ (b.size : Int) then (a ++ crashed (b.extract 0 keep.toNat) t (decide (keep > 0)), true) else (⟨#[]⟩, false)
theorem in_val (x y : Int) : spec_l1In.f x 0 y = some (decide (0 ≤ x ∧ x ≤ y)) ∧ impl_in.f x 0 y = some (decide (0 ≤ x ∧ x ≤ y)) := by
  unfold spec_l1In.f impl_in.f
  by_cases h : 0 ≤ x
  · rw [if_pos (by omega)]
    have : decide (x ≤ y) = decide (0 ≤ x ∧ x ≤ y) := decide_eq_decide.2 ⟨fun q => ⟨h, q⟩, fun q => q.2⟩
    rw [this]
    exact ⟨rfl, rfl⟩
  · rw [if_neg (by omega)]
    have : decide (0 ≤ x ∧ x ≤ y) = false := decide_eq_false (fun q => h q.1)
    rw [this]
    exact ⟨rfl, rfl⟩
theorem crash_A (a b : ByteArray) (n keep : Int) (t : Bool) (ha : a.size ≤ 1048576) (hb : b.size ≤ 1048576) (k : Nat) (hk : 40000000 < k) : spec_CrashLog.f k a b n keep t = some (CrashR a b n keep t) ∧ impl_CrashLog.f k a b n keep t = some (CrashR a b n keep t) := by
  obtain ⟨d1, d2⟩ := in_val keep (b.size : Int)
  have hS : spec_CrashLog.f k a b n keep t = spec_CrashLog.j0 k keep (!(decide (Valid a b n) && decide (0 ≤ keep ∧ keep ≤ (b.size : Int)))) a b n t ∧ impl_CrashLog.f k a b n keep t = impl_CrashLog.j0 k keep (!(decide (Valid a b n) && decide (0 ≤ keep ∧ keep ≤ (b.size : Int)))) a b n t := by
    obtain ⟨e1, _⟩ := valid_A a b n ha hb k (by omega)
    obtain ⟨_, e2⟩ := isValid_A a b n ha hb k (by omega)
    unfold spec_CrashLog.f impl_CrashLog.f
    rw [e1, e2, d1, d2]
    cases decide (Valid a b n) <;> exact ⟨rfl, rfl⟩
  rw [hS.1, hS.2]
  obtain ⟨k, rfl⟩ : ∃ z, k = z + 1 := ⟨k - 1, by omega⟩
  unfold CrashR
  by_cases hc : Valid a b n ∧ 0 ≤ keep ∧ keep ≤ (b.size : Int)
  · obtain ⟨hv, q0, q1⟩ := hc
    rw [if_pos ⟨hv, q0, q1⟩, decide_eq_true hv, decide_eq_true (And.intro q0 q1), Bool.and_true]
    have hx : (b.extract 0 keep.toNat).size = keep.toNat := by rw [ByteArray.size_extract]; omega
    have hcr : crashed (a ++ b.extract 0 keep.toNat) t (decide (keep > 0)) = a ++ crashed (b.extract 0 keep.toNat) t (decide (keep > 0)) := crashed_append _ _ _ _ (fun h => by have := of_decide_eq_true h; rw [hx]; omega)
    rw [spec_CrashLog.j0, impl_CrashLog.j0]
    have nt : ¬ (!true) = true := by simp
    rw [if_neg nt, if_neg nt, if_pos q0, if_pos q0, if_pos q1, if_pos q1, crashed_size, if_pos (by rw [hx]; omega), hcr, if_pos (by rw [hx]; omega)]
    exact ⟨rfl, rfl⟩
  · rw [if_neg hc]
    have hf : (decide (Valid a b n) && decide (0 ≤ keep ∧ keep ≤ (b.size : Int))) = false := by
      rw [← Bool.decide_and]
      exact decide_eq_false hc
    rw [hf, spec_CrashLog.j0, impl_CrashLog.j0]
    exact ⟨rfl, rfl⟩
def RecR (s : ByteArray) : ByteArray × ByteArray × Int × Int × Bool := if s.size > 30000 then (⟨#[]⟩, ⟨#[]⟩, 0, 0, false) else (s.extract 0 (rdA 0 (L s)).2, ⟨#[]⟩, ((rdA 0 (L s)).1.length : Int), ((rdA 0 (L s)).2 : Int), true)
theorem recover_A (s : ByteArray) (hs : s.size ≤ 2000000) (k : Nat) (hk : 20000000 < k) : spec_RecoverLog.f k s = some (RecR s) ∧ impl_RecoverLog.f k s = some (RecR s) := by
  unfold spec_RecoverLog.f impl_RecoverLog.f RecR
  by_cases h : s.size > 30000
  · have h2 : (s.size : Int) > 30000 := by omega
    rw [if_pos h, if_pos h2, if_pos h2]; exact ⟨rfl, rfl⟩
  · obtain ⟨h1, _, h3⟩ := read_A s hs
    obtain ⟨i1, i2⟩ := h3 k hk
    have h2 : ¬ (s.size : Int) > 30000 := by omega
    rw [if_neg h, if_neg h2, if_neg h2, i1, i2, Option.bind_some]
    dsimp only
    rw [if_pos (by omega), if_pos (by omega), Int.toNat_natCast]
    exact ⟨rfl, rfl⟩
theorem recovered_valid (s : ByteArray) (hs : s.size ≤ 30000) : Valid (s.extract 0 (rdA 0 (L s)).2) ⟨#[]⟩ ((rdA 0 (L s)).1.length : Int) ∧ rdA 0 (L (s.extract 0 (rdA 0 (L s)).2 ++ ⟨#[]⟩)) = rdA 0 (L s) := by
  have hle := rdA_le 0 (L s)
  rw [← size_L] at hle
  have hL : L (s.extract 0 (rdA 0 (L s)).2) = (L s).take (rdA 0 (L s)).2 := by rw [L_extract]; simp
  have hz : (s.extract 0 (rdA 0 (L s)).2).size = (rdA 0 (L s)).2 := by rw [ByteArray.size_extract]; omega
  have hL2 : L (s.extract 0 (rdA 0 (L s)).2 ++ ⟨#[]⟩) = (L s).take (rdA 0 (L s)).2 := by rw [L_append, hL]; exact List.append_nil _
  have ht := rdA_take _ 0 (L s) (Nat.le_refl _)
  have e0 : (⟨#[]⟩ : ByteArray).size = 0 := rfl
  refine ⟨⟨by omega, ?_, ?_, ?_⟩, ?_⟩
  · rw [hL2, ht]; omega
  · rw [hL, ht]; omega
  · rw [hL2, ht]
  · rw [hL2, ht]
end Go.Proofs.YtgclcjohnnpejaaDoor.PureL
end

section
namespace Go.Proofs.YtgclcjohnnpejaaDoor.PureL
open Go.RowKit Go.Proofs.YtgclcjohnnpejaaDoor.Pr Go.Proofs.YtgclcjohnnpejaaDoorW.PrintWords Go.Proofs.YtgclcjohnnpejaaDoorW.PrintLast
def Code (l : List Int) : Prop := ∀ x ∈ l, 0 ≤ x ∧ x ≤ 255
theorem Code.of_wf {l : List Int} (h : ∀ x ∈ l, (Lit.int .u8 x).wf = true) : Code l := fun x hx => by
  have := h x hx
  simp [Lit.wf, IntKind.min, IntKind.max, IntKind.signed, IntKind.bits] at this
  omega
theorem Code.rd_in {l : List Int} (h : Code l) (i : Int) : 0 ≤ rd l i ∧ rd l i ≤ 255 := by
  unfold rd
  rw [List.getD_eq_getElem?_getD]
  cases e : l[i.toNat]? with
  | none => simp
  | some x => exact h x (List.mem_of_getElem? e)
theorem u64_range (x : Int) : 0 ≤ IntKind.u64.wrap x ∧ IntKind.u64.wrap x < 18446744073709551616 := by
  rw [show IntKind.u64.wrap x = x % 18446744073709551616 from IntKind.wrap_u64 x]
  omega
theorem low_byte (x : Int) (h0 : 0 ≤ x) (h1 : x < 18446744073709551616) : 0 ≤ wrap64 (Go.bits .and .u64 (x / 1099511627776) 255) ∧ wrap64 (Go.bits .and .u64 (x / 1099511627776) 255) ≤ 255 := by
  have h := bits_mask .u64 64 (by decide) wraps_u64 8 (by decide) (x / 1099511627776) (by omega) (by omega)
  have h2 : Go.bits .and .u64 (x / 1099511627776) 255 = (x / 1099511627776) % 256 := by simpa using h
  rw [h2, wrap_in (by omega) (by omega)]
  omega
theorem next_ok (l : List Int) (hl : Code l) (a s : Int) (h0 : 0 ≤ a) (h1 : a ≤ 1000000000000000) : ∃ x s', spec_l1Cur_next.f l a s = some (x, a + 1, s') ∧ 0 ≤ x ∧ x ≤ 255 := by
  unfold spec_l1Cur_next.f
  obtain ⟨r0, r1⟩ := hl.rd_in a
  rw [wrap_in (i := a + 1) (by omega) (by omega), wrap_in (i := rd l a) (by omega) (by omega)]
  split
  · split
    · exact ⟨_, _, rfl, r0, r1⟩
    · exact ⟨_, _, rfl, low_byte _ (u64_range _).1 (u64_range _).2⟩
  · split
    · exact ⟨_, _, rfl, by omega, by omega⟩
    · exact ⟨_, _, rfl, low_byte _ (u64_range _).1 (u64_range _).2⟩
theorem pick_ok (l : List Int) (hl : Code l) (a s n : Int) (h0 : 0 ≤ a) (h1 : a ≤ 100000000000000) : ∃ x a' s', spec_l1Cur_pick.f l a s n = some (x, a', s') ∧ 0 ≤ x ∧ (x = 0 ∨ x < n) ∧ a ≤ a' ∧ a' ≤ a + 2 := by
  unfold spec_l1Cur_pick.f
  by_cases hn : n ≤ 1
  · rw [if_pos hn]; exact ⟨_, _, _, rfl, by omega, .inl rfl, by omega, by omega⟩
  · rw [if_neg hn]
    obtain ⟨x, s1, e, x0, x1⟩ := next_ok l hl a s h0 (by omega)
    rw [e, Option.bind_some]
    dsimp only
    by_cases hm : n > 200
    · rw [if_pos hm]
      obtain ⟨y, s2, e2, y0, y1⟩ := next_ok l hl (a + 1) s1 (by omega) (by omega)
      rw [e2, Option.bind_some, if_neg (by omega)]
      dsimp only
      rw [wrap_in (i := x * 256) (by omega) (by omega), wrap_in (by omega) (by omega), Int.tmod_eq_emod_of_nonneg (by omega)]
      exact ⟨_, _, _, rfl, Int.emod_nonneg _ (by omega), .inr (Int.emod_lt_of_pos _ (by omega)), by omega, by omega⟩
    · rw [if_neg hm, if_neg (by omega), Int.tmod_eq_emod_of_nonneg x0]
      exact ⟨_, _, _, rfl, Int.emod_nonneg _ (by omega), .inr (Int.emod_lt_of_pos _ (by omega)), by omega, by omega⟩
theorem of_ok (l : List Int) (hl : Code l) (a s : Int) (t : List ByteArray) (ht : t ≠ []) (h0 : 0 ≤ a) (h1 : a ≤ 100000000000000) : ∃ x a' s', spec_l1Cur_of.f l a s t = some (x, a', s') ∧ x ∈ t ∧ a ≤ a' ∧ a' ≤ a + 2 := by
  unfold spec_l1Cur_of.f
  obtain ⟨x, a', s', e, x0, x1, b0, b1⟩ := pick_ok l hl a s (t.length : Int) h0 h1
  have hp : 0 < t.length := List.length_pos_iff.2 ht
  rw [e, Option.bind_some]
  dsimp only
  rw [if_pos x0, if_pos (by omega)]
  refine ⟨_, _, _, rfl, ?_, b0, b1⟩
  unfold rdOf
  have hx : x.toNat < t.length := by omega
  rw [List.getD_eq_getElem?_getD, List.getElem?_eq_getElem hx]
  exact List.getElem_mem hx
theorem one_ok (l : List Int) (hl : Code l) (a s n : Int) (h0 : 0 ≤ a) (h1 : a ≤ 100000000000000) : ∃ b a' s', spec_l1Cur_one.f l a s n = some (b, a', s') ∧ a ≤ a' ∧ a' ≤ a + 2 := by
  unfold spec_l1Cur_one.f
  obtain ⟨x, a', s', e, x0, x1, b0, b1⟩ := pick_ok l hl a s n h0 h1
  rw [e, Option.bind_some]
  exact ⟨_, _, _, rfl, b0, b1⟩
end Go.Proofs.YtgclcjohnnpejaaDoor.PureL
end

section
set_option linter.unusedVariables false
set_option linter.unusedSimpArgs false
namespace Go.Proofs.YtgclcjohnnpejaaDoor.PureL
open Go.RowKit Go.Proofs.YtgclcjohnnpejaaDoor.Pr Go.Proofs.YtgclcjohnnpejaaDoorW.PrintWords Go.Proofs.YtgclcjohnnpejaaDoorW.PrintLast
def cmds : List ByteArray := [(⟨#[114, 117, 110, 32, 48, 32, 49]⟩ : ByteArray), (⟨#[100, 114, 111, 112, 32, 48, 32, 49]⟩ : ByteArray), (⟨#[120]⟩ : ByteArray), (⟨#[102, 117, 101, 108, 32, 57]⟩ : ByteArray), (⟨#[48, 32, 49]⟩ : ByteArray)]
def reps : List ByteArray := [(⟨#[]⟩ : ByteArray), (⟨#[51]⟩ : ByteArray), (⟨#[63]⟩ : ByteArray), (⟨#[97, 64, 98]⟩ : ByteArray), (⟨#[51, 32, 49, 32, 50]⟩ : ByteArray)]
def badc : List ByteArray := [(⟨#[]⟩ : ByteArray), (⟨#[97, 64, 98]⟩ : ByteArray), (⟨#[97, 35]⟩ : ByteArray), (⟨#[10]⟩ : ByteArray), Go.strOfNums (List.replicate 3 0)]
def badr : List ByteArray := [(⟨#[35]⟩ : ByteArray), (⟨#[10]⟩ : ByteArray), (⟨#[127]⟩ : ByteArray)]
theorem cmds_s : ∀ x ∈ cmds, x.size ≤ 20 := by decide
theorem reps_s : ∀ x ∈ reps, x.size ≤ 20 := by decide
theorem badc_s : ∀ x ∈ badc, x.size ≤ 20 := by decide
theorem badr_s : ∀ x ∈ badr, x.size ≤ 20 := by decide
theorem logRecord_ok (l : List Int) (hl : Code l) (a s : Int) (h0 : 0 ≤ a) (h1 : a ≤ 10000000000000) : ∃ c r a' s', spec_l1Cur_logRecord.f l a s = some (c, r, a', s') ∧ c.size ≤ 20 ∧ r.size ≤ 20 ∧ a ≤ a' ∧ a' ≤ a + 8 := by
  unfold spec_l1Cur_logRecord.f
  obtain ⟨c, a1, s1, e1, m1, b1, b2⟩ := of_ok l hl a s cmds (by simp [cmds]) h0 (by omega)
  obtain ⟨r, a2, s2, e2, m2, b3, b4⟩ := of_ok l hl a1 s1 reps (by simp [reps]) (by omega) (by omega)
  obtain ⟨x, a3, s3, e3, x0, x1, b5, b6⟩ := pick_ok l hl a2 s2 24 (by omega) (by omega)
  obtain ⟨c', a4, s4, e4, m4, b7, b8⟩ := of_ok l hl a3 s3 badc (by simp [badc]) (by omega) (by omega)
  obtain ⟨r', a5, s5, e5, m5, b9, b10⟩ := of_ok l hl a3 s3 badr (by simp [badr]) (by omega) (by omega)
  unfold cmds at e1
  unfold reps at e2
  unfold badc at e4
  unfold badr at e5
  have q1 := cmds_s c m1
  have q2 := reps_s r m2
  have q4 := badc_s c' m4
  have q5 := badr_s r' m5
  rw [e1, Option.bind_some]
  dsimp only
  rw [e2, Option.bind_some]
  dsimp only
  rw [e3, Option.bind_some]
  dsimp only
  by_cases c0 : x = 0
  · rw [if_pos c0, if_pos (by omega), e4, Option.bind_some]
    exact ⟨_, _, _, _, rfl, q4, q2, by dsimp only; omega, by dsimp only; omega⟩
  · rw [if_neg c0]
    by_cases c1 : x = 1
    · rw [if_pos c1, e5, Option.bind_some]
      exact ⟨_, _, _, _, rfl, q1, q5, by dsimp only; omega, by dsimp only; omega⟩
    · rw [if_neg c1]
      exact ⟨_, _, _, _, rfl, q1, q2, by omega, by omega⟩
def Small (a b : ByteArray) (n : Int) : Prop := a.size + b.size ≤ 40000 ∧ 0 ≤ n ∧ n ≤ 1000
theorem log12_l (l : List Int) (hl : Code l) : ∀ (d : Nat) (x a s : Int) (D P : ByteArray) (n : Int), x ≤ d → x ≤ 10 → 0 ≤ a → a ≤ 1000000000000 - 100 * x → Small D P n →
    ∃ D' P' n' a' s', Small D' P' n' ∧ a ≤ a' ∧ a' ≤ a + 20 * d ∧ ∀ k, 60000000 + d < k → spec_l1Cur_log12.l0 k x l a s D P n = some (D', P', n', a', s') := by
  intro d
  induction d with
  | zero =>
    intro x a s D P n hx hx2 h0 h1 hs
    refine ⟨D, P, n, a, s, hs, by omega, by omega, fun k hk => ?_⟩
    obtain ⟨k, rfl⟩ : ∃ z, k = z + 1 := ⟨k - 1, by omega⟩
    unfold spec_l1Cur_log12.l0
    rw [if_neg (by omega)]
  | succ d ih =>
    intro x a s D P n hx hx2 h0 h1 hs
    by_cases hp : x > 0
    · obtain ⟨c, r, a1, s1, e1, q1, q2, b1, b2⟩ := logRecord_ok l hl a s h0 (by omega)
      have hz1 : D.size ≤ 40000 := by have := hs.1; omega
      have hz2 : P.size ≤ 40000 := by have := hs.1; omega
      have hA := append_A D P n c r (by omega) (by omega) (by omega) (by omega)
      have hsm := appR_small D P n c r hs.1 hs.2
      generalize AppR D P n c r = R at hA hsm
      obtain ⟨p, q, m, e⟩ := R
      dsimp only at hsm
      obtain ⟨o, a2, s2, e2, b3, b4⟩ := one_ok l hl a1 s1 4 (by omega) (by omega)
      have hS := sync_A p q m (by omega) (by omega)
      cases o with
      | true =>
        have hsz : Small (if Valid p q m then (p ++ q, (⟨#[]⟩ : ByteArray), m, true) else (⟨#[]⟩, ⟨#[]⟩, 0, false)).1 (if Valid p q m then (p ++ q, (⟨#[]⟩ : ByteArray), m, true) else (⟨#[]⟩, ⟨#[]⟩, 0, false)).2.1 (if Valid p q m then (p ++ q, (⟨#[]⟩ : ByteArray), m, true) else (⟨#[]⟩, ⟨#[]⟩, 0, false)).2.2.1 := by
          split
          · refine ⟨?_, hsm.2⟩
            dsimp only
            rw [size_add]
            exact hsm.1
          · exact ⟨by decide, Int.le_refl 0, by decide⟩
        obtain ⟨D', P', n', a', s', w1, w2, w3, w4⟩ := ih (x - 1) a2 s2 _ _ _ (by omega) (by omega) (by omega) (by omega) hsz
        refine ⟨D', P', n', a', s', w1, by omega, by omega, fun k hk => ?_⟩
        obtain ⟨k, rfl⟩ : ∃ z, k = z + 1 := ⟨k - 1, by omega⟩
        unfold spec_l1Cur_log12.l0
        rw [if_pos hp, e1, Option.bind_some]
        dsimp only
        rw [(hA k (by omega)).1, Option.bind_some]
        dsimp only
        rw [e2, Option.bind_some, if_pos rfl, (hS k (by omega)).1, Option.bind_some, wrap_in (by omega) (by omega)]
        exact w4 k (by omega)
      | false =>
        obtain ⟨D', P', n', a', s', w1, w2, w3, w4⟩ := ih (x - 1) a2 s2 p q m (by omega) (by omega) (by omega) (by omega) hsm
        refine ⟨D', P', n', a', s', w1, by omega, by omega, fun k hk => ?_⟩
        obtain ⟨k, rfl⟩ : ∃ z, k = z + 1 := ⟨k - 1, by omega⟩
        unfold spec_l1Cur_log12.l0
        rw [if_pos hp, e1, Option.bind_some]
        dsimp only
        rw [(hA k (by omega)).1, Option.bind_some]
        dsimp only
        rw [e2, Option.bind_some, if_neg (by simp), wrap_in (by omega) (by omega)]
        exact w4 k (by omega)
    · refine ⟨D, P, n, a, s, hs, by omega, by omega, fun k hk => ?_⟩
      obtain ⟨k, rfl⟩ : ∃ z, k = z + 1 := ⟨k - 1, by omega⟩
      unfold spec_l1Cur_log12.l0
      rw [if_neg hp]
theorem log12_ok (l : List Int) (hl : Code l) : ∃ D P n a s, Small D P n ∧ 0 ≤ a ∧ a ≤ 1000 ∧ ∀ k, 70000000 < k → spec_l1Cur_log12.f k l 0 0 = some (D, P, n, a, s) := by
  obtain ⟨x, a, s, e, x0, x1, b0, b1⟩ := pick_ok l hl 0 0 7 (by omega) (by omega)
  obtain ⟨D, P, n, a', s', h1, h2, h3, h4⟩ := log12_l l hl 7 x a s ⟨#[]⟩ ⟨#[]⟩ 0 (by omega) (by omega) (by omega) (by omega) ⟨by decide, by omega, by omega⟩
  refine ⟨D, P, n, a', s', h1, by omega, by omega, fun k hk => ?_⟩
  unfold spec_l1Cur_log12.f
  rw [e, Option.bind_some]
  exact h4 k (by omega)
end Go.Proofs.YtgclcjohnnpejaaDoor.PureL
end

section
set_option linter.unusedVariables false
set_option linter.unusedSimpArgs false
namespace Go.Proofs.YtgclcjohnnpejaaDoor.PureL
open Go.RowKit Go.Proofs.YtgclcjohnnpejaaDoor.Pr Go.Proofs.YtgclcjohnnpejaaDoorW.PrintWords Go.Proofs.YtgclcjohnnpejaaDoorW.PrintLast
theorem extract_le (t : ByteArray) (i j : Nat) : (t.extract i j).size ≤ t.size := by rw [ByteArray.size_extract]; omega
theorem spoilt_ok (l : List Int) (hl : Code l) (a s : Int) (t w : ByteArray) (hw : 0 < w.size) (ht : t.size ≤ 1000000) (hw2 : w.size ≤ 1000) (h0 : 0 ≤ a) (h1 : a ≤ 1000000000000) :
    ∃ r a' s', spec_l1Cur_spoilt.f l a s t w = some (r, a', s') ∧ r.size ≤ t.size + 1 ∧ a ≤ a' ∧ a' ≤ a + 10 := by
  unfold spec_l1Cur_spoilt.f
  by_cases h : t.toList = []
  · rw [if_pos h, if_pos (by omega), if_pos (by omega)]
    refine ⟨_, _, _, rfl, ?_, by omega, by omega⟩
    rw [ByteArray.size_extract]
    omega
  · rw [if_neg h]
    have htp : 0 < t.size := by
      rw [size_L]
      rw [L_toList] at h
      exact List.length_pos_iff.2 h
    obtain ⟨i, a1, s1, e1, i0, i1, b1, b2⟩ := pick_ok l hl a s (t.size : Int) h0 (by omega)
    obtain ⟨j, a2, s2, e2, j0, j1, b3, b4⟩ := pick_ok l hl a1 s1 (w.size : Int) (by omega) (by omega)
    obtain ⟨x, a3, s3, e3, x0, x1, b5, b6⟩ := pick_ok l hl a2 s2 3 (by omega) (by omega)
    have hi : i < t.size := by omega
    have hj : j < w.size := by omega
    rw [e1, Option.bind_some]
    dsimp only
    rw [e2, Option.bind_some]
    dsimp only
    rw [if_pos j0, if_pos (by omega), if_pos (by omega), if_pos (by omega), e3, Option.bind_some]
    dsimp only
    have z1 : (t.extract 0 i.toNat).size = i.toNat := by rw [ByteArray.size_extract]; omega
    have z2 : ((w.extract j.toNat w.size).extract 0 1).size = 1 := by rw [ByteArray.size_extract, ByteArray.size_extract]; omega
    have z3 : (t.extract i.toNat t.size).size = t.size - i.toNat := by rw [ByteArray.size_extract]; omega
    have z4 : (t.extract (i + 1).toNat t.size).size = t.size - (i.toNat + 1) := by rw [ByteArray.size_extract]; omega
    by_cases c0 : x = 0
    · rw [if_pos c0, if_pos i0, if_pos (by omega), z1, z2, if_pos (by omega), if_pos (by omega)]
      refine ⟨_, _, _, rfl, ?_, by omega, by omega⟩
      rw [size_add, size_add, z1, z2, z3]
      omega
    · rw [if_neg c0]
      by_cases c1 : x = 1
      · rw [if_pos c1, if_pos i0, if_pos (by omega), z1, z2, if_pos (by omega), wrap_in (by omega) (by omega), if_pos (by omega), if_pos (by omega), if_pos (by omega)]
        refine ⟨_, _, _, rfl, ?_, by omega, by omega⟩
        rw [size_add, size_add, z1, z2, z4]
        omega
      · rw [if_neg c1, if_pos i0, if_pos (by omega), z1, wrap_in (by omega) (by omega), if_pos (by omega), if_pos (by omega), if_pos (by omega)]
        refine ⟨_, _, _, rfl, ?_, by omega, by omega⟩
        rw [size_add, z1, z4]
        omega
def Small2 (a b : ByteArray) (n : Int) : Prop := a.size ≤ 50000 ∧ b.size ≤ 50000 ∧ 0 ≤ n ∧ n ≤ 1001
theorem marks5 : 0 < (⟨#[35, 64, 10, 48, 49]⟩ : ByteArray).size ∧ (⟨#[35, 64, 10, 48, 49]⟩ : ByteArray).size ≤ 1000 := by decide
theorem anyLog_ok (l : List Int) (hl : Code l) : ∃ D P n a s, Small2 D P n ∧ 0 ≤ a ∧ a ≤ 2000 ∧ ∀ k, 70000000 < k → spec_l1Cur_anyLog.f k l 0 0 = some (D, P, n, a, s) := by
  obtain ⟨D, P, n, a, s, ⟨h1, h2, h3⟩, h4, h5, h6⟩ := log12_ok l hl
  obtain ⟨x, a1, s1, e1, x0, x1, b1, b2⟩ := pick_ok l hl a s 24 h4 (by omega)
  obtain ⟨r, a2, s2, e2, r1, b3, b4⟩ := spoilt_ok l hl a1 s1 P (⟨#[35, 64, 10, 48, 49]⟩ : ByteArray) marks5.1 (by omega) marks5.2 (by omega) (by omega)
  by_cases c0 : x = 0
  · refine ⟨D, P, n + 1, a1, s1, ⟨by omega, by omega, by omega, by omega⟩, by omega, by omega, fun k hk => ?_⟩
    unfold spec_l1Cur_anyLog.f
    rw [h6 k hk, Option.bind_some]
    dsimp only
    rw [e1, Option.bind_some]
    dsimp only
    rw [if_pos c0, wrap_in (by omega) (by omega)]
  · by_cases c1 : x = 1
    · refine ⟨D, r, n, a2, s2, ⟨by omega, by omega, by omega, by omega⟩, by omega, by omega, fun k hk => ?_⟩
      unfold spec_l1Cur_anyLog.f
      rw [h6 k hk, Option.bind_some]
      dsimp only
      rw [e1, Option.bind_some]
      dsimp only
      rw [if_neg c0, if_pos c1, e2, Option.bind_some]
    · by_cases c2 : x = 2
      · refine ⟨D ++ P, P, n, a1, s1, ⟨by rw [size_add]; omega, by omega, by omega, by omega⟩, by omega, by omega, fun k hk => ?_⟩
        unfold spec_l1Cur_anyLog.f
        rw [h6 k hk, Option.bind_some]
        dsimp only
        rw [e1, Option.bind_some]
        dsimp only
        rw [if_neg c0, if_neg c1, if_pos c2, if_pos (by omega)]
      · refine ⟨D, P, n, a1, s1, ⟨by omega, by omega, by omega, by omega⟩, by omega, by omega, fun k hk => ?_⟩
        unfold spec_l1Cur_anyLog.f
        rw [h6 k hk, Option.bind_some]
        dsimp only
        rw [e1, Option.bind_some]
        dsimp only
        rw [if_neg c0, if_neg c1, if_neg c2]
theorem drawCrash_ok (l : List Int) (hl : Code l) : ∃ D P n keep t, Small2 D P n ∧ ∀ k, 70000000 < k → spec_DrawCrashLog.f k l = some (D, P, n, keep, t) := by
  obtain ⟨D, P, n, a, s, h1, h4, h5, h6⟩ := anyLog_ok l hl
  have hs := h1
  obtain ⟨q1, q2, q3, q4⟩ := hs
  obtain ⟨x, a1, s1, e1, x0, x1, b1, b2⟩ := pick_ok l hl a s ((P.size : Int) + 3) h4 (by omega)
  obtain ⟨o, a2, s2, e2, b3, b4⟩ := one_ok l hl a1 s1 2 (by omega) (by omega)
  refine ⟨D, P, n, x - 1, o, h1, fun k hk => ?_⟩
  unfold spec_DrawCrashLog.f
  rw [h6 k hk, Option.bind_some]
  dsimp only
  rw [wrap_in (by omega) (by omega), e1, Option.bind_some]
  dsimp only
  rw [e2, Option.bind_some, wrap_in (by omega) (by omega)]
theorem vCut_ok (l : List Int) (hl : Code l) (n : Int) (hn : 0 ≤ n ∧ n ≤ 200) (hlen : l.length ≤ 70000) : ∃ m, Code m ∧ m.length ≤ 70001 ∧ ∀ k, 5 < k → laws_vCut.f k l n = some m := by
  have main : ∀ i : Int, 0 ≤ i → i ≤ (l.length : Int) → i ≤ 70000 → ∃ m, Code m ∧ m.length ≤ 70001 ∧ ∀ k, 4 < k → laws_vCut.j0 k l i = some m := by
    intro i h0 h1 h2
    refine ⟨([] ++ l.drop i.toNat) ++ [i % 256], ?_, by simp; omega, fun k hk => ?_⟩
    · intro x hx
      simp only [List.nil_append, List.mem_append, List.mem_singleton] at hx
      rcases hx with h | h
      · exact hl x (List.mem_of_mem_drop h)
      · omega
    · obtain ⟨k, rfl⟩ : ∃ z, k = z + 1 := ⟨k - 1, by omega⟩
      rw [laws_vCut.j0, Option.bind_some, if_pos h0, if_pos h1, if_pos (by simp; omega), Option.bind_some, if_pos (by simp; omega)]
  unfold laws_vCut.f
  by_cases c : n > (l.length : Int)
  · obtain ⟨m, m1, m2, m3⟩ := main (l.length : Int) (by omega) (by omega) (by omega)
    exact ⟨m, m1, m2, fun k hk => by rw [if_pos c]; exact m3 k (by omega)⟩
  · obtain ⟨m, m1, m2, m3⟩ := main n (by omega) (by omega) (by omega)
    exact ⟨m, m1, m2, fun k hk => by rw [if_neg c]; exact m3 k (by omega)⟩
theorem drawRecover_j (l : List Int) (hl : Code l) (t : ByteArray) (a s : Int) (ht : t.size ≤ 900000) (h0 : 0 ≤ a) (h1 : a ≤ 1000000) : ∃ r, r.size ≤ 900000 ∧ ∀ k, 5 < k → spec_DrawRecoverLog.j0 k t l a s = some r := by
  obtain ⟨o, a2, s2, e2, b3, b4⟩ := one_ok l hl a s 40 h0 (by omega)
  obtain ⟨x, a1, s1, e1, x0, x1, b1, b2⟩ := pick_ok l hl a2 s2 2 (by omega) (by omega)
  cases o with
  | true =>
    refine ⟨Go.strOfNums (List.replicate (30000 + x).toNat 0), by rw [Go.strOfNums_size, List.length_replicate]; omega, fun k hk => ?_⟩
    obtain ⟨k, rfl⟩ : ∃ z, k = z + 1 := ⟨k - 1, by omega⟩
    rw [spec_DrawRecoverLog.j0, e2, Option.bind_some]
    dsimp only
    rw [if_pos rfl, e1, Option.bind_some]
    dsimp only
    rw [wrap_in (by omega) (by omega), if_pos (by omega), if_pos (by omega)]
  | false =>
    refine ⟨t, ht, fun k hk => ?_⟩
    obtain ⟨k, rfl⟩ : ∃ z, k = z + 1 := ⟨k - 1, by omega⟩
    rw [spec_DrawRecoverLog.j0, e2, Option.bind_some]
    dsimp only
    rw [if_neg (by simp)]
theorem line_size (n : Int) (c r : ByteArray) (h0 : 0 ≤ n) (h1 : n < 1000) (hc : c.size ≤ 20) (hr : r.size ≤ 20) : (encL n (L c) (L r)).length ≤ 1000 := by
  have a1 := text_len (n := n) (c := L c) (r := L r) h0 (by omega)
  have a2 := seal_len (textL n (L c) (L r))
  rw [← size_L, ← size_L] at a1
  unfold encL
  rw [List.length_append, List.length_singleton]
  omega
theorem drawRecover_ok (l : List Int) (hl : Code l) : ∃ r, r.size ≤ 900000 ∧ ∀ k, 80000000 < k → spec_DrawRecoverLog.f k l = some r := by
  obtain ⟨D, P, n, a, s, ⟨h1, h2, h3⟩, h4, h5, h6⟩ := log12_ok l hl
  obtain ⟨x, a1, s1, e1, x0, x1, b1, b2⟩ := pick_ok l hl a s 4 h4 (by omega)
  have hsz : (D ++ P).size = D.size + P.size := size_add D P
  obtain ⟨t, a2, s2, e2, t1, b3, b4⟩ := spoilt_ok l hl a1 s1 (D ++ P) (⟨#[35, 64, 10, 48, 49]⟩ : ByteArray) marks5.1 (by omega) marks5.2 (by omega) (by omega)
  obtain ⟨y, a3, s3, e3, y0, y1, b5, b6⟩ := pick_ok l hl a1 s1 ((D.size : Int) + (P.size : Int) + 1) (by omega) (by omega)
  obtain ⟨z, a4, s4, e4, z0, z1, b7, b8⟩ := pick_ok l hl a1 s1 4 (by omega) (by omega)
  obtain ⟨c, r, a5, s5, e5, c1, c2, b9, b10⟩ := logRecord_ok l hl a4 s4 (by omega) (by omega)
  have hz := line_size z c r (by omega) (by omega) c1 c2
  have hz2 : (⟨(encL z (L c) (L r)).toArray⟩ : ByteArray).size = (encL z (L c) (L r)).length := B_size _
  by_cases k0 : x = 0
  · obtain ⟨R, r1, r2⟩ := drawRecover_j l hl t a2 s2 (by omega) (by omega) (by omega)
    refine ⟨R, r1, fun k hk => ?_⟩
    unfold spec_DrawRecoverLog.f
    rw [h6 k (by omega), Option.bind_some]
    dsimp only
    rw [if_pos (by omega), e1, Option.bind_some]
    dsimp only
    rw [if_pos k0, e2, Option.bind_some]
    exact r2 k (by omega)
  · by_cases k1 : x = 1
    · obtain ⟨R, r1, r2⟩ := drawRecover_j l hl ((D ++ P).extract 0 y.toNat) a3 s3 (by have := extract_le (D ++ P) 0 y.toNat; omega) (by omega) (by omega)
      refine ⟨R, r1, fun k hk => ?_⟩
      unfold spec_DrawRecoverLog.f
      rw [h6 k (by omega), Option.bind_some]
      dsimp only
      rw [if_pos (by omega), e1, Option.bind_some]
      dsimp only
      rw [if_neg k0, if_pos k1, wrap_in (by omega) (by omega), e3, Option.bind_some]
      dsimp only
      rw [if_pos y0, if_pos (by omega)]
      exact r2 k (by omega)
    · by_cases k2 : x = 2
      · obtain ⟨R, r1, r2⟩ := drawRecover_j l hl ((D ++ P) ++ ⟨(encL z (L c) (L r)).toArray⟩) a5 s5 (by rw [size_add, hz2]; omega) (by omega) (by omega)
        refine ⟨R, r1, fun k hk => ?_⟩
        unfold spec_DrawRecoverLog.f
        rw [h6 k (by omega), Option.bind_some]
        dsimp only
        rw [if_pos (by omega), e1, Option.bind_some]
        dsimp only
        rw [if_neg k0, if_neg k1, if_pos k2, e4, Option.bind_some]
        dsimp only
        rw [e5, Option.bind_some]
        dsimp only
        rw [spec_line z c r k (by omega) (by omega) (by omega) (by omega) (by omega), Option.bind_some, hz2, if_pos (by omega)]
        exact r2 k (by omega)
      · obtain ⟨R, r1, r2⟩ := drawRecover_j l hl (D ++ P) a1 s1 (by omega) (by omega) (by omega)
        refine ⟨R, r1, fun k hk => ?_⟩
        unfold spec_DrawRecoverLog.f
        rw [h6 k (by omega), Option.bind_some]
        dsimp only
        rw [if_pos (by omega), e1, Option.bind_some]
        dsimp only
        rw [if_neg k0, if_neg k1, if_neg k2]
        exact r2 k (by omega)
end Go.Proofs.YtgclcjohnnpejaaDoor.PureL
end

section
set_option linter.unusedVariables false
set_option linter.unusedSimpArgs false
namespace Go.Proofs.YtgclcjohnnpejaaDoor.PureL
open Go.RowKit Go.Proofs.YtgclcjohnnpejaaDoor.Pr Go.Proofs.YtgclcjohnnpejaaDoorW.PrintWords Go.Proofs.YtgclcjohnnpejaaDoorW.PrintLast
theorem crashed_left (u : ByteArray) (t m : Bool) (h : m = true → 0 < u.size) : Left (L u) (L (crashed u t m)) := by
  unfold crashed
  cases hb : (t && m) with
  | false =>
    simp only [Bool.false_eq_true, if_false]
    rw [strOf_bytes]
    exact .inl rfl
  | true =>
    have hm : m = true := by cases t <;> cases m <;> simp_all
    have hs := h hm
    simp only [if_true]
    rcases List.eq_nil_or_concat (L u) with h0 | ⟨w, x, hw⟩
    · rw [size_L, h0] at hs; simp at hs
    · rw [List.concat_eq_append] at hw
      have hsz : u.size = w.length + 1 := by rw [size_L, hw, List.length_append, List.length_singleton]
      refine .inr ⟨x, UInt8.ofNat ((255 - (x.toNat : Int)) % 256).toNat, w, hw, ?_, ?_⟩
      · have hbt : bt u ((u.size - 1 : Nat) : Int) = (x.toNat : Int) := by
          have hlt : u.size - 1 < (L u).length := by rw [← size_L]; omega
          rw [bt_get u _ hlt]
          congr 2
          simp only [hw, show u.size - 1 = w.length by omega]
          rw [List.getElem_append_right (Nat.le_refl _)]
          simp
        unfold tornL
        rw [L_strOf, hbt, bytesOf_L, hw, List.map_append, List.set_append_right _ _ (by rw [List.length_map]; omega), List.length_map, show u.size - 1 - w.length = 0 by omega, List.map_append]
        have e : (List.map (fun b : UInt8 => (b.toNat : Int)) [x]).set 0 ((255 - (x.toNat : Int)) % 256) = [(255 - (x.toNat : Int)) % 256] := rfl
        rw [e]
        congr 1
        rw [List.map_map]
        have : ∀ l : List UInt8, l.map ((fun n : Int => UInt8.ofNat n.toNat) ∘ fun b : UInt8 => (b.toNat : Int)) = l := by
          intro l
          induction l with
          | nil => rfl
          | cons b l ih => rw [List.map_cons, ih]; simp
        exact this w
      · have hx := x.toNat_lt
        rw [UInt8.toNat_ofNat']
        omega
theorem crash_law (D P : ByteArray) (n keep : Int) (t : Bool) (hv : Valid D P n) (h0 : 0 ≤ keep) (h1 : keep ≤ (P.size : Int)) :
    (D ++ crashed (P.extract 0 keep.toNat) t (decide (keep > 0))).size ≤ 30000 ∧
    D.size ≤ (rdA 0 (L (D ++ crashed (P.extract 0 keep.toNat) t (decide (keep > 0))))).2 ∧
    (rdA 0 (L (D ++ crashed (P.extract 0 keep.toNat) t (decide (keep > 0))))).1 <+: (rdA 0 (L (D ++ P))).1 ∧
    (t = false → keep = (P.size : Int) → (rdA 0 (L (D ++ crashed (P.extract 0 keep.toNat) t (decide (keep > 0))))).1 = (rdA 0 (L (D ++ P))).1) := by
  have hx : (P.extract 0 keep.toNat).size = keep.toNat := by rw [ByteArray.size_extract]; omega
  have hu : L (P.extract 0 keep.toNat) = (L P).take keep.toNat := by rw [L_extract]; simp
  have hl := crashed_left (P.extract 0 keep.toNat) t (decide (keep > 0)) (fun h => by have := of_decide_eq_true h; rw [hx]; omega)
  have hcs := crashed_size (P.extract 0 keep.toNat) t (decide (keep > 0))
  obtain ⟨v1, v2, v3, v4⟩ := hv
  have hfull : (rdA 0 (L D)).2 = (L D).length := by rw [v3, size_L]
  generalize hC : crashed (P.extract 0 keep.toNat) t (decide (keep > 0)) = C at hl hcs ⊢
  have hA := rdA_append _ 0 (L D) (L C) (Nat.le_refl _) hfull
  have hB := rdA_append _ 0 (L D) (L P) (Nat.le_refl _) hfull
  rw [Nat.zero_add] at hA hB
  rw [← L_append] at hA hB
  rw [hB] at v2
  dsimp only at v2
  have hP : (rdA (rdA 0 (L D)).1.length (L P)).2 = (L P).length := by rw [← size_L] at v2; rw [← size_L]; omega
  refine ⟨by rw [size_add, hcs, hx]; omega, ?_, ?_, ?_⟩
  · rw [hA, size_L]
    dsimp only
    omega
  · rw [hA, hB]
    dsimp only
    rw [List.prefix_append_right_inj]
    exact rdA_left _ _ (L P) _ (L C) (Nat.le_refl _) hP (by rw [hu]; exact List.take_prefix _ _) hl
  · intro ht hk
    have : C = P := by
      rw [← hC, ht]
      show crashed _ false _ = _
      unfold crashed
      rw [show (false && decide (keep > 0)) = false from rfl]
      simp only [Bool.false_eq_true, if_false]
      rw [strOf_bytes]
      apply ext_L
      rw [hu, List.take_of_length_le (by rw [← size_L]; omega)]
    rw [this]
theorem vRecords_l (l : List S38) (hl : l.length ≤ 60) : ∀ (d i : Nat), d + i = l.length → ∀ k, d < k → laws_vRecords.l0 k l l i = some true := by
  intro d
  induction d with
  | zero =>
    intro i hd k hk
    obtain ⟨k, rfl⟩ : ∃ n, k = n + 1 := ⟨k - 1, by omega⟩
    unfold laws_vRecords.l0
    rw [if_neg (by omega)]
  | succ d ih =>
    intro i hd k hk
    obtain ⟨k, rfl⟩ : ∃ n, k = n + 1 := ⟨k - 1, by omega⟩
    unfold laws_vRecords.l0
    rw [if_pos (by omega), if_pos (by omega), if_pos (by omega), if_neg (by simp), wrap_in (by omega) (by omega)]
    exact ih (i + 1) (by omega) k (by omega)
theorem vRecords_same (l : List S38) (hl : l.length ≤ 60) (k : Nat) (hk : 60 < k) : laws_vRecords.f k l l = some true := by
  unfold laws_vRecords.f
  rw [if_pos rfl]
  exact vRecords_l l hl l.length 0 (by omega) k (by omega)
theorem FnCrashes (l0 : List Int) (hw : ∀ x ∈ l0, (Lit.int .u8 x).wf = true) : ∃ k, laws_FnCrashes.f k l0 = some true := by
  have hl := Code.of_wf hw
  by_cases hbig : (l0.length : Int) > 65536
  · refine ⟨0, ?_⟩
    unfold laws_FnCrashes.f laws_vBig.f
    rw [decide_eq_true hbig, Option.bind_some, if_pos rfl]
  · obtain ⟨D, P, n, keep, t, ⟨q1, q2, q3, q4⟩, hD⟩ := drawCrash_ok l0 hl
    obtain ⟨m, hm, hml, hM⟩ := vCut_ok l0 hl 1 (by omega) (by omega)
    obtain ⟨s, hs, hR⟩ := drawRecover_ok m hm
    have hC := crash_A D P n keep t (by omega) (by omega)
    have hrec := recover_A s (by omega)
    obtain ⟨k, hk⟩ : ∃ k, 90000000 < k := ⟨_, Nat.lt_succ_self _⟩
    have main : laws_FnCrashes.j0 (k + 1 + 1) keep t (CrashR D P n keep t).1 (CrashR D P n keep t).2 false D P n = some true := by
      rw [laws_FnCrashes.j0, if_neg (by simp)]
      by_cases hc : Valid D P n ∧ 0 ≤ keep ∧ keep ≤ (P.size : Int)
      · have hCR : CrashR D P n keep t = (D ++ crashed (P.extract 0 keep.toNat) t (decide (keep > 0)), true) := by unfold CrashR; rw [if_pos hc]
        obtain ⟨w1, w2, w3, w4⟩ := crash_law D P n keep t hc.1 hc.2.1 hc.2.2
        rw [hCR]
        dsimp only
        generalize hS : D ++ crashed (P.extract 0 keep.toNat) t (decide (keep > 0)) = S at *
        have hrs := (recover_A S (by omega) (k + 1) (by omega)).2
        have hRR : RecR S = (S.extract 0 (rdA 0 (L S)).2, ⟨#[]⟩, ((rdA 0 (L S)).1.length : Int), ((rdA 0 (L S)).2 : Int), true) := by unfold RecR; rw [if_neg (by omega)]
        rw [hRR] at hrs
        obtain ⟨u1, u2⟩ := recovered_valid S w1
        have hz : (S.extract 0 (rdA 0 (L S)).2).size = (rdA 0 (L S)).2 := by have := rdA_le 0 (L S); rw [← size_L] at this; rw [ByteArray.size_extract]; omega
        have hiv := (isValid_A (S.extract 0 (rdA 0 (L S)).2) ⟨#[]⟩ ((rdA 0 (L S)).1.length : Int) (by have := rdA_le 0 (L S); rw [← size_L] at this; omega) (by decide) (k + 1) (by omega)).2
        rw [decide_eq_true u1] at hiv
        rw [if_pos rfl, hrs, Option.bind_some]
        dsimp only
        rw [if_pos rfl, hiv, Option.bind_some, if_pos rfl, if_neg (by omega), hz]
        have hne : (((rdA 0 (L S)).2 : Int) != ((rdA 0 (L S)).2 : Int)) = false := by simp
        rw [hne, laws_FnCrashes.j1, if_neg (by simp)]
        have g1 := (logRecords_A D P n (by omega) (by omega) k (by omega)).2
        have g2 := (logRecords_A (S.extract 0 (rdA 0 (L S)).2) ⟨#[]⟩ ((rdA 0 (L S)).1.length : Int) (by have := rdA_le 0 (L S); rw [← size_L] at this; omega) (by decide) k (by omega)).2
        rw [if_pos hc.1] at g1
        rw [if_pos u1, u2] at g2
        rw [g1, Option.bind_some]
        dsimp only
        rw [g2, Option.bind_some]
        dsimp only
        have h60 := (read_A S (by omega)).2.1
        have hpl := w3.length_le
        rw [if_pos (by omega), if_pos (by omega), Int.toNat_natCast, ← List.prefix_iff_eq_take.1 w3, vRecords_same _ h60 _ (by omega), Option.bind_some, if_pos rfl]
        cases t with
        | true => rw [if_pos rfl]
        | false =>
          rw [if_neg (by simp)]
          by_cases hkp : keep < (P.size : Int)
          · rw [if_pos hkp]
          · rw [if_neg hkp, w4 rfl (by omega)]
            simp
      · have hCR : CrashR D P n keep t = (⟨#[]⟩, false) := by unfold CrashR; rw [if_neg hc]
        rw [hCR, if_neg (by simp)]
    refine ⟨k + 1 + 1, ?_⟩
    unfold laws_FnCrashes.f laws_vBig.f
    rw [decide_eq_false hbig, Option.bind_some, if_neg (by simp), hD _ (by omega), Option.bind_some]
    dsimp only
    rw [(hC _ (by omega)).1, (hC _ (by omega)).2, Option.bind_some, Option.bind_some, hM _ (by omega), Option.bind_some, hR _ (by omega), Option.bind_some, (hrec _ (by omega)).1, (hrec _ (by omega)).2, Option.bind_some, Option.bind_some, if_pos rfl, if_neg (by simp), if_neg (by simp), if_pos rfl]
    have hne : ((RecR s).2.2.2.2 != (RecR s).2.2.2.2) = false := by simp
    rw [hne]
    exact main
end Go.Proofs.YtgclcjohnnpejaaDoor.PureL
end
