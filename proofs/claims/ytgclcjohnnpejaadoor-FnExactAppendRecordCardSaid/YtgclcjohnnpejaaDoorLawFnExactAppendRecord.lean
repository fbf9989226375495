-- written by a program of this session (wip/tools) out of the translation; Lean checks it
import Derived.Test.YtgclcjohnnpejaaDoorPrx0
import Derived.Test.YtgclcjohnnpejaaDoorPrx1
import Derived.Test.YtgclcjohnnpejaaDoorPrx12
import Derived.Test.YtgclcjohnnpejaaDoorPrx14
import Derived.Test.YtgclcjohnnpejaaDoorPrx18
import Derived.Test.YtgclcjohnnpejaaDoorPrx19
import Derived.Test.YtgclcjohnnpejaaDoorPrx4
import Derived.Test.YtgclcjohnnpejaaDoorHLib
namespace Go.Proofs.YtgclcjohnnpejaaDoor.Pr
open Go.RowKit Go.Proofs.YtgclcjohnnpejaaDoorW.PrintWords Go.Proofs.YtgclcjohnnpejaaDoorW.PrintLast Go.Proofs.YtgclcjohnnpejaaDoorW.PrintMore
attribute [local go_sem] max2_int min2_int max_two min_two max_three min_three max_four min_four   -- for this text's walks alone
set_option linter.unusedVariables false
set_option linter.unusedSimpArgs false

set_option hygiene false in
local macro "zq0" : tactic => `(tactic| (repeat (first | refine blk_drewN ?_ _ | refine blk_drew ?_ | refine blk_alloc ?_ _)))
set_option hygiene false in
local macro "zq1" : tactic => `(tactic| (repeat (first | (with_reducible first | exact HB.out | apply below_alloc | apply pw_below_drewN | apply below_drew1 | refine below_set ?_ GE246.out | refine below_set ?_ GE247.out | refine below_set ?_ GE259.out) | exact HB.out)))
set_option hygiene false in
local macro "zq2" : tactic => `(tactic| (simp only [Act.put, List.setIfInBounds_toArray, List.set_cons_zero, List.set_cons_succ, i64_w, i32_w]))
set_option hygiene false in
local macro "zq3" : tactic => `(tactic| (refine hK.out _ _ ⟨(blk_cell BK246.out 0).trans rfl, (blk_cell BK246.out 1).trans rfl, (blk_cell BK246.out 2).trans rfl, (blk_cell BK247.out 0).trans rfl, (blk_cell BK247.out 1).trans rfl⟩ (fun hHeld => ?_)))
set_option hygiene false in
local macro "zq4" : tactic => `(tactic| (repeat (first | (with_reducible first | exact HB.out | apply below_alloc | apply pw_below_drewN | apply below_drew1 | refine below_set ?_ GE246.out | refine below_set ?_ GE247.out) | exact HB.out)))
set_option hygiene false in
local macro "zq5" : tactic => `(tactic| (have n0_ := Aside0.mk (blk_below (g := gb246) (o := .cells #[.string a0_0, .string a0_1, .int .i64 a0_2] 47 (0, 0)) (by (with_reducible zq0); exact BK246.out) hb)))
set_option hygiene false in
local macro "zq6" : tactic => `(tactic| (repeat (first | (with_reducible first | exact HB.out | apply below_alloc | apply pw_below_drewN | apply below_drew1 | refine below_set ?_ GE246.out | refine below_set ?_ GE247.out | refine below_set ?_ GE259.out | refine below_set ?_ GE269.out) | exact HB.out)))
set_option hygiene false in
local macro "zq7" : tactic => `(tactic| (have n1_ := Aside0.mk (blk_below (g := gb247) (o := .cells #[.string a1_0, .string a1_1] 35 (0, 0)) (by (with_reducible zq0); exact BK247.out) hb)))
set_option hygiene false in
local macro "zq8" : tactic => `(tactic| (have n2_ := Aside0.mk (blk_below (g := gb259) (o := .cells #[.string t255, .string t256, .int .i64 t257] 42 (0, 0)) (by (with_reducible zq0); exact BK259.out) hb)))
set_option hygiene false in
local macro "zq9" : tactic => `(tactic| (exact norm_ (by simp only [putAll, Act.put, List.setIfInBounds_toArray, List.set_cons_zero, List.set_cons_succ]) (hCont (gb269) _ ⟨hHeld, (by (with_reducible zq0); exact BK246.out), (by (with_reducible zq0); exact BK247.out), (by (with_reducible zq0); exact BK259.out), (by (with_reducible zq0); exact BK269.out), GW269.out, GE269.out, NB246_269.out, NB269_246.out, NB247_269.out, NB269_247.out, NB259_269.out, NB269_259.out, (by zq6)⟩)))
set_option hygiene false in
local macro "zq10" : tactic => `(tactic| (repeat (first | (with_reducible first | exact HB.out | apply below_alloc | apply pw_below_drewN | apply below_drew1 | refine below_set ?_ GE246.out) | exact HB.out)))
set_option hygiene false in
local macro "zq11" : tactic => `(tactic| (refine goes_ Tryd.func25 (by kernel_rfl) rfl #[.agg #[.string a1_0, .string a1_1]] (by rfl) rfl rfl (by (try simp only [List.map_toArray, List.map_cons, List.map_nil]); first | done | rfl | (simp only [List.length_drop, List.length_take]; rfl)) ?_))
set_option hygiene false in
local macro "zq12" : tactic => `(tactic| (exact norm_ (by simp only [putAll, Act.put, List.setIfInBounds_toArray, List.set_cons_zero, List.set_cons_succ]) (hCont (gb259) _ ⟨hHeld, (by (with_reducible zq0); exact BK246.out), (by (with_reducible zq0); exact BK247.out), (by (with_reducible zq0); exact BK259.out), GW259.out, GE259.out, NB246_259.out, NB259_246.out, NB247_259.out, NB259_247.out, (by zq1)⟩)))
set_option hygiene false in
local macro "zq13" : tactic => `(tactic| (repeat (first | (with_reducible first | exact HB.out | apply below_alloc | apply pw_below_drewN | apply below_drew1) | exact HB.out)))
set_option hygiene false in
local macro "zq14" : tactic => `(tactic| (have n2_ := Aside0.mk (blk_below (g := gb259) (o := .cells #[.string (⟨#[]⟩ : ByteArray), .string (⟨#[]⟩ : ByteArray), .int .i64 0] 42 (0, 0)) (by (with_reducible zq0); exact BK259.out) hb)))
set_option hygiene false in
local macro "zq15" : tactic => `(tactic| (have n3_ := Aside0.mk (blk_below (g := gb269) (o := .cells #[.string (⟨#[]⟩ : ByteArray), .string (⟨#[]⟩ : ByteArray), .int .i64 0] 42 (0, 0)) (by (with_reducible zq0); exact BK269.out) hb)))
set_option hygiene false in
local macro "zq16" : tactic => `(tactic| (refine goes_ Tryd.func38 (by kernel_rfl) rfl #[.agg #[.string t250, .string t251, .int .i64 t252], .agg #[.string t253, .string t254]] (by rfl) rfl rfl (by (try simp only [List.map_toArray, List.map_cons, List.map_nil]); first | done | rfl | (simp only [List.length_drop, List.length_take]; rfl)) ?_))
set_option hygiene false in
local macro "zq17" : tactic => `(tactic| (refine goes_ Tryd.func39 (by kernel_rfl) rfl #[.agg #[.string t260, .string t261, .int .i64 t262], .agg #[.string t263, .string t264]] (by rfl) rfl rfl (by (try simp only [List.map_toArray, List.map_cons, List.map_nil]); first | done | rfl | (simp only [List.length_drop, List.length_take]; rfl)) ?_))
set_option hygiene false in
local macro "zq18" : tactic => `(tactic| (refine goes_ Tryd.func32 (by kernel_rfl) rfl #[.agg #[.string a0_0, .string a0_1, .int .i64 a0_2]] (by rfl) rfl rfl (by (try simp only [List.map_toArray, List.map_cons, List.map_nil]); first | done | rfl | (simp only [List.length_drop, List.length_take]; rfl)) ?_))
set_option hygiene false in
local macro "zq19" : tactic => `(tactic| (refine box_step ?hg (N := 6) ?hd (cs := #[.string (⟨#[]⟩ : ByteArray), .string (⟨#[]⟩ : ByteArray), .int .i64 0]) (t := 42) ?hr ?_; (case hd => rfl); (case hg => rfl); (case hr => first | (go_simp; done) | (go_simp; rfl))))
set_option hygiene false in
local macro "zq20" : tactic => `(tactic| (refine box_step ?hg (N := 8) ?hd (cs := #[.string (⟨#[]⟩ : ByteArray), .string (⟨#[]⟩ : ByteArray), .int .i64 0]) (t := 42) ?hr ?_; (case hd => rfl); (case hg => rfl); (case hr => first | (go_simp; done) | (go_simp; rfl))))
set_option hygiene false in
local macro "zq21" : tactic => `(tactic| (have n11_ := Aside0.mk ((by rw [hg]; exact Nat.ne_of_lt (blk_lt (g := gb259) (o := .cells #[.string t255, .string t256, .int .i64 t257] 42 (0, 0)) (by (with_reducible zq0); exact BK259.out)) : gb259 ≠ gb269))))
set_option hygiene false in
local macro "zq22" : tactic => `(tactic| (have n12_ := Aside0.mk ((by rw [hg]; exact Nat.ne_of_gt (blk_lt (g := gb259) (o := .cells #[.string t255, .string t256, .int .i64 t257] 42 (0, 0)) (by (with_reducible zq0); exact BK259.out)) : gb269 ≠ gb259))))
set_option hygiene false in
local macro "zq23" : tactic => `(tactic| (have n6_ := Aside0.mk ((by rw [hg]; exact Nat.ne_of_lt (blk_lt (g := gb246) (o := .cells #[.string a0_0, .string a0_1, .int .i64 a0_2] 47 (0, 0)) (by (with_reducible zq0); exact BK246.out)) : gb246 ≠ gb259))))
set_option hygiene false in
local macro "zq24" : tactic => `(tactic| (have n7_ := Aside0.mk ((by rw [hg]; exact Nat.ne_of_gt (blk_lt (g := gb246) (o := .cells #[.string a0_0, .string a0_1, .int .i64 a0_2] 47 (0, 0)) (by (with_reducible zq0); exact BK246.out)) : gb259 ≠ gb246))))
set_option hygiene false in
local macro "zq25" : tactic => `(tactic| (have n7_ := Aside0.mk ((by rw [hg]; exact Nat.ne_of_lt (blk_lt (g := gb246) (o := .cells #[.string a0_0, .string a0_1, .int .i64 a0_2] 47 (0, 0)) (by (with_reducible zq0); exact BK246.out)) : gb246 ≠ gb269))))
set_option hygiene false in
local macro "zq26" : tactic => `(tactic| (have n8_ := Aside0.mk ((by rw [hg]; exact Nat.ne_of_gt (blk_lt (g := gb246) (o := .cells #[.string a0_0, .string a0_1, .int .i64 a0_2] 47 (0, 0)) (by (with_reducible zq0); exact BK246.out)) : gb269 ≠ gb246))))
set_option hygiene false in
local macro "zq27" : tactic => `(tactic| (have n10_ := Aside0.mk ((by rw [hg]; exact Nat.ne_of_gt (blk_lt (g := gb247) (o := .cells #[.string a1_0, .string a1_1] 35 (0, 0)) (by (with_reducible zq0); exact BK247.out)) : gb269 ≠ gb247))))
set_option hygiene false in
local macro "zq28" : tactic => `(tactic| (have n8_ := Aside0.mk ((by rw [hg]; exact Nat.ne_of_lt (blk_lt (g := gb247) (o := .cells #[.string a1_0, .string a1_1] 35 (0, 0)) (by (with_reducible zq0); exact BK247.out)) : gb247 ≠ gb259))))
set_option hygiene false in
local macro "zq29" : tactic => `(tactic| (have n9_ := Aside0.mk ((by rw [hg]; exact Nat.ne_of_gt (blk_lt (g := gb247) (o := .cells #[.string a1_0, .string a1_1] 35 (0, 0)) (by (with_reducible zq0); exact BK247.out)) : gb259 ≠ gb247))))
set_option hygiene false in
local macro "zq30" : tactic => `(tactic| (have n9_ := Aside0.mk ((by rw [hg]; exact Nat.ne_of_lt (blk_lt (g := gb247) (o := .cells #[.string a1_0, .string a1_1] 35 (0, 0)) (by (with_reducible zq0); exact BK247.out)) : gb247 ≠ gb269))))
set_option hygiene false in
local macro "zq31" : tactic => `(tactic| (refine pure_ (i := 5) (N := some 20) (v := ?_) (a' := ?_) #[true, true, true, true, true, true, false, false, true, false, false] rfl rfl (any_of HT_.out (by kernel_rfl)) (fun _ _ _ h => h) (Or.inl ⟨by rfl, ?_⟩) ?_ ?_))
set_option hygiene false in
local macro "zq32" : tactic => `(tactic| (refine pure_ (i := 5) (N := some 28) (v := ?_) (a' := ?_) #[true, true, true, true, true, true, false, false, true, false, false] rfl rfl (any_of HT_.out (by kernel_rfl)) (fun _ _ _ h => h) (Or.inl ⟨by rfl, ?_⟩) ?_ ?_))
set_option hygiene false in
local macro "zq33" : tactic => `(tactic| (refine pure_ (i := 6) (N := some 26) (v := ?_) (a' := ?_) #[true, true, true, true, true, true, true, false, true, false, false] rfl rfl (any_of HT_.out (by kernel_rfl)) (fun _ _ _ h => h) (Or.inl ⟨by rfl, ?_⟩) ?_ ?_))
set_option hygiene false in
local macro "zq34" : tactic => `(tactic| (refine pure_ (i := 6) (N := some 34) (v := ?_) (a' := ?_) #[true, true, true, true, true, true, true, false, true, false, false] rfl rfl (any_of HT_.out (by kernel_rfl)) (fun _ _ _ h => h) (Or.inl ⟨by rfl, ?_⟩) ?_ ?_))
set_option hygiene false in
local macro "zq35" : tactic => `(tactic| (refine pure_ (i := 7) (N := some 27) (v := ?_) (a' := ?_) #[true, true, true, true, true, true, true, true, true, false, false] rfl rfl (any_of HT_.out (by kernel_rfl)) (fun _ _ _ h => h) (Or.inl ⟨by rfl, ?_⟩) ?_ ?_))
set_option hygiene false in
local macro "zq36" : tactic => `(tactic| (refine pure_ (i := 7) (N := some 35) (v := ?_) (a' := ?_) #[true, true, true, true, true, true, true, true, true, false, false] rfl rfl (any_of HT_.out (by kernel_rfl)) (fun _ _ _ h => h) (Or.inl ⟨by rfl, ?_⟩) ?_ ?_))
set_option hygiene false in
local macro "zq37" : tactic => `(tactic| (refine one_ (i := 4) (N := some 25) #[true, true, true, true, true, false, false, false, true, false, false] rfl rfl (one_of HT_.out (by kernel_rfl)) (by decide) (fun K hK => ?_)))
set_option hygiene false in
local macro "zq38" : tactic => `(tactic| (refine one_ (i := 4) (N := some 33) #[true, true, true, true, true, false, false, false, true, false, false] rfl rfl (one_of HT_.out (by kernel_rfl)) (by decide) (fun K hK => ?_)))
/-! ### laws_FnExactAppendRecord: function 9 -/
def laws_FnExactAppendRecord.f (k : Nat) (a0_0 : ByteArray) (a0_1 : ByteArray) (a0_2 : Int) (a1_0 : ByteArray) (a1_1 : ByteArray) : Option (Bool) := (laws_szLog.f a0_0 a0_1 a0_2 1048576).bind fun t248 => (if t248 < 0 then (some true) else ((laws_szLogRecord.f a1_0 a1_1 t248).bind fun t249 => (if t249 < 0 then (some true) else ((laws_toLog.f a0_0 a0_1 a0_2).bind fun bt250 => ((laws_toLogRecord.f a1_0 a1_1).bind fun bt253 => ((spec_AppendRecord.f k bt250.1 bt250.2.1 bt250.2.2 bt253.1 bt253.2).bind fun bt255 => ((laws_toLog.f a0_0 a0_1 a0_2).bind fun bt260 => ((laws_toLogRecord.f a1_0 a1_1).bind fun bt263 => ((impl_AppendRecord.f k bt260.1 bt260.2.1 bt260.2.2 bt263.1 bt263.2).bind fun bt265 => ((laws_eqLog.f bt265.1 bt265.2.1 bt265.2.2.1 bt255.1 bt255.2.1 bt255.2.2.1).bind fun t270 => (if t270 = true then (if bt265.2.2.2 = bt255.2.2.2 then (some true) else (some false)) else (some false))))))))))))
theorem laws_FnExactAppendRecord.mono : ∀ a0 a1 a2 a3 a4 k, LeO (laws_FnExactAppendRecord.f k a0 a1 a2 a3 a4) (laws_FnExactAppendRecord.f (k + 1) a0 a1 a2 a3 a4) := by
  intro a0 a1 a2 a3 a4 k
  unfold laws_FnExactAppendRecord.f
  repeat' first
      | (with_reducible exact impl_AppendRecord.mono _ _ _ _ _ _)
      | (with_reducible exact spec_AppendRecord.mono _ _ _ _ _ _)
      | (with_reducible exact LeO.refl _)
      | (with_reducible exact LeO.none _)
      | (with_reducible refine LeO.ite ?_ ?_)
      | (with_reducible refine LeO.bind ?_ (fun _ => ?_))
      | exact impl_AppendRecord.mono _ _ _ _ _ _
      | exact spec_AppendRecord.mono _ _ _ _ _ _
      | exact LeO.none _
      | refine LeO.ite ?_ ?_
      | refine LeO.bind ?_ (fun _ => ?_)
def laws_FnExactAppendRecord.T8 : Bool × List (List Nat × List Nat) := (true, [([], []), ([0], [0]), ([], []), ([2, 1], [2]), ([1, 3, 3], [1, 3]), ([4], [4]), ([5], [5]), ([5], [5]), ([], []), ([8, 6, 4, 0, 1, 2, 3, 4, 5, 6, 8], [6, 8]), ([7, 9, 0, 1, 2, 3, 4, 5, 6, 7, 8, 9], [7])])
def laws_FnExactAppendRecord.B8 : List Nat := [0, 1, 0, 7, 15, 31, 63, 63, 0, 383, 1023]
theorem laws_FnExactAppendRecord.tab8 : rtab .any (opsOf Tryd.f9 8) = laws_FnExactAppendRecord.T8 := by kernel_rfl
theorem laws_FnExactAppendRecord.bits8 : waitsOk laws_FnExactAppendRecord.T8.2 laws_FnExactAppendRecord.B8 = true := by kernel_rfl
def laws_FnExactAppendRecord.T9 : Bool × List (List Nat × List Nat) := (true, [([], []), ([0], [0]), ([], []), ([2, 1], [2]), ([1, 3, 3], [1, 3]), ([4], [4]), ([5], [5]), ([5], [5]), ([], []), ([8, 6, 4, 0, 1, 2, 3, 4, 5, 6, 8], [6, 8]), ([7, 9, 0, 1, 2, 3, 4, 5, 6, 7, 8, 9], [7])])
def laws_FnExactAppendRecord.B9 : List Nat := [0, 1, 0, 7, 15, 31, 63, 63, 0, 383, 1023]
theorem laws_FnExactAppendRecord.tab9 : rtab .any (opsOf Tryd.f9 9) = laws_FnExactAppendRecord.T9 := by kernel_rfl
theorem laws_FnExactAppendRecord.bits9 : waitsOk laws_FnExactAppendRecord.T9.2 laws_FnExactAppendRecord.B9 = true := by kernel_rfl
set_option maxHeartbeats 8000000 in
set_option maxRecDepth 100000 in
theorem laws_FnExactAppendRecord.calls (k : Nat) (a0_0 : ByteArray) (a0_1 : ByteArray) (a0_2 : Int) (a1_0 : ByteArray) (a1_1 : ByteArray) (r : Bool) (w : World) (hgl : Glob w) (hr : r = true) (h : laws_FnExactAppendRecord.f k a0_0 a0_1 a0_2 a1_0 a1_1 = some r) :
    Calls Tryd.prog 9 #[.agg #[.string a0_0, .string a0_1, .int .i64 a0_2], .agg #[.string a1_0, .string a1_1]] w fun e w' => e = .returned (.bool r) ∧ Below w.heap.size w w' := by
  have hu47 := Tryd.underlying47
  have hu35 := Tryd.underlying35
  have hu42 := Tryd.underlying42
  have HB := Aside0.mk (Below.refl w.heap.size w)
  have HGL := Aside0.mk hgl
  clear hgl
  have H : ((laws_szLog.f a0_0 a0_1 a0_2 1048576).bind fun t248 => (if t248 < 0 then (some true) else ((laws_szLogRecord.f a1_0 a1_1 t248).bind fun t249 => (if t249 < 0 then (some true) else ((laws_toLog.f a0_0 a0_1 a0_2).bind fun bt250 => ((laws_toLogRecord.f a1_0 a1_1).bind fun bt253 => ((spec_AppendRecord.f k bt250.1 bt250.2.1 bt250.2.2 bt253.1 bt253.2).bind fun bt255 => ((laws_toLog.f a0_0 a0_1 a0_2).bind fun bt260 => ((laws_toLogRecord.f a1_0 a1_1).bind fun bt263 => ((impl_AppendRecord.f k bt260.1 bt260.2.1 bt260.2.2 bt263.1 bt263.2).bind fun bt265 => ((laws_eqLog.f bt265.1 bt265.2.1 bt265.2.2.1 bt255.1 bt255.2.1 bt255.2.2.1).bind fun t270 => (if t270 = true then (if bt265.2.2.2 = bt255.2.2.2 then (some true) else (some false)) else (some false))))))))))))) = some r := h
  clear h
  replace H := Option.bind_eq_some_iff.mp H
  obtain ⟨t248, A30, H⟩ := H
  replace H : (if t248 < 0 then (some true) else ((laws_szLogRecord.f a1_0 a1_1 t248).bind fun t249 => (if t249 < 0 then (some true) else ((laws_toLog.f a0_0 a0_1 a0_2).bind fun bt250 => ((laws_toLogRecord.f a1_0 a1_1).bind fun bt253 => ((spec_AppendRecord.f k bt250.1 bt250.2.1 bt250.2.2 bt253.1 bt253.2).bind fun bt255 => ((laws_toLog.f a0_0 a0_1 a0_2).bind fun bt260 => ((laws_toLogRecord.f a1_0 a1_1).bind fun bt263 => ((impl_AppendRecord.f k bt260.1 bt260.2.1 bt260.2.2 bt263.1 bt263.2).bind fun bt265 => ((laws_eqLog.f bt265.1 bt265.2.1 bt265.2.2.1 bt255.1 bt255.2.1 bt255.2.2.1).bind fun t270 => (if t270 = true then (if bt265.2.2.2 = bt255.2.2.2 then (some true) else (some false)) else (some false)))))))))))) = some r := H
  have A3 := Aside0.mk A30
  clear A30
  by_cases c4 : t248 < 0
  · rw [if_pos c4] at H
    have c4b0 : decide (t248 < 0) = true := decide_eq_true c4
    clear c4
    obtain rfl := Option.some.inj H; clear hr
    go_enter Tryd.func9, Tryd.ntmps9
    go_wp2_with (first | ((with_reducible refine gate_dst (N := 2) rfl ?_); refine box_event ?hg (N := 2) ?hd (cs := #[.string a0_0, .string a0_1, .int .i64 a0_2]) (t := 47) ?hr ?_; (case hd => rfl); (case hg => rfl); (case hr => first | (go_simp; done) | (go_simp; rfl)); intro gb246 hg w5 hbox hb; have n0_ := Aside0.mk (below_step (by zq13) hb); have n1_ := Aside0.mk (hbox); have n2_ := Aside0.mk ((by rw [hg]; exact (below_size (by zq13)) : w.heap.size ≤ gb246)); have n3_ := Aside0.mk ((by rw [hg]; exact (below_size (by zq13)) : w.heap.size ≤ gb246)); clear HB; have HB := n0_; have BK246 := n1_; have GW246 := n2_; have GE246 := n3_; clear n0_ n1_ n2_ n3_; clear hb hbox hg) | ((with_reducible refine gate_dst (N := 3) rfl ?_); refine box_event ?hg (N := 3) ?hd (cs := #[.string a1_0, .string a1_1]) (t := 35) ?hr ?_; (case hd => rfl); (case hg => rfl); (case hr => first | (go_simp; done) | (go_simp; rfl)); intro gb247 hg w6 hbox hb; zq5; have n1_ := Aside0.mk (below_step (by zq10) hb); have n2_ := Aside0.mk (hbox); have n3_ := Aside0.mk ((by rw [hg]; exact (below_size (by zq10)) : w.heap.size ≤ gb247)); have n4_ := Aside0.mk ((by rw [hg]; exact (below_size (by zq10)) : w.heap.size ≤ gb247)); have n5_ := Aside0.mk ((by rw [hg]; exact Nat.ne_of_lt (blk_lt (g := gb246) (o := .cells #[.string a0_0, .string a0_1, .int .i64 a0_2] 47 (0, 0)) (by (with_reducible zq0); exact BK246.out)) : gb246 ≠ gb247)); have n6_ := Aside0.mk ((by rw [hg]; exact Nat.ne_of_gt (blk_lt (g := gb246) (o := .cells #[.string a0_0, .string a0_1, .int .i64 a0_2] 47 (0, 0)) (by (with_reducible zq0); exact BK246.out)) : gb247 ≠ gb246)); clear BK246; clear HB; have BK246 := n0_; have HB := n1_; have BK247 := n2_; have GW247 := n3_; have GE247 := n4_; have NB246_247 := n5_; have NB247_246 := n6_; clear n0_ n1_ n2_ n3_ n4_ n5_ n6_; clear hb hbox hg; have hnb7 := NB246_247.out; have hnc7 := NB247_246.out; have hcz8_0 : w6.cell? ⟨gb246, 0, none⟩ = some (.string a0_0) := (blk_cell BK246.out 0).trans rfl; have hcz8_1 : w6.cell? ⟨gb246, 1, none⟩ = some (.string a0_1) := (blk_cell BK246.out 1).trans rfl; have hcz8_2 : w6.cell? ⟨gb246, 2, none⟩ = some (.int .i64 a0_2) := (blk_cell BK246.out 2).trans rfl; have hfz8_0 := blk_frozen BK246.out 0; have hfz8_1 := blk_frozen BK246.out 1; have hfz8_2 := blk_frozen BK246.out 2) | ((with_reducible refine gate_callee (f := 30) rfl ?_); refine goesL_ (some 12) rfl rfl Tryd.func30 (by kernel_rfl) rfl #[.agg #[.string a0_0, .string a0_1, .int .i64 a0_2], .int .i64 1048576] rfl (by (try simp only [List.map_toArray, List.map_cons, List.map_nil]); first | done | rfl | (simp only [List.length_drop, List.length_take]; rfl)) ?_; (with_reducible refine (laws_szLog.calls a0_0 a0_1 a0_2 1048576 t248 _ A3.out).mono ?_); rintro e w9 ⟨rfl, hb⟩; refine ⟨_, rfl, ?_⟩; zq5; zq7; have n2_ := Aside0.mk (below_step (by zq4) hb); clear BK246; clear BK247; clear HB; have BK246 := n0_; have BK247 := n1_; have HB := n2_; clear n0_ n1_ n2_; (try clear hb); (try clear hb2); (try clear hk); (try clear hi)))
    go_ret
    exact ⟨by first | rfl | (simp [errW_none, errW_some] <;> rfl) | (simp [*, errW_none, errW_some] <;> rfl), by zq4⟩
  · rw [if_neg c4] at H
    have c4b0 : decide (t248 < 0) = false := decide_eq_false c4
    clear c4
    replace H := Option.bind_eq_some_iff.mp H
    obtain ⟨t249, A100, H⟩ := H
    replace H : (if t249 < 0 then (some true) else ((laws_toLog.f a0_0 a0_1 a0_2).bind fun bt250 => ((laws_toLogRecord.f a1_0 a1_1).bind fun bt253 => ((spec_AppendRecord.f k bt250.1 bt250.2.1 bt250.2.2 bt253.1 bt253.2).bind fun bt255 => ((laws_toLog.f a0_0 a0_1 a0_2).bind fun bt260 => ((laws_toLogRecord.f a1_0 a1_1).bind fun bt263 => ((impl_AppendRecord.f k bt260.1 bt260.2.1 bt260.2.2 bt263.1 bt263.2).bind fun bt265 => ((laws_eqLog.f bt265.1 bt265.2.1 bt265.2.2.1 bt255.1 bt255.2.1 bt255.2.2.1).bind fun t270 => (if t270 = true then (if bt265.2.2.2 = bt255.2.2.2 then (some true) else (some false)) else (some false)))))))))) = some r := H
    have A10 := Aside0.mk A100
    clear A100
    by_cases c11 : t249 < 0
    · rw [if_pos c11] at H
      have c11b0 : decide (t249 < 0) = true := decide_eq_true c11
      clear c11
      obtain rfl := Option.some.inj H; clear hr
      go_enter Tryd.func9, Tryd.ntmps9
      go_wp2_with (first | ((with_reducible refine gate_dst (N := 2) rfl ?_); refine box_event ?hg (N := 2) ?hd (cs := #[.string a0_0, .string a0_1, .int .i64 a0_2]) (t := 47) ?hr ?_; (case hd => rfl); (case hg => rfl); (case hr => first | (go_simp; done) | (go_simp; rfl)); intro gb246 hg w12 hbox hb; have n0_ := Aside0.mk (below_step (by zq13) hb); have n1_ := Aside0.mk (hbox); have n2_ := Aside0.mk ((by rw [hg]; exact (below_size (by zq13)) : w.heap.size ≤ gb246)); have n3_ := Aside0.mk ((by rw [hg]; exact (below_size (by zq13)) : w.heap.size ≤ gb246)); clear HB; have HB := n0_; have BK246 := n1_; have GW246 := n2_; have GE246 := n3_; clear n0_ n1_ n2_ n3_; clear hb hbox hg) | ((with_reducible refine gate_dst (N := 3) rfl ?_); refine box_event ?hg (N := 3) ?hd (cs := #[.string a1_0, .string a1_1]) (t := 35) ?hr ?_; (case hd => rfl); (case hg => rfl); (case hr => first | (go_simp; done) | (go_simp; rfl)); intro gb247 hg w13 hbox hb; zq5; have n1_ := Aside0.mk (below_step (by zq10) hb); have n2_ := Aside0.mk (hbox); have n3_ := Aside0.mk ((by rw [hg]; exact (below_size (by zq10)) : w.heap.size ≤ gb247)); have n4_ := Aside0.mk ((by rw [hg]; exact (below_size (by zq10)) : w.heap.size ≤ gb247)); have n5_ := Aside0.mk ((by rw [hg]; exact Nat.ne_of_lt (blk_lt (g := gb246) (o := .cells #[.string a0_0, .string a0_1, .int .i64 a0_2] 47 (0, 0)) (by (with_reducible zq0); exact BK246.out)) : gb246 ≠ gb247)); have n6_ := Aside0.mk ((by rw [hg]; exact Nat.ne_of_gt (blk_lt (g := gb246) (o := .cells #[.string a0_0, .string a0_1, .int .i64 a0_2] 47 (0, 0)) (by (with_reducible zq0); exact BK246.out)) : gb247 ≠ gb246)); clear BK246; clear HB; have BK246 := n0_; have HB := n1_; have BK247 := n2_; have GW247 := n3_; have GE247 := n4_; have NB246_247 := n5_; have NB247_246 := n6_; clear n0_ n1_ n2_ n3_ n4_ n5_ n6_; clear hb hbox hg; have hnb14 := NB246_247.out; have hnc14 := NB247_246.out; have hcz15_0 : w13.cell? ⟨gb246, 0, none⟩ = some (.string a0_0) := (blk_cell BK246.out 0).trans rfl; have hcz15_1 : w13.cell? ⟨gb246, 1, none⟩ = some (.string a0_1) := (blk_cell BK246.out 1).trans rfl; have hcz15_2 : w13.cell? ⟨gb246, 2, none⟩ = some (.int .i64 a0_2) := (blk_cell BK246.out 2).trans rfl; have hfz15_0 := blk_frozen BK246.out 0; have hfz15_1 := blk_frozen BK246.out 1; have hfz15_2 := blk_frozen BK246.out 2) | ((with_reducible refine gate_callee (f := 30) rfl ?_); refine goesL_ (some 12) rfl rfl Tryd.func30 (by kernel_rfl) rfl #[.agg #[.string a0_0, .string a0_1, .int .i64 a0_2], .int .i64 1048576] rfl (by (try simp only [List.map_toArray, List.map_cons, List.map_nil]); first | done | rfl | (simp only [List.length_drop, List.length_take]; rfl)) ?_; (with_reducible refine (laws_szLog.calls a0_0 a0_1 a0_2 1048576 t248 _ A3.out).mono ?_); rintro e w16 ⟨rfl, hb⟩; refine ⟨_, rfl, ?_⟩; zq5; zq7; have n2_ := Aside0.mk (below_step (by zq4) hb); clear BK246; clear BK247; clear HB; have BK246 := n0_; have BK247 := n1_; have HB := n2_; clear n0_ n1_ n2_; (try clear hb); (try clear hb2); (try clear hk); (try clear hi); have hcz17_0 : w16.cell? ⟨gb247, 0, none⟩ = some (.string a1_0) := (blk_cell BK247.out 0).trans rfl; have hcz17_1 : w16.cell? ⟨gb247, 1, none⟩ = some (.string a1_1) := (blk_cell BK247.out 1).trans rfl; have hfz17_0 := blk_frozen BK247.out 0; have hfz17_1 := blk_frozen BK247.out 1) | ((with_reducible refine gate_callee (f := 23) rfl ?_); refine goesL_ (some 17) rfl rfl Tryd.func23 (by kernel_rfl) rfl #[.agg #[.string a1_0, .string a1_1], .int .i64 t248] rfl (by (try simp only [List.map_toArray, List.map_cons, List.map_nil]); first | done | rfl | (simp only [List.length_drop, List.length_take]; rfl)) ?_; (with_reducible refine (laws_szLogRecord.calls a1_0 a1_1 t248 t249 _ A10.out).mono ?_); rintro e w18 ⟨rfl, hb⟩; refine ⟨_, rfl, ?_⟩; zq5; zq7; have n2_ := Aside0.mk (below_step (by zq4) hb); clear BK246; clear BK247; clear HB; have BK246 := n0_; have BK247 := n1_; have HB := n2_; clear n0_ n1_ n2_; (try clear hb); (try clear hb2); (try clear hk); (try clear hi)))
      go_ret
      exact ⟨by first | rfl | (simp [errW_none, errW_some] <;> rfl) | (simp [*, errW_none, errW_some] <;> rfl), by zq4⟩
    · rw [if_neg c11] at H
      have c11b0 : decide (t249 < 0) = false := decide_eq_false c11
      clear c11
      replace H := Option.bind_eq_some_iff.mp H
      obtain ⟨⟨t250, t251, t252⟩, A190, H⟩ := H
      replace H : ((laws_toLogRecord.f a1_0 a1_1).bind fun bt253 => ((spec_AppendRecord.f k t250 t251 t252 bt253.1 bt253.2).bind fun bt255 => ((laws_toLog.f a0_0 a0_1 a0_2).bind fun bt260 => ((laws_toLogRecord.f a1_0 a1_1).bind fun bt263 => ((impl_AppendRecord.f k bt260.1 bt260.2.1 bt260.2.2 bt263.1 bt263.2).bind fun bt265 => ((laws_eqLog.f bt265.1 bt265.2.1 bt265.2.2.1 bt255.1 bt255.2.1 bt255.2.2.1).bind fun t270 => (if t270 = true then (if bt265.2.2.2 = bt255.2.2.2 then (some true) else (some false)) else (some false)))))))) = some r := H
      have A19 := Aside0.mk A190
      clear A190
      replace H := Option.bind_eq_some_iff.mp H
      obtain ⟨⟨t253, t254⟩, A200, H⟩ := H
      replace H : ((spec_AppendRecord.f k t250 t251 t252 t253 t254).bind fun bt255 => ((laws_toLog.f a0_0 a0_1 a0_2).bind fun bt260 => ((laws_toLogRecord.f a1_0 a1_1).bind fun bt263 => ((impl_AppendRecord.f k bt260.1 bt260.2.1 bt260.2.2 bt263.1 bt263.2).bind fun bt265 => ((laws_eqLog.f bt265.1 bt265.2.1 bt265.2.2.1 bt255.1 bt255.2.1 bt255.2.2.1).bind fun t270 => (if t270 = true then (if bt265.2.2.2 = bt255.2.2.2 then (some true) else (some false)) else (some false))))))) = some r := H
      have A20 := Aside0.mk A200
      clear A200
      replace H := Option.bind_eq_some_iff.mp H
      obtain ⟨⟨t255, t256, t257, t258⟩, A210, H⟩ := H
      replace H : ((laws_toLog.f a0_0 a0_1 a0_2).bind fun bt260 => ((laws_toLogRecord.f a1_0 a1_1).bind fun bt263 => ((impl_AppendRecord.f k bt260.1 bt260.2.1 bt260.2.2 bt263.1 bt263.2).bind fun bt265 => ((laws_eqLog.f bt265.1 bt265.2.1 bt265.2.2.1 t255 t256 t257).bind fun t270 => (if t270 = true then (if bt265.2.2.2 = t258 then (some true) else (some false)) else (some false)))))) = some r := H
      have A21 := Aside0.mk A210
      clear A210
      replace H := Option.bind_eq_some_iff.mp H
      obtain ⟨⟨t260, t261, t262⟩, A220, H⟩ := H
      replace H : ((laws_toLogRecord.f a1_0 a1_1).bind fun bt263 => ((impl_AppendRecord.f k t260 t261 t262 bt263.1 bt263.2).bind fun bt265 => ((laws_eqLog.f bt265.1 bt265.2.1 bt265.2.2.1 t255 t256 t257).bind fun t270 => (if t270 = true then (if bt265.2.2.2 = t258 then (some true) else (some false)) else (some false))))) = some r := H
      have A22 := Aside0.mk A220
      clear A220
      replace H := Option.bind_eq_some_iff.mp H
      obtain ⟨⟨t263, t264⟩, A230, H⟩ := H
      replace H : ((impl_AppendRecord.f k t260 t261 t262 t263 t264).bind fun bt265 => ((laws_eqLog.f bt265.1 bt265.2.1 bt265.2.2.1 t255 t256 t257).bind fun t270 => (if t270 = true then (if bt265.2.2.2 = t258 then (some true) else (some false)) else (some false)))) = some r := H
      have A23 := Aside0.mk A230
      clear A230
      replace H := Option.bind_eq_some_iff.mp H
      obtain ⟨⟨t265, t266, t267, t268⟩, A240, H⟩ := H
      replace H : ((laws_eqLog.f t265 t266 t267 t255 t256 t257).bind fun t270 => (if t270 = true then (if t268 = t258 then (some true) else (some false)) else (some false))) = some r := H
      have A24 := Aside0.mk A240
      clear A240
      replace H := Option.bind_eq_some_iff.mp H
      obtain ⟨t270, A250, H⟩ := H
      replace H : (if t270 = true then (if t268 = t258 then (some true) else (some false)) else (some false)) = some r := H
      have A25 := Aside0.mk A250
      clear A250
      by_cases c26 : t270 = true
      · subst c26
        have H1 : (if t268 = t258 then (some true) else (some false)) = some r := by rw [if_pos rfl] at H; exact H
        clear H
        have H := H1
        clear H1
        by_cases c27 : t268 = t258
        · rw [if_pos c27] at H
          have c27b0 : (t268 == t258) = true := beq_iff_eq.mpr c27
          have c27b1 : (t268 != t258) = false := bne_eq_false_iff_eq.mpr c27
          clear c27
          obtain rfl := Option.some.inj H; clear hr
          go_enter Tryd.func9, Tryd.ntmps9
          try go_wp2_with (first | ((with_reducible refine gate_dst (N := 2) rfl ?_); refine box_event ?hg (N := 2) ?hd (cs := #[.string a0_0, .string a0_1, .int .i64 a0_2]) (t := 47) ?hr ?_; (case hd => rfl); (case hg => rfl); (case hr => first | (go_simp; done) | (go_simp; rfl)); intro gb246 hg w28 hbox hb; have n0_ := Aside0.mk (below_step (by zq13) hb); have n1_ := Aside0.mk (hbox); have n2_ := Aside0.mk ((by rw [hg]; exact (below_size (by zq13)) : w.heap.size ≤ gb246)); have n3_ := Aside0.mk ((by rw [hg]; exact (below_size (by zq13)) : w.heap.size ≤ gb246)); clear HB; have HB := n0_; have BK246 := n1_; have GW246 := n2_; have GE246 := n3_; clear n0_ n1_ n2_ n3_; clear hb hbox hg) | ((with_reducible refine gate_dst (N := 3) rfl ?_); refine box_event ?hg (N := 3) ?hd (cs := #[.string a1_0, .string a1_1]) (t := 35) ?hr ?_; (case hd => rfl); (case hg => rfl); (case hr => first | (go_simp; done) | (go_simp; rfl)); intro gb247 hg w29 hbox hb; zq5; have n1_ := Aside0.mk (below_step (by zq10) hb); have n2_ := Aside0.mk (hbox); have n3_ := Aside0.mk ((by rw [hg]; exact (below_size (by zq10)) : w.heap.size ≤ gb247)); have n4_ := Aside0.mk ((by rw [hg]; exact (below_size (by zq10)) : w.heap.size ≤ gb247)); have n5_ := Aside0.mk ((by rw [hg]; exact Nat.ne_of_lt (blk_lt (g := gb246) (o := .cells #[.string a0_0, .string a0_1, .int .i64 a0_2] 47 (0, 0)) (by (with_reducible zq0); exact BK246.out)) : gb246 ≠ gb247)); have n6_ := Aside0.mk ((by rw [hg]; exact Nat.ne_of_gt (blk_lt (g := gb246) (o := .cells #[.string a0_0, .string a0_1, .int .i64 a0_2] 47 (0, 0)) (by (with_reducible zq0); exact BK246.out)) : gb247 ≠ gb246)); clear BK246; clear HB; have BK246 := n0_; have HB := n1_; have BK247 := n2_; have GW247 := n3_; have GE247 := n4_; have NB246_247 := n5_; have NB247_246 := n6_; clear n0_ n1_ n2_ n3_ n4_ n5_ n6_; clear hb hbox hg; have hnb30 := NB246_247.out; have hnc30 := NB247_246.out; have hcz31_0 : w29.cell? ⟨gb246, 0, none⟩ = some (.string a0_0) := (blk_cell BK246.out 0).trans rfl; have hcz31_1 : w29.cell? ⟨gb246, 1, none⟩ = some (.string a0_1) := (blk_cell BK246.out 1).trans rfl; have hcz31_2 : w29.cell? ⟨gb246, 2, none⟩ = some (.int .i64 a0_2) := (blk_cell BK246.out 2).trans rfl; have hfz31_0 := blk_frozen BK246.out 0; have hfz31_1 := blk_frozen BK246.out 1; have hfz31_2 := blk_frozen BK246.out 2) | ((with_reducible refine gate_callee (f := 30) rfl ?_); refine goesL_ (some 12) rfl rfl Tryd.func30 (by kernel_rfl) rfl #[.agg #[.string a0_0, .string a0_1, .int .i64 a0_2], .int .i64 1048576] rfl (by (try simp only [List.map_toArray, List.map_cons, List.map_nil]); first | done | rfl | (simp only [List.length_drop, List.length_take]; rfl)) ?_; (with_reducible refine (laws_szLog.calls a0_0 a0_1 a0_2 1048576 t248 _ A3.out).mono ?_); rintro e w32 ⟨rfl, hb⟩; refine ⟨_, rfl, ?_⟩; zq5; zq7; have n2_ := Aside0.mk (below_step (by zq4) hb); clear BK246; clear BK247; clear HB; have BK246 := n0_; have BK247 := n1_; have HB := n2_; clear n0_ n1_ n2_; (try clear hb); (try clear hb2); (try clear hk); (try clear hi); have hcz33_0 : w32.cell? ⟨gb247, 0, none⟩ = some (.string a1_0) := (blk_cell BK247.out 0).trans rfl; have hcz33_1 : w32.cell? ⟨gb247, 1, none⟩ = some (.string a1_1) := (blk_cell BK247.out 1).trans rfl; have hfz33_0 := blk_frozen BK247.out 0; have hfz33_1 := blk_frozen BK247.out 1) | ((with_reducible refine gate_callee (f := 23) rfl ?_); refine goesL_ (some 17) rfl rfl Tryd.func23 (by kernel_rfl) rfl #[.agg #[.string a1_0, .string a1_1], .int .i64 t248] rfl (by (try simp only [List.map_toArray, List.map_cons, List.map_nil]); first | done | rfl | (simp only [List.length_drop, List.length_take]; rfl)) ?_; (with_reducible refine (laws_szLogRecord.calls a1_0 a1_1 t248 t249 _ A10.out).mono ?_); rintro e w34 ⟨rfl, hb⟩; refine ⟨_, rfl, ?_⟩; zq5; zq7; have n2_ := Aside0.mk (below_step (by zq4) hb); clear BK246; clear BK247; clear HB; have BK246 := n0_; have BK247 := n1_; have HB := n2_; clear n0_ n1_ n2_; (try clear hb); (try clear hb2); (try clear hk); (try clear hi)))
          have n0_ := Aside0.mk (blk_drew BK246.out)
          have n1_ := Aside0.mk (blk_drew BK247.out)
          have n2_ := Aside0.mk (below_drew1 HB.out)
          clear BK246
          clear BK247
          clear HB
          have BK246 := n0_
          have BK247 := n1_
          have HB := n2_
          clear n0_ n1_ n2_
          refine start_ (n := 11) (S := fun w' => w'.cell? ⟨gb246, 0, none⟩ = some (.string a0_0) ∧ w'.cell? ⟨gb246, 1, none⟩ = some (.string a0_1) ∧ w'.cell? ⟨gb246, 2, none⟩ = some (.int .i64 a0_2) ∧ w'.cell? ⟨gb247, 0, none⟩ = some (.string a1_0) ∧ w'.cell? ⟨gb247, 1, none⟩ = some (.string a1_1)) (ds := []) #[false, false, false, false, false, false, false, false, false, false, false] (by kernel_rfl) rfl rfl ⟨(blk_cell BK246.out 0).trans rfl, (blk_cell BK246.out 1).trans rfl, (blk_cell BK246.out 2).trans rfl, (blk_cell BK247.out 0).trans rfl, (blk_cell BK247.out 1).trans rfl⟩ (fun hHeld => ?_); refine with_tabW laws_FnExactAppendRecord.tab8 laws_FnExactAppendRecord.bits8 (fun HT_ HW_ => ?_)
          generalize w34.drew = w35 at BK246 BK247 HB hHeld ⊢
          refine take_ (i := 0) (N := some 21) (v := ?_) (a' := ?_) #[true, false, false, false, false, false, false, false, false, false, false] rfl rfl (take_ofW HT_.out HW_.out (by kernel_rfl)) (fun _ _ _ h => h) (Or.inl ⟨by rfl, ?_⟩) hHeld ?_ ?_
          rotate_left
          · rintro w' ⟨s0, s1, s2, s3, s4⟩
            go_simp
            with_reducible rfl
          rotate_left
          · zq2
            rfl
          refine take_ (i := 2) (N := some 23) (v := ?_) (a' := ?_) #[true, false, true, false, false, false, false, false, false, false, false] rfl rfl (take_ofW HT_.out HW_.out (by kernel_rfl)) (fun _ _ _ h => h) (Or.inl ⟨by rfl, ?_⟩) hHeld ?_ ?_
          rotate_left
          · rintro w' ⟨s0, s1, s2, s3, s4⟩
            go_simp
            with_reducible rfl
          rotate_left
          · zq2
            rfl
          refine join_ (σ := Nat) 2 #[true, true, true, true, true, true, true, true, true, false, false] (fun s_ => [(22, .agg #[.string t250, .string t251, .int .i64 t252]), (24, .agg #[.string t253, .string t254]), (25, .tuple #[.agg #[.string t255, .string t256, .int .i64 t257], .int .i64 t258]), (6, .pointer (some ⟨s_, 0, none⟩)), (20, .tuple #[.agg #[.string t255, .string t256, .int .i64 t257], .int .i64 t258]), (26, .agg #[.string t255, .string t256, .int .i64 t257]), (27, .int .i64 t258)]) (fun s_ w' => (w'.cell? ⟨gb246, 0, none⟩ = some (.string a0_0) ∧ w'.cell? ⟨gb246, 1, none⟩ = some (.string a0_1) ∧ w'.cell? ⟨gb246, 2, none⟩ = some (.int .i64 a0_2) ∧ w'.cell? ⟨gb247, 0, none⟩ = some (.string a1_0) ∧ w'.cell? ⟨gb247, 1, none⟩ = some (.string a1_1)) ∧ (w'.heap[gb246]? = some (.cells #[.string a0_0, .string a0_1, .int .i64 a0_2] 47 (0, 0))) ∧ (w'.heap[gb247]? = some (.cells #[.string a1_0, .string a1_1] 35 (0, 0))) ∧ (w'.heap[s_]? = some (.cells #[.string (⟨#[]⟩ : ByteArray), .string (⟨#[]⟩ : ByteArray), .int .i64 0] 42 (0, 0))) ∧ (w.heap.size ≤ s_) ∧ (w.heap.size ≤ s_) ∧ (gb246 ≠ s_) ∧ (s_ ≠ gb246) ∧ (gb247 ≠ s_) ∧ (s_ ≠ gb247) ∧ (Below w.heap.size w w')) ?_ ?_
          rotate_left
          · intro hCont
            refine two_ (i := 1) (j := 8) (Ni := some 22) (Nj := some 6) #[true, true, true, false, false, false, false, false, false, false, false] #[true, false, true, false, false, false, false, false, true, false, false] rfl rfl rfl rfl (two_of HT_.out (by kernel_rfl)) (by decide) (by decide) (fun K hK => ?_) (fun K hK => ?_)
            · skip
              zq18
              with_reducible refine (laws_toLog.calls a0_0 a0_1 a0_2 t250 t251 t252 _ A19.out).mono ?_
              rintro e w36 ⟨rfl, hb⟩
              refine ⟨_, rfl, ?_⟩
              zq5
              zq7
              have n2_ := Aside0.mk (below_step (by zq4) hb)
              clear BK246
              clear BK247
              clear HB
              have BK246 := n0_
              have BK247 := n1_
              have HB := n2_
              clear n0_ n1_ n2_
              (try clear hb)
              (try clear hb2)
              (try clear hk)
              (try clear hi)
              zq3
              clear hK K
              refine norm_ (a' := ?_) ?_ ?_
              rotate_left
              · show Act.put _ (some 22) _ = _
                zq2
                rfl
              refine two_ (i := 3) (j := 8) (Ni := some 24) (Nj := some 6) #[true, true, true, true, false, false, false, false, false, false, false] #[true, true, true, false, false, false, false, false, true, false, false] rfl rfl rfl rfl (two_of HT_.out (by kernel_rfl)) (by decide) (by decide) (fun K hK => ?_) (fun K hK => ?_)
              · skip
                zq11
                with_reducible refine (laws_toLogRecord.calls a1_0 a1_1 t253 t254 _ A20.out).mono ?_
                rintro e w37 ⟨rfl, hb⟩
                refine ⟨_, rfl, ?_⟩
                zq5
                zq7
                have n2_ := Aside0.mk (below_step (by zq4) hb)
                clear BK246
                clear BK247
                clear HB
                have BK246 := n0_
                have BK247 := n1_
                have HB := n2_
                clear n0_ n1_ n2_
                (try clear hb)
                (try clear hb2)
                (try clear hk)
                (try clear hi)
                zq3
                clear hK K
                refine norm_ (a' := ?_) ?_ ?_
                rotate_left
                · show Act.put _ (some 24) _ = _
                  zq2
                  rfl
                refine two_ (i := 4) (j := 8) (Ni := some 25) (Nj := some 6) #[true, true, true, true, true, false, false, false, false, false, false] #[true, true, true, true, false, false, false, false, true, false, false] rfl rfl rfl rfl (two_of HT_.out (by kernel_rfl)) (by decide) (by decide) (fun K hK => ?_) (fun K hK => ?_)
                · skip
                  zq16
                  with_reducible refine (spec_AppendRecord.calls k t250 t251 t252 t253 t254 t255 t256 t257 t258 _ A21.out).mono ?_
                  rintro e w38 ⟨rfl, hb⟩
                  refine ⟨_, rfl, ?_⟩
                  zq5
                  zq7
                  have n2_ := Aside0.mk (below_step (by zq4) hb)
                  clear BK246
                  clear BK247
                  clear HB
                  have BK246 := n0_
                  have BK247 := n1_
                  have HB := n2_
                  clear n0_ n1_ n2_
                  (try clear hb)
                  (try clear hb2)
                  (try clear hk)
                  (try clear hi)
                  zq3
                  clear hK K
                  refine norm_ (a' := ?_) ?_ ?_
                  rotate_left
                  · show Act.put _ (some 25) _ = _
                    zq2
                    rfl
                  refine pure_ (i := 5) (N := some 20) (v := ?_) (a' := ?_) #[true, true, true, true, true, true, false, false, false, false, false] rfl rfl (any_of HT_.out (by kernel_rfl)) (fun _ _ _ h => h) (Or.inl ⟨by rfl, ?_⟩) ?_ ?_
                  rotate_left
                  · intro w'
                    go_simp
                    with_reducible rfl
                  rotate_left
                  · zq2
                    rfl
                  refine pure_ (i := 6) (N := some 26) (v := ?_) (a' := ?_) #[true, true, true, true, true, true, true, false, false, false, false] rfl rfl (any_of HT_.out (by kernel_rfl)) (fun _ _ _ h => h) (Or.inl ⟨by rfl, ?_⟩) ?_ ?_
                  rotate_left
                  · intro w'
                    go_simp
                    with_reducible rfl
                  rotate_left
                  · zq2
                    rfl
                  refine pure_ (i := 7) (N := some 27) (v := ?_) (a' := ?_) #[true, true, true, true, true, true, true, true, false, false, false] rfl rfl (any_of HT_.out (by kernel_rfl)) (fun _ _ _ h => h) (Or.inl ⟨by rfl, ?_⟩) ?_ ?_
                  rotate_left
                  · intro w'
                    go_simp
                    with_reducible rfl
                  rotate_left
                  · zq2
                    rfl
                  refine one_ (i := 8) (N := some 6) #[true, true, true, true, true, true, true, true, true, false, false] rfl rfl (one_of HT_.out (by kernel_rfl)) (by decide) (fun K hK => ?_)
                  zq19
                  intro gb259 hg w39 hbox hb
                  zq5
                  zq7
                  have n2_ := Aside0.mk (below_step (by zq4) hb)
                  have n3_ := Aside0.mk (hbox)
                  have n4_ := Aside0.mk ((by rw [hg]; exact (below_size (by zq4)) : w.heap.size ≤ gb259))
                  have n5_ := Aside0.mk ((by rw [hg]; exact (below_size (by zq4)) : w.heap.size ≤ gb259))
                  zq23
                  zq24
                  zq28
                  zq29
                  clear BK246
                  clear BK247
                  clear HB
                  have BK246 := n0_
                  have BK247 := n1_
                  have HB := n2_
                  have BK259 := n3_
                  have GW259 := n4_
                  have GE259 := n5_
                  have NB246_259 := n6_
                  have NB259_246 := n7_
                  have NB247_259 := n8_
                  have NB259_247 := n9_
                  clear n0_ n1_ n2_ n3_ n4_ n5_ n6_ n7_ n8_ n9_
                  clear hb hbox hg
                  zq3
                  clear hK K
                  refine norm_ (a' := ?_) ?_ ?_
                  rotate_left
                  · show Act.put _ (some 6) _ = _
                    zq2
                    rfl
                  zq12
                · skip
                  zq19
                  intro gb259 hg w38 hbox hb
                  zq5
                  zq7
                  have n2_ := Aside0.mk (below_step (by zq4) hb)
                  have n3_ := Aside0.mk (hbox)
                  have n4_ := Aside0.mk ((by rw [hg]; exact (below_size (by zq4)) : w.heap.size ≤ gb259))
                  have n5_ := Aside0.mk ((by rw [hg]; exact (below_size (by zq4)) : w.heap.size ≤ gb259))
                  zq23
                  zq24
                  zq28
                  zq29
                  clear BK246
                  clear BK247
                  clear HB
                  have BK246 := n0_
                  have BK247 := n1_
                  have HB := n2_
                  have BK259 := n3_
                  have GW259 := n4_
                  have GE259 := n5_
                  have NB246_259 := n6_
                  have NB259_246 := n7_
                  have NB247_259 := n8_
                  have NB259_247 := n9_
                  clear n0_ n1_ n2_ n3_ n4_ n5_ n6_ n7_ n8_ n9_
                  clear hb hbox hg
                  zq3
                  clear hK K
                  refine norm_ (a' := ?_) ?_ ?_
                  rotate_left
                  · show Act.put _ (some 6) _ = _
                    zq2
                    rfl
                  zq37
                  zq16
                  with_reducible refine (spec_AppendRecord.calls k t250 t251 t252 t253 t254 t255 t256 t257 t258 _ A21.out).mono ?_
                  rintro e w39 ⟨rfl, hb⟩
                  refine ⟨_, rfl, ?_⟩
                  zq5
                  zq7
                  zq14
                  have n3_ := Aside0.mk (below_step (by zq1) hb)
                  clear BK246
                  clear BK247
                  clear BK259
                  clear HB
                  have BK246 := n0_
                  have BK247 := n1_
                  have BK259 := n2_
                  have HB := n3_
                  clear n0_ n1_ n2_ n3_
                  (try clear hb)
                  (try clear hb2)
                  (try clear hk)
                  (try clear hi)
                  zq3
                  clear hK K
                  refine norm_ (a' := ?_) ?_ ?_
                  rotate_left
                  · show Act.put _ (some 25) _ = _
                    zq2
                    rfl
                  zq31
                  rotate_left
                  · intro w'
                    go_simp
                    with_reducible rfl
                  rotate_left
                  · zq2
                    rfl
                  zq33
                  rotate_left
                  · intro w'
                    go_simp
                    with_reducible rfl
                  rotate_left
                  · zq2
                    rfl
                  zq35
                  rotate_left
                  · intro w'
                    go_simp
                    with_reducible rfl
                  rotate_left
                  · zq2
                    rfl
                  zq12
              · skip
                zq19
                intro gb259 hg w37 hbox hb
                zq5
                zq7
                have n2_ := Aside0.mk (below_step (by zq4) hb)
                have n3_ := Aside0.mk (hbox)
                have n4_ := Aside0.mk ((by rw [hg]; exact (below_size (by zq4)) : w.heap.size ≤ gb259))
                have n5_ := Aside0.mk ((by rw [hg]; exact (below_size (by zq4)) : w.heap.size ≤ gb259))
                zq23
                zq24
                zq28
                zq29
                clear BK246
                clear BK247
                clear HB
                have BK246 := n0_
                have BK247 := n1_
                have HB := n2_
                have BK259 := n3_
                have GW259 := n4_
                have GE259 := n5_
                have NB246_259 := n6_
                have NB259_246 := n7_
                have NB247_259 := n8_
                have NB259_247 := n9_
                clear n0_ n1_ n2_ n3_ n4_ n5_ n6_ n7_ n8_ n9_
                clear hb hbox hg
                zq3
                clear hK K
                refine norm_ (a' := ?_) ?_ ?_
                rotate_left
                · show Act.put _ (some 6) _ = _
                  zq2
                  rfl
                refine one_ (i := 3) (N := some 24) #[true, true, true, true, false, false, false, false, true, false, false] rfl rfl (one_of HT_.out (by kernel_rfl)) (by decide) (fun K hK => ?_)
                zq11
                with_reducible refine (laws_toLogRecord.calls a1_0 a1_1 t253 t254 _ A20.out).mono ?_
                rintro e w38 ⟨rfl, hb⟩
                refine ⟨_, rfl, ?_⟩
                zq5
                zq7
                zq14
                have n3_ := Aside0.mk (below_step (by zq1) hb)
                clear BK246
                clear BK247
                clear BK259
                clear HB
                have BK246 := n0_
                have BK247 := n1_
                have BK259 := n2_
                have HB := n3_
                clear n0_ n1_ n2_ n3_
                (try clear hb)
                (try clear hb2)
                (try clear hk)
                (try clear hi)
                zq3
                clear hK K
                refine norm_ (a' := ?_) ?_ ?_
                rotate_left
                · show Act.put _ (some 24) _ = _
                  zq2
                  rfl
                zq37
                zq16
                with_reducible refine (spec_AppendRecord.calls k t250 t251 t252 t253 t254 t255 t256 t257 t258 _ A21.out).mono ?_
                rintro e w39 ⟨rfl, hb⟩
                refine ⟨_, rfl, ?_⟩
                zq5
                zq7
                zq14
                have n3_ := Aside0.mk (below_step (by zq1) hb)
                clear BK246
                clear BK247
                clear BK259
                clear HB
                have BK246 := n0_
                have BK247 := n1_
                have BK259 := n2_
                have HB := n3_
                clear n0_ n1_ n2_ n3_
                (try clear hb)
                (try clear hb2)
                (try clear hk)
                (try clear hi)
                zq3
                clear hK K
                refine norm_ (a' := ?_) ?_ ?_
                rotate_left
                · show Act.put _ (some 25) _ = _
                  zq2
                  rfl
                zq31
                rotate_left
                · intro w'
                  go_simp
                  with_reducible rfl
                rotate_left
                · zq2
                  rfl
                zq33
                rotate_left
                · intro w'
                  go_simp
                  with_reducible rfl
                rotate_left
                · zq2
                  rfl
                zq35
                rotate_left
                · intro w'
                  go_simp
                  with_reducible rfl
                rotate_left
                · zq2
                  rfl
                zq12
            · skip
              zq19
              intro gb259 hg w36 hbox hb
              zq5
              zq7
              have n2_ := Aside0.mk (below_step (by zq4) hb)
              have n3_ := Aside0.mk (hbox)
              have n4_ := Aside0.mk ((by rw [hg]; exact (below_size (by zq4)) : w.heap.size ≤ gb259))
              have n5_ := Aside0.mk ((by rw [hg]; exact (below_size (by zq4)) : w.heap.size ≤ gb259))
              zq23
              zq24
              zq28
              zq29
              clear BK246
              clear BK247
              clear HB
              have BK246 := n0_
              have BK247 := n1_
              have HB := n2_
              have BK259 := n3_
              have GW259 := n4_
              have GE259 := n5_
              have NB246_259 := n6_
              have NB259_246 := n7_
              have NB247_259 := n8_
              have NB259_247 := n9_
              clear n0_ n1_ n2_ n3_ n4_ n5_ n6_ n7_ n8_ n9_
              clear hb hbox hg
              zq3
              clear hK K
              refine norm_ (a' := ?_) ?_ ?_
              rotate_left
              · show Act.put _ (some 6) _ = _
                zq2
                rfl
              refine one_ (i := 1) (N := some 22) #[true, true, true, false, false, false, false, false, true, false, false] rfl rfl (one_of HT_.out (by kernel_rfl)) (by decide) (fun K hK => ?_)
              zq18
              with_reducible refine (laws_toLog.calls a0_0 a0_1 a0_2 t250 t251 t252 _ A19.out).mono ?_
              rintro e w37 ⟨rfl, hb⟩
              refine ⟨_, rfl, ?_⟩
              zq5
              zq7
              zq14
              have n3_ := Aside0.mk (below_step (by zq1) hb)
              clear BK246
              clear BK247
              clear BK259
              clear HB
              have BK246 := n0_
              have BK247 := n1_
              have BK259 := n2_
              have HB := n3_
              clear n0_ n1_ n2_ n3_
              (try clear hb)
              (try clear hb2)
              (try clear hk)
              (try clear hi)
              zq3
              clear hK K
              refine norm_ (a' := ?_) ?_ ?_
              rotate_left
              · show Act.put _ (some 22) _ = _
                zq2
                rfl
              refine one_ (i := 3) (N := some 24) #[true, true, true, true, false, false, false, false, true, false, false] rfl rfl (one_of HT_.out (by kernel_rfl)) (by decide) (fun K hK => ?_)
              zq11
              with_reducible refine (laws_toLogRecord.calls a1_0 a1_1 t253 t254 _ A20.out).mono ?_
              rintro e w38 ⟨rfl, hb⟩
              refine ⟨_, rfl, ?_⟩
              zq5
              zq7
              zq14
              have n3_ := Aside0.mk (below_step (by zq1) hb)
              clear BK246
              clear BK247
              clear BK259
              clear HB
              have BK246 := n0_
              have BK247 := n1_
              have BK259 := n2_
              have HB := n3_
              clear n0_ n1_ n2_ n3_
              (try clear hb)
              (try clear hb2)
              (try clear hk)
              (try clear hi)
              zq3
              clear hK K
              refine norm_ (a' := ?_) ?_ ?_
              rotate_left
              · show Act.put _ (some 24) _ = _
                zq2
                rfl
              zq37
              zq16
              with_reducible refine (spec_AppendRecord.calls k t250 t251 t252 t253 t254 t255 t256 t257 t258 _ A21.out).mono ?_
              rintro e w39 ⟨rfl, hb⟩
              refine ⟨_, rfl, ?_⟩
              zq5
              zq7
              zq14
              have n3_ := Aside0.mk (below_step (by zq1) hb)
              clear BK246
              clear BK247
              clear BK259
              clear HB
              have BK246 := n0_
              have BK247 := n1_
              have BK259 := n2_
              have HB := n3_
              clear n0_ n1_ n2_ n3_
              (try clear hb)
              (try clear hb2)
              (try clear hk)
              (try clear hi)
              zq3
              clear hK K
              refine norm_ (a' := ?_) ?_ ?_
              rotate_left
              · show Act.put _ (some 25) _ = _
                zq2
                rfl
              zq31
              rotate_left
              · intro w'
                go_simp
                with_reducible rfl
              rotate_left
              · zq2
                rfl
              zq33
              rotate_left
              · intro w'
                go_simp
                with_reducible rfl
              rotate_left
              · zq2
                rfl
              zq35
              rotate_left
              · intro w'
                go_simp
                with_reducible rfl
              rotate_left
              · zq2
                rfl
              zq12
          rintro gb259 w40 ⟨hS_, h0_, h1_, h2_, h3_, h4_, h5_, h6_, h7_, h8_, h9_⟩
          have n0_ : Aside0 (w40.heap[gb246]? = some (.cells #[.string a0_0, .string a0_1, .int .i64 a0_2] 47 (0, 0))) := ⟨h0_⟩
          have n1_ : Aside0 (w40.heap[gb247]? = some (.cells #[.string a1_0, .string a1_1] 35 (0, 0))) := ⟨h1_⟩
          have n2_ : Aside0 (w40.heap[gb259]? = some (.cells #[.string (⟨#[]⟩ : ByteArray), .string (⟨#[]⟩ : ByteArray), .int .i64 0] 42 (0, 0))) := ⟨h2_⟩
          have n3_ : Aside0 (w.heap.size ≤ gb259) := ⟨h3_⟩
          have n4_ : Aside0 (w.heap.size ≤ gb259) := ⟨h4_⟩
          have n5_ : Aside0 (gb246 ≠ gb259) := ⟨h5_⟩
          have n6_ : Aside0 (gb259 ≠ gb246) := ⟨h6_⟩
          have n7_ : Aside0 (gb247 ≠ gb259) := ⟨h7_⟩
          have n8_ : Aside0 (gb259 ≠ gb247) := ⟨h8_⟩
          have n9_ : Aside0 (Below w.heap.size w w40) := ⟨h9_⟩
          clear BK246
          clear BK247
          clear HB
          clear h0_ h1_ h2_ h3_ h4_ h5_ h6_ h7_ h8_ h9_
          have BK246 := n0_
          have BK247 := n1_
          have BK259 := n2_
          have GW259 := n3_
          have GE259 := n4_
          have NB246_259 := n5_
          have NB259_246 := n6_
          have NB247_259 := n7_
          have NB259_247 := n8_
          have HB := n9_
          clear n0_ n1_ n2_ n3_ n4_ n5_ n6_ n7_ n8_ n9_
          have hHeld : w40.cell? ⟨gb246, 0, none⟩ = some (.string a0_0) ∧ w40.cell? ⟨gb246, 1, none⟩ = some (.string a0_1) ∧ w40.cell? ⟨gb246, 2, none⟩ = some (.int .i64 a0_2) ∧ w40.cell? ⟨gb247, 0, none⟩ = some (.string a1_0) ∧ w40.cell? ⟨gb247, 1, none⟩ = some (.string a1_1) := hS_
          refine norm_ (a' := ?_) ?_ ?_
          rotate_left
          · simp only [putAll, Act.put, List.setIfInBounds_toArray, List.set_cons_zero, List.set_cons_succ]
            rfl
          refine one_ (i := 9) (N := none) #[true, true, true, true, true, true, true, true, true, true, false] rfl rfl (one_of HT_.out (by kernel_rfl)) (by decide) (fun K hK => ?_)
          have hs41 : w40.cell? ⟨gb259, 0, none⟩ = some (.string (⟨#[]⟩ : ByteArray)) := (blk_cell BK259.out 0).trans rfl
          have hfs41 := blk_frozen BK259.out 0
          have hns41_0 := NB246_259.out
          have hns41_1 := NB247_259.out
          have hms41_0 := NB259_246.out
          have hms41_1 := NB259_247.out
          have hs42 : w40.cell? ⟨gb259, 1, none⟩ = some (.string (⟨#[]⟩ : ByteArray)) := (blk_cell BK259.out 1).trans rfl
          have hfs42 := blk_frozen BK259.out 1
          have hns42_0 := NB246_259.out
          have hns42_1 := NB247_259.out
          have hms42_0 := NB259_246.out
          have hms42_1 := NB259_247.out
          have hs43 : w40.cell? ⟨gb259, 2, none⟩ = some (.int .i64 0) := (blk_cell BK259.out 2).trans rfl
          have hfs43 := blk_frozen BK259.out 2
          have hns43_0 := NB246_259.out
          have hns43_1 := NB247_259.out
          have hms43_0 := NB259_246.out
          have hms43_1 := NB259_247.out
          refine skip_ (w1 := ?_) (by rfl) rfl ?_ ?_
          rotate_left
          · go_simp
            rfl
          refine hK.out _ _ ⟨((cell_far (p := ⟨gb259, _, none⟩) NB246_259.out _).trans (((cell_far (p := ⟨gb259, _, none⟩) NB246_259.out _).trans (((cell_far (p := ⟨gb259, _, none⟩) NB246_259.out _).trans (hHeld.1)))))), ((cell_far (p := ⟨gb259, _, none⟩) NB246_259.out _).trans (((cell_far (p := ⟨gb259, _, none⟩) NB246_259.out _).trans (((cell_far (p := ⟨gb259, _, none⟩) NB246_259.out _).trans (hHeld.2.1)))))), ((cell_far (p := ⟨gb259, _, none⟩) NB246_259.out _).trans (((cell_far (p := ⟨gb259, _, none⟩) NB246_259.out _).trans (((cell_far (p := ⟨gb259, _, none⟩) NB246_259.out _).trans (hHeld.2.2.1)))))), ((cell_far (p := ⟨gb259, _, none⟩) NB247_259.out _).trans (((cell_far (p := ⟨gb259, _, none⟩) NB247_259.out _).trans (((cell_far (p := ⟨gb259, _, none⟩) NB247_259.out _).trans (hHeld.2.2.2.1)))))), ((cell_far (p := ⟨gb259, _, none⟩) NB247_259.out _).trans (((cell_far (p := ⟨gb259, _, none⟩) NB247_259.out _).trans (((cell_far (p := ⟨gb259, _, none⟩) NB247_259.out _).trans (hHeld.2.2.2.2))))))⟩ (fun hHeld => ?_)
          clear hK K
          refine pure_ (i := 10) (N := some 7) (v := ?_) (a' := ?_) #[true, true, true, true, true, true, true, true, true, true, true] rfl rfl (any_of HT_.out (by kernel_rfl)) (fun _ _ _ h => h) (Or.inl ⟨by rfl, ?_⟩) ?_ ?_
          rotate_left
          · intro w'
            go_simp
            with_reducible rfl
          rotate_left
          · zq2
            rfl
          refine done_ (done_of HT_.out (by kernel_rfl)) ?_
          try go_wp2
          have n0_ : Aside0 ((((w40.setCell ⟨gb259, 0, none⟩ (.string t255)).setCell ⟨gb259, 1, none⟩ (.string t256)).setCell ⟨gb259, 2, none⟩ (.int .i64 t257)).heap[gb246]? = some (.cells #[.string a0_0, .string a0_1, .int .i64 a0_2] 47 (0, 0))) := ⟨by (with_reducible zq0); refine blk_far ?_ NB246_259.out _; (with_reducible zq0); refine blk_far ?_ NB246_259.out _; (with_reducible zq0); refine blk_far ?_ NB246_259.out _; (with_reducible zq0); exact BK246.out⟩
          have n1_ : Aside0 ((((w40.setCell ⟨gb259, 0, none⟩ (.string t255)).setCell ⟨gb259, 1, none⟩ (.string t256)).setCell ⟨gb259, 2, none⟩ (.int .i64 t257)).heap[gb247]? = some (.cells #[.string a1_0, .string a1_1] 35 (0, 0))) := ⟨by (with_reducible zq0); refine blk_far ?_ NB247_259.out _; (with_reducible zq0); refine blk_far ?_ NB247_259.out _; (with_reducible zq0); refine blk_far ?_ NB247_259.out _; (with_reducible zq0); exact BK247.out⟩
          have n2_ : Aside0 ((((w40.setCell ⟨gb259, 0, none⟩ (.string t255)).setCell ⟨gb259, 1, none⟩ (.string t256)).setCell ⟨gb259, 2, none⟩ (.int .i64 t257)).heap[gb259]? = some (.cells #[.string t255, .string t256, .int .i64 t257] 42 (0, 0))) := ⟨by (with_reducible zq0); refine blk_put (cs := #[.string t255, .string t256, .int .i64 0]) ?_ 2 _ rfl; (with_reducible zq0); refine blk_put (cs := #[.string t255, .string (⟨#[]⟩ : ByteArray), .int .i64 0]) ?_ 1 _ rfl; (with_reducible zq0); refine blk_put (cs := #[.string (⟨#[]⟩ : ByteArray), .string (⟨#[]⟩ : ByteArray), .int .i64 0]) ?_ 0 _ rfl; (with_reducible zq0); exact BK259.out⟩
          have n3_ : Aside0 (Below w.heap.size w (((w40.setCell ⟨gb259, 0, none⟩ (.string t255)).setCell ⟨gb259, 1, none⟩ (.string t256)).setCell ⟨gb259, 2, none⟩ (.int .i64 t257))) := ⟨by zq1⟩
          (try clear BK246)
          (try clear BK247)
          (try clear BK259)
          (try clear HB)
          generalize (((w40.setCell ⟨gb259, 0, none⟩ (.string t255)).setCell ⟨gb259, 1, none⟩ (.string t256)).setCell ⟨gb259, 2, none⟩ (.int .i64 t257)) = w44 at n0_ n1_ n2_ n3_ ⊢
          have BK246 := n0_
          have BK247 := n1_
          have BK259 := n2_
          have HB := n3_
          clear n0_ n1_ n2_ n3_
          have n0_ := Aside0.mk (blk_drew BK246.out)
          have n1_ := Aside0.mk (blk_drew BK247.out)
          have n2_ := Aside0.mk (blk_drew BK259.out)
          have n3_ := Aside0.mk (below_drew1 HB.out)
          clear BK246
          clear BK247
          clear BK259
          clear HB
          have BK246 := n0_
          have BK247 := n1_
          have BK259 := n2_
          have HB := n3_
          clear n0_ n1_ n2_ n3_
          refine start_ (n := 11) (S := fun w' => w'.cell? ⟨gb246, 0, none⟩ = some (.string a0_0) ∧ w'.cell? ⟨gb246, 1, none⟩ = some (.string a0_1) ∧ w'.cell? ⟨gb246, 2, none⟩ = some (.int .i64 a0_2) ∧ w'.cell? ⟨gb247, 0, none⟩ = some (.string a1_0) ∧ w'.cell? ⟨gb247, 1, none⟩ = some (.string a1_1)) (ds := []) #[false, false, false, false, false, false, false, false, false, false, false] (by kernel_rfl) rfl rfl ⟨(blk_cell BK246.out 0).trans rfl, (blk_cell BK246.out 1).trans rfl, (blk_cell BK246.out 2).trans rfl, (blk_cell BK247.out 0).trans rfl, (blk_cell BK247.out 1).trans rfl⟩ (fun hHeld => ?_); refine with_tabW laws_FnExactAppendRecord.tab9 laws_FnExactAppendRecord.bits9 (fun HT_ HW_ => ?_)
          generalize w44.drew = w45 at BK246 BK247 BK259 HB hHeld ⊢
          refine take_ (i := 0) (N := some 29) (v := ?_) (a' := ?_) #[true, false, false, false, false, false, false, false, false, false, false] rfl rfl (take_ofW HT_.out HW_.out (by kernel_rfl)) (fun _ _ _ h => h) (Or.inl ⟨by rfl, ?_⟩) hHeld ?_ ?_
          rotate_left
          · rintro w' ⟨s0, s1, s2, s3, s4⟩
            go_simp
            with_reducible rfl
          rotate_left
          · zq2
            rfl
          refine take_ (i := 2) (N := some 31) (v := ?_) (a' := ?_) #[true, false, true, false, false, false, false, false, false, false, false] rfl rfl (take_ofW HT_.out HW_.out (by kernel_rfl)) (fun _ _ _ h => h) (Or.inl ⟨by rfl, ?_⟩) hHeld ?_ ?_
          rotate_left
          · rintro w' ⟨s0, s1, s2, s3, s4⟩
            go_simp
            with_reducible rfl
          rotate_left
          · zq2
            rfl
          refine join_ (σ := Nat) 2 #[true, true, true, true, true, true, true, true, true, false, false] (fun s_ => [(30, .agg #[.string t260, .string t261, .int .i64 t262]), (32, .agg #[.string t263, .string t264]), (33, .tuple #[.agg #[.string t265, .string t266, .int .i64 t267], .int .i64 t268]), (8, .pointer (some ⟨s_, 0, none⟩)), (28, .tuple #[.agg #[.string t265, .string t266, .int .i64 t267], .int .i64 t268]), (34, .agg #[.string t265, .string t266, .int .i64 t267]), (35, .int .i64 t268)]) (fun s_ w' => (w'.cell? ⟨gb246, 0, none⟩ = some (.string a0_0) ∧ w'.cell? ⟨gb246, 1, none⟩ = some (.string a0_1) ∧ w'.cell? ⟨gb246, 2, none⟩ = some (.int .i64 a0_2) ∧ w'.cell? ⟨gb247, 0, none⟩ = some (.string a1_0) ∧ w'.cell? ⟨gb247, 1, none⟩ = some (.string a1_1)) ∧ (w'.heap[gb246]? = some (.cells #[.string a0_0, .string a0_1, .int .i64 a0_2] 47 (0, 0))) ∧ (w'.heap[gb247]? = some (.cells #[.string a1_0, .string a1_1] 35 (0, 0))) ∧ (w'.heap[gb259]? = some (.cells #[.string t255, .string t256, .int .i64 t257] 42 (0, 0))) ∧ (w'.heap[s_]? = some (.cells #[.string (⟨#[]⟩ : ByteArray), .string (⟨#[]⟩ : ByteArray), .int .i64 0] 42 (0, 0))) ∧ (w.heap.size ≤ s_) ∧ (w.heap.size ≤ s_) ∧ (gb246 ≠ s_) ∧ (s_ ≠ gb246) ∧ (gb247 ≠ s_) ∧ (s_ ≠ gb247) ∧ (gb259 ≠ s_) ∧ (s_ ≠ gb259) ∧ (Below w.heap.size w w')) ?_ ?_
          rotate_left
          · intro hCont
            refine two_ (i := 1) (j := 8) (Ni := some 30) (Nj := some 8) #[true, true, true, false, false, false, false, false, false, false, false] #[true, false, true, false, false, false, false, false, true, false, false] rfl rfl rfl rfl (two_of HT_.out (by kernel_rfl)) (by decide) (by decide) (fun K hK => ?_) (fun K hK => ?_)
            · skip
              zq18
              with_reducible refine (laws_toLog.calls a0_0 a0_1 a0_2 t260 t261 t262 _ A22.out).mono ?_
              rintro e w46 ⟨rfl, hb⟩
              refine ⟨_, rfl, ?_⟩
              zq5
              zq7
              zq8
              have n3_ := Aside0.mk (below_step (by zq1) hb)
              clear BK246
              clear BK247
              clear BK259
              clear HB
              have BK246 := n0_
              have BK247 := n1_
              have BK259 := n2_
              have HB := n3_
              clear n0_ n1_ n2_ n3_
              (try clear hb)
              (try clear hb2)
              (try clear hk)
              (try clear hi)
              zq3
              clear hK K
              refine norm_ (a' := ?_) ?_ ?_
              rotate_left
              · show Act.put _ (some 30) _ = _
                zq2
                rfl
              refine two_ (i := 3) (j := 8) (Ni := some 32) (Nj := some 8) #[true, true, true, true, false, false, false, false, false, false, false] #[true, true, true, false, false, false, false, false, true, false, false] rfl rfl rfl rfl (two_of HT_.out (by kernel_rfl)) (by decide) (by decide) (fun K hK => ?_) (fun K hK => ?_)
              · skip
                zq11
                with_reducible refine (laws_toLogRecord.calls a1_0 a1_1 t263 t264 _ A23.out).mono ?_
                rintro e w47 ⟨rfl, hb⟩
                refine ⟨_, rfl, ?_⟩
                zq5
                zq7
                zq8
                have n3_ := Aside0.mk (below_step (by zq1) hb)
                clear BK246
                clear BK247
                clear BK259
                clear HB
                have BK246 := n0_
                have BK247 := n1_
                have BK259 := n2_
                have HB := n3_
                clear n0_ n1_ n2_ n3_
                (try clear hb)
                (try clear hb2)
                (try clear hk)
                (try clear hi)
                zq3
                clear hK K
                refine norm_ (a' := ?_) ?_ ?_
                rotate_left
                · show Act.put _ (some 32) _ = _
                  zq2
                  rfl
                refine two_ (i := 4) (j := 8) (Ni := some 33) (Nj := some 8) #[true, true, true, true, true, false, false, false, false, false, false] #[true, true, true, true, false, false, false, false, true, false, false] rfl rfl rfl rfl (two_of HT_.out (by kernel_rfl)) (by decide) (by decide) (fun K hK => ?_) (fun K hK => ?_)
                · skip
                  zq17
                  with_reducible refine (impl_AppendRecord.calls k t260 t261 t262 t263 t264 t265 t266 t267 t268 _ ?side1 A24.out).mono ?_
                  (case side1 => exact Glob.below HGL.out (by zq1))
                  rintro e w48 ⟨rfl, hb⟩
                  refine ⟨_, rfl, ?_⟩
                  zq5
                  zq7
                  zq8
                  have n3_ := Aside0.mk (below_step (by zq1) hb)
                  clear BK246
                  clear BK247
                  clear BK259
                  clear HB
                  have BK246 := n0_
                  have BK247 := n1_
                  have BK259 := n2_
                  have HB := n3_
                  clear n0_ n1_ n2_ n3_
                  (try clear hb)
                  (try clear hb2)
                  (try clear hk)
                  (try clear hi)
                  zq3
                  clear hK K
                  refine norm_ (a' := ?_) ?_ ?_
                  rotate_left
                  · show Act.put _ (some 33) _ = _
                    zq2
                    rfl
                  refine pure_ (i := 5) (N := some 28) (v := ?_) (a' := ?_) #[true, true, true, true, true, true, false, false, false, false, false] rfl rfl (any_of HT_.out (by kernel_rfl)) (fun _ _ _ h => h) (Or.inl ⟨by rfl, ?_⟩) ?_ ?_
                  rotate_left
                  · intro w'
                    go_simp
                    with_reducible rfl
                  rotate_left
                  · zq2
                    rfl
                  refine pure_ (i := 6) (N := some 34) (v := ?_) (a' := ?_) #[true, true, true, true, true, true, true, false, false, false, false] rfl rfl (any_of HT_.out (by kernel_rfl)) (fun _ _ _ h => h) (Or.inl ⟨by rfl, ?_⟩) ?_ ?_
                  rotate_left
                  · intro w'
                    go_simp
                    with_reducible rfl
                  rotate_left
                  · zq2
                    rfl
                  refine pure_ (i := 7) (N := some 35) (v := ?_) (a' := ?_) #[true, true, true, true, true, true, true, true, false, false, false] rfl rfl (any_of HT_.out (by kernel_rfl)) (fun _ _ _ h => h) (Or.inl ⟨by rfl, ?_⟩) ?_ ?_
                  rotate_left
                  · intro w'
                    go_simp
                    with_reducible rfl
                  rotate_left
                  · zq2
                    rfl
                  refine one_ (i := 8) (N := some 8) #[true, true, true, true, true, true, true, true, true, false, false] rfl rfl (one_of HT_.out (by kernel_rfl)) (by decide) (fun K hK => ?_)
                  zq20
                  intro gb269 hg w49 hbox hb
                  zq5
                  zq7
                  zq8
                  have n3_ := Aside0.mk (below_step (by zq1) hb)
                  have n4_ := Aside0.mk (hbox)
                  have n5_ := Aside0.mk ((by rw [hg]; exact (below_size (by zq1)) : w.heap.size ≤ gb269))
                  have n6_ := Aside0.mk ((by rw [hg]; exact (below_size (by zq1)) : w.heap.size ≤ gb269))
                  zq25
                  zq26
                  zq30
                  zq27
                  zq21
                  zq22
                  clear BK246
                  clear BK247
                  clear BK259
                  clear HB
                  have BK246 := n0_
                  have BK247 := n1_
                  have BK259 := n2_
                  have HB := n3_
                  have BK269 := n4_
                  have GW269 := n5_
                  have GE269 := n6_
                  have NB246_269 := n7_
                  have NB269_246 := n8_
                  have NB247_269 := n9_
                  have NB269_247 := n10_
                  have NB259_269 := n11_
                  have NB269_259 := n12_
                  clear n0_ n1_ n2_ n3_ n4_ n5_ n6_ n7_ n8_ n9_ n10_ n11_ n12_
                  clear hb hbox hg
                  zq3
                  clear hK K
                  refine norm_ (a' := ?_) ?_ ?_
                  rotate_left
                  · show Act.put _ (some 8) _ = _
                    zq2
                    rfl
                  zq9
                · skip
                  zq20
                  intro gb269 hg w48 hbox hb
                  zq5
                  zq7
                  zq8
                  have n3_ := Aside0.mk (below_step (by zq1) hb)
                  have n4_ := Aside0.mk (hbox)
                  have n5_ := Aside0.mk ((by rw [hg]; exact (below_size (by zq1)) : w.heap.size ≤ gb269))
                  have n6_ := Aside0.mk ((by rw [hg]; exact (below_size (by zq1)) : w.heap.size ≤ gb269))
                  zq25
                  zq26
                  zq30
                  zq27
                  zq21
                  zq22
                  clear BK246
                  clear BK247
                  clear BK259
                  clear HB
                  have BK246 := n0_
                  have BK247 := n1_
                  have BK259 := n2_
                  have HB := n3_
                  have BK269 := n4_
                  have GW269 := n5_
                  have GE269 := n6_
                  have NB246_269 := n7_
                  have NB269_246 := n8_
                  have NB247_269 := n9_
                  have NB269_247 := n10_
                  have NB259_269 := n11_
                  have NB269_259 := n12_
                  clear n0_ n1_ n2_ n3_ n4_ n5_ n6_ n7_ n8_ n9_ n10_ n11_ n12_
                  clear hb hbox hg
                  zq3
                  clear hK K
                  refine norm_ (a' := ?_) ?_ ?_
                  rotate_left
                  · show Act.put _ (some 8) _ = _
                    zq2
                    rfl
                  zq38
                  zq17
                  with_reducible refine (impl_AppendRecord.calls k t260 t261 t262 t263 t264 t265 t266 t267 t268 _ ?side1 A24.out).mono ?_
                  (case side1 => exact Glob.below HGL.out (by zq6))
                  rintro e w49 ⟨rfl, hb⟩
                  refine ⟨_, rfl, ?_⟩
                  zq5
                  zq7
                  zq8
                  zq15
                  have n4_ := Aside0.mk (below_step (by zq6) hb)
                  clear BK246
                  clear BK247
                  clear BK259
                  clear BK269
                  clear HB
                  have BK246 := n0_
                  have BK247 := n1_
                  have BK259 := n2_
                  have BK269 := n3_
                  have HB := n4_
                  clear n0_ n1_ n2_ n3_ n4_
                  (try clear hb)
                  (try clear hb2)
                  (try clear hk)
                  (try clear hi)
                  zq3
                  clear hK K
                  refine norm_ (a' := ?_) ?_ ?_
                  rotate_left
                  · show Act.put _ (some 33) _ = _
                    zq2
                    rfl
                  zq32
                  rotate_left
                  · intro w'
                    go_simp
                    with_reducible rfl
                  rotate_left
                  · zq2
                    rfl
                  zq34
                  rotate_left
                  · intro w'
                    go_simp
                    with_reducible rfl
                  rotate_left
                  · zq2
                    rfl
                  zq36
                  rotate_left
                  · intro w'
                    go_simp
                    with_reducible rfl
                  rotate_left
                  · zq2
                    rfl
                  zq9
              · skip
                zq20
                intro gb269 hg w47 hbox hb
                zq5
                zq7
                zq8
                have n3_ := Aside0.mk (below_step (by zq1) hb)
                have n4_ := Aside0.mk (hbox)
                have n5_ := Aside0.mk ((by rw [hg]; exact (below_size (by zq1)) : w.heap.size ≤ gb269))
                have n6_ := Aside0.mk ((by rw [hg]; exact (below_size (by zq1)) : w.heap.size ≤ gb269))
                zq25
                zq26
                zq30
                zq27
                zq21
                zq22
                clear BK246
                clear BK247
                clear BK259
                clear HB
                have BK246 := n0_
                have BK247 := n1_
                have BK259 := n2_
                have HB := n3_
                have BK269 := n4_
                have GW269 := n5_
                have GE269 := n6_
                have NB246_269 := n7_
                have NB269_246 := n8_
                have NB247_269 := n9_
                have NB269_247 := n10_
                have NB259_269 := n11_
                have NB269_259 := n12_
                clear n0_ n1_ n2_ n3_ n4_ n5_ n6_ n7_ n8_ n9_ n10_ n11_ n12_
                clear hb hbox hg
                zq3
                clear hK K
                refine norm_ (a' := ?_) ?_ ?_
                rotate_left
                · show Act.put _ (some 8) _ = _
                  zq2
                  rfl
                refine one_ (i := 3) (N := some 32) #[true, true, true, true, false, false, false, false, true, false, false] rfl rfl (one_of HT_.out (by kernel_rfl)) (by decide) (fun K hK => ?_)
                zq11
                with_reducible refine (laws_toLogRecord.calls a1_0 a1_1 t263 t264 _ A23.out).mono ?_
                rintro e w48 ⟨rfl, hb⟩
                refine ⟨_, rfl, ?_⟩
                zq5
                zq7
                zq8
                zq15
                have n4_ := Aside0.mk (below_step (by zq6) hb)
                clear BK246
                clear BK247
                clear BK259
                clear BK269
                clear HB
                have BK246 := n0_
                have BK247 := n1_
                have BK259 := n2_
                have BK269 := n3_
                have HB := n4_
                clear n0_ n1_ n2_ n3_ n4_
                (try clear hb)
                (try clear hb2)
                (try clear hk)
                (try clear hi)
                zq3
                clear hK K
                refine norm_ (a' := ?_) ?_ ?_
                rotate_left
                · show Act.put _ (some 32) _ = _
                  zq2
                  rfl
                zq38
                zq17
                with_reducible refine (impl_AppendRecord.calls k t260 t261 t262 t263 t264 t265 t266 t267 t268 _ ?side1 A24.out).mono ?_
                (case side1 => exact Glob.below HGL.out (by zq6))
                rintro e w49 ⟨rfl, hb⟩
                refine ⟨_, rfl, ?_⟩
                zq5
                zq7
                zq8
                zq15
                have n4_ := Aside0.mk (below_step (by zq6) hb)
                clear BK246
                clear BK247
                clear BK259
                clear BK269
                clear HB
                have BK246 := n0_
                have BK247 := n1_
                have BK259 := n2_
                have BK269 := n3_
                have HB := n4_
                clear n0_ n1_ n2_ n3_ n4_
                (try clear hb)
                (try clear hb2)
                (try clear hk)
                (try clear hi)
                zq3
                clear hK K
                refine norm_ (a' := ?_) ?_ ?_
                rotate_left
                · show Act.put _ (some 33) _ = _
                  zq2
                  rfl
                zq32
                rotate_left
                · intro w'
                  go_simp
                  with_reducible rfl
                rotate_left
                · zq2
                  rfl
                zq34
                rotate_left
                · intro w'
                  go_simp
                  with_reducible rfl
                rotate_left
                · zq2
                  rfl
                zq36
                rotate_left
                · intro w'
                  go_simp
                  with_reducible rfl
                rotate_left
                · zq2
                  rfl
                zq9
            · skip
              zq20
              intro gb269 hg w46 hbox hb
              zq5
              zq7
              zq8
              have n3_ := Aside0.mk (below_step (by zq1) hb)
              have n4_ := Aside0.mk (hbox)
              have n5_ := Aside0.mk ((by rw [hg]; exact (below_size (by zq1)) : w.heap.size ≤ gb269))
              have n6_ := Aside0.mk ((by rw [hg]; exact (below_size (by zq1)) : w.heap.size ≤ gb269))
              zq25
              zq26
              zq30
              zq27
              zq21
              zq22
              clear BK246
              clear BK247
              clear BK259
              clear HB
              have BK246 := n0_
              have BK247 := n1_
              have BK259 := n2_
              have HB := n3_
              have BK269 := n4_
              have GW269 := n5_
              have GE269 := n6_
              have NB246_269 := n7_
              have NB269_246 := n8_
              have NB247_269 := n9_
              have NB269_247 := n10_
              have NB259_269 := n11_
              have NB269_259 := n12_
              clear n0_ n1_ n2_ n3_ n4_ n5_ n6_ n7_ n8_ n9_ n10_ n11_ n12_
              clear hb hbox hg
              zq3
              clear hK K
              refine norm_ (a' := ?_) ?_ ?_
              rotate_left
              · show Act.put _ (some 8) _ = _
                zq2
                rfl
              refine one_ (i := 1) (N := some 30) #[true, true, true, false, false, false, false, false, true, false, false] rfl rfl (one_of HT_.out (by kernel_rfl)) (by decide) (fun K hK => ?_)
              zq18
              with_reducible refine (laws_toLog.calls a0_0 a0_1 a0_2 t260 t261 t262 _ A22.out).mono ?_
              rintro e w47 ⟨rfl, hb⟩
              refine ⟨_, rfl, ?_⟩
              zq5
              zq7
              zq8
              zq15
              have n4_ := Aside0.mk (below_step (by zq6) hb)
              clear BK246
              clear BK247
              clear BK259
              clear BK269
              clear HB
              have BK246 := n0_
              have BK247 := n1_
              have BK259 := n2_
              have BK269 := n3_
              have HB := n4_
              clear n0_ n1_ n2_ n3_ n4_
              (try clear hb)
              (try clear hb2)
              (try clear hk)
              (try clear hi)
              zq3
              clear hK K
              refine norm_ (a' := ?_) ?_ ?_
              rotate_left
              · show Act.put _ (some 30) _ = _
                zq2
                rfl
              refine one_ (i := 3) (N := some 32) #[true, true, true, true, false, false, false, false, true, false, false] rfl rfl (one_of HT_.out (by kernel_rfl)) (by decide) (fun K hK => ?_)
              zq11
              with_reducible refine (laws_toLogRecord.calls a1_0 a1_1 t263 t264 _ A23.out).mono ?_
              rintro e w48 ⟨rfl, hb⟩
              refine ⟨_, rfl, ?_⟩
              zq5
              zq7
              zq8
              zq15
              have n4_ := Aside0.mk (below_step (by zq6) hb)
              clear BK246
              clear BK247
              clear BK259
              clear BK269
              clear HB
              have BK246 := n0_
              have BK247 := n1_
              have BK259 := n2_
              have BK269 := n3_
              have HB := n4_
              clear n0_ n1_ n2_ n3_ n4_
              (try clear hb)
              (try clear hb2)
              (try clear hk)
              (try clear hi)
              zq3
              clear hK K
              refine norm_ (a' := ?_) ?_ ?_
              rotate_left
              · show Act.put _ (some 32) _ = _
                zq2
                rfl
              zq38
              zq17
              with_reducible refine (impl_AppendRecord.calls k t260 t261 t262 t263 t264 t265 t266 t267 t268 _ ?side1 A24.out).mono ?_
              (case side1 => exact Glob.below HGL.out (by zq6))
              rintro e w49 ⟨rfl, hb⟩
              refine ⟨_, rfl, ?_⟩
              zq5
              zq7
              zq8
              zq15
              have n4_ := Aside0.mk (below_step (by zq6) hb)
              clear BK246
              clear BK247
              clear BK259
              clear BK269
              clear HB
              have BK246 := n0_
              have BK247 := n1_
              have BK259 := n2_
              have BK269 := n3_
              have HB := n4_
              clear n0_ n1_ n2_ n3_ n4_
              (try clear hb)
              (try clear hb2)
              (try clear hk)
              (try clear hi)
              zq3
              clear hK K
              refine norm_ (a' := ?_) ?_ ?_
              rotate_left
              · show Act.put _ (some 33) _ = _
                zq2
                rfl
              zq32
              rotate_left
              · intro w'
                go_simp
                with_reducible rfl
              rotate_left
              · zq2
                rfl
              zq34
              rotate_left
              · intro w'
                go_simp
                with_reducible rfl
              rotate_left
              · zq2
                rfl
              zq36
              rotate_left
              · intro w'
                go_simp
                with_reducible rfl
              rotate_left
              · zq2
                rfl
              zq9
          rintro gb269 w50 ⟨hS_, h0_, h1_, h2_, h3_, h4_, h5_, h6_, h7_, h8_, h9_, h10_, h11_, h12_⟩
          have n0_ : Aside0 (w50.heap[gb246]? = some (.cells #[.string a0_0, .string a0_1, .int .i64 a0_2] 47 (0, 0))) := ⟨h0_⟩
          have n1_ : Aside0 (w50.heap[gb247]? = some (.cells #[.string a1_0, .string a1_1] 35 (0, 0))) := ⟨h1_⟩
          have n2_ : Aside0 (w50.heap[gb259]? = some (.cells #[.string t255, .string t256, .int .i64 t257] 42 (0, 0))) := ⟨h2_⟩
          have n3_ : Aside0 (w50.heap[gb269]? = some (.cells #[.string (⟨#[]⟩ : ByteArray), .string (⟨#[]⟩ : ByteArray), .int .i64 0] 42 (0, 0))) := ⟨h3_⟩
          have n4_ : Aside0 (w.heap.size ≤ gb269) := ⟨h4_⟩
          have n5_ : Aside0 (w.heap.size ≤ gb269) := ⟨h5_⟩
          have n6_ : Aside0 (gb246 ≠ gb269) := ⟨h6_⟩
          have n7_ : Aside0 (gb269 ≠ gb246) := ⟨h7_⟩
          have n8_ : Aside0 (gb247 ≠ gb269) := ⟨h8_⟩
          have n9_ : Aside0 (gb269 ≠ gb247) := ⟨h9_⟩
          have n10_ : Aside0 (gb259 ≠ gb269) := ⟨h10_⟩
          have n11_ : Aside0 (gb269 ≠ gb259) := ⟨h11_⟩
          have n12_ : Aside0 (Below w.heap.size w w50) := ⟨h12_⟩
          clear BK246
          clear BK247
          clear BK259
          clear HB
          clear h0_ h1_ h2_ h3_ h4_ h5_ h6_ h7_ h8_ h9_ h10_ h11_ h12_
          have BK246 := n0_
          have BK247 := n1_
          have BK259 := n2_
          have BK269 := n3_
          have GW269 := n4_
          have GE269 := n5_
          have NB246_269 := n6_
          have NB269_246 := n7_
          have NB247_269 := n8_
          have NB269_247 := n9_
          have NB259_269 := n10_
          have NB269_259 := n11_
          have HB := n12_
          clear n0_ n1_ n2_ n3_ n4_ n5_ n6_ n7_ n8_ n9_ n10_ n11_ n12_
          have hHeld : w50.cell? ⟨gb246, 0, none⟩ = some (.string a0_0) ∧ w50.cell? ⟨gb246, 1, none⟩ = some (.string a0_1) ∧ w50.cell? ⟨gb246, 2, none⟩ = some (.int .i64 a0_2) ∧ w50.cell? ⟨gb247, 0, none⟩ = some (.string a1_0) ∧ w50.cell? ⟨gb247, 1, none⟩ = some (.string a1_1) := hS_
          refine norm_ (a' := ?_) ?_ ?_
          rotate_left
          · simp only [putAll, Act.put, List.setIfInBounds_toArray, List.set_cons_zero, List.set_cons_succ]
            rfl
          refine one_ (i := 9) (N := none) #[true, true, true, true, true, true, true, true, true, true, false] rfl rfl (one_of HT_.out (by kernel_rfl)) (by decide) (fun K hK => ?_)
          have hs51 : w50.cell? ⟨gb269, 0, none⟩ = some (.string (⟨#[]⟩ : ByteArray)) := (blk_cell BK269.out 0).trans rfl
          have hfs51 := blk_frozen BK269.out 0
          have hns51_0 := NB246_269.out
          have hns51_1 := NB247_269.out
          have hns51_2 := NB259_269.out
          have hms51_0 := NB269_246.out
          have hms51_1 := NB269_247.out
          have hms51_2 := NB269_259.out
          have hs52 : w50.cell? ⟨gb269, 1, none⟩ = some (.string (⟨#[]⟩ : ByteArray)) := (blk_cell BK269.out 1).trans rfl
          have hfs52 := blk_frozen BK269.out 1
          have hns52_0 := NB246_269.out
          have hns52_1 := NB247_269.out
          have hns52_2 := NB259_269.out
          have hms52_0 := NB269_246.out
          have hms52_1 := NB269_247.out
          have hms52_2 := NB269_259.out
          have hs53 : w50.cell? ⟨gb269, 2, none⟩ = some (.int .i64 0) := (blk_cell BK269.out 2).trans rfl
          have hfs53 := blk_frozen BK269.out 2
          have hns53_0 := NB246_269.out
          have hns53_1 := NB247_269.out
          have hns53_2 := NB259_269.out
          have hms53_0 := NB269_246.out
          have hms53_1 := NB269_247.out
          have hms53_2 := NB269_259.out
          refine skip_ (w1 := ?_) (by rfl) rfl ?_ ?_
          rotate_left
          · go_simp
            rfl
          refine hK.out _ _ ⟨((cell_far (p := ⟨gb269, _, none⟩) NB246_269.out _).trans (((cell_far (p := ⟨gb269, _, none⟩) NB246_269.out _).trans (((cell_far (p := ⟨gb269, _, none⟩) NB246_269.out _).trans (hHeld.1)))))), ((cell_far (p := ⟨gb269, _, none⟩) NB246_269.out _).trans (((cell_far (p := ⟨gb269, _, none⟩) NB246_269.out _).trans (((cell_far (p := ⟨gb269, _, none⟩) NB246_269.out _).trans (hHeld.2.1)))))), ((cell_far (p := ⟨gb269, _, none⟩) NB246_269.out _).trans (((cell_far (p := ⟨gb269, _, none⟩) NB246_269.out _).trans (((cell_far (p := ⟨gb269, _, none⟩) NB246_269.out _).trans (hHeld.2.2.1)))))), ((cell_far (p := ⟨gb269, _, none⟩) NB247_269.out _).trans (((cell_far (p := ⟨gb269, _, none⟩) NB247_269.out _).trans (((cell_far (p := ⟨gb269, _, none⟩) NB247_269.out _).trans (hHeld.2.2.2.1)))))), ((cell_far (p := ⟨gb269, _, none⟩) NB247_269.out _).trans (((cell_far (p := ⟨gb269, _, none⟩) NB247_269.out _).trans (((cell_far (p := ⟨gb269, _, none⟩) NB247_269.out _).trans (hHeld.2.2.2.2))))))⟩ (fun hHeld => ?_)
          clear hK K
          refine pure_ (i := 10) (N := some 9) (v := ?_) (a' := ?_) #[true, true, true, true, true, true, true, true, true, true, true] rfl rfl (any_of HT_.out (by kernel_rfl)) (fun _ _ _ h => h) (Or.inl ⟨by rfl, ?_⟩) ?_ ?_
          rotate_left
          · intro w'
            go_simp
            with_reducible rfl
          rotate_left
          · zq2
            rfl
          refine done_ (done_of HT_.out (by kernel_rfl)) ?_
          have hnb54 := NB269_246.out
          have hnc54 := NB246_269.out
          have hnb55 := NB269_247.out
          have hnc55 := NB247_269.out
          have hnb56 := NB269_259.out
          have hnc56 := NB259_269.out
          have hcz57_0 : w50.cell? ⟨gb269, 0, none⟩ = some (.string (⟨#[]⟩ : ByteArray)) := (blk_cell BK269.out 0).trans rfl
          have hcz57_1 : w50.cell? ⟨gb269, 1, none⟩ = some (.string (⟨#[]⟩ : ByteArray)) := (blk_cell BK269.out 1).trans rfl
          have hcz57_2 : w50.cell? ⟨gb269, 2, none⟩ = some (.int .i64 0) := (blk_cell BK269.out 2).trans rfl
          have hfz57_0 := blk_frozen BK269.out 0
          have hfz57_1 := blk_frozen BK269.out 1
          have hfz57_2 := blk_frozen BK269.out 2
          have hnb58 := NB259_246.out
          have hnc58 := NB246_259.out
          have hnb59 := NB259_247.out
          have hnc59 := NB247_259.out
          have hcz60_0 : w50.cell? ⟨gb259, 0, none⟩ = some (.string t255) := (blk_cell BK259.out 0).trans rfl
          have hcz60_1 : w50.cell? ⟨gb259, 1, none⟩ = some (.string t256) := (blk_cell BK259.out 1).trans rfl
          have hcz60_2 : w50.cell? ⟨gb259, 2, none⟩ = some (.int .i64 t257) := (blk_cell BK259.out 2).trans rfl
          have hfz60_0 := blk_frozen BK259.out 0
          have hfz60_1 := blk_frozen BK259.out 1
          have hfz60_2 := blk_frozen BK259.out 2
          try go_wp2_with (first | ((with_reducible refine gate_callee (f := 29) rfl ?_); refine goesL_ (some 38) rfl rfl Tryd.func29 (by kernel_rfl) rfl #[.agg #[.string t265, .string t266, .int .i64 t267], .agg #[.string t255, .string t256, .int .i64 t257]] rfl (by (try simp only [List.map_toArray, List.map_cons, List.map_nil]); first | done | rfl | (simp only [List.length_drop, List.length_take]; rfl)) ?_; (with_reducible refine (laws_eqLog.calls t265 t266 t267 t255 t256 t257 true _ A25.out).mono ?_); rintro e w61 ⟨rfl, hb⟩; refine ⟨_, rfl, ?_⟩; have n0_ := Aside0.mk (blk_below (g := gb246) (o := .cells #[.string a0_0, .string a0_1, .int .i64 a0_2] 47 (0, 0)) (by (with_reducible zq0); refine blk_far ?_ NB246_269.out _; (with_reducible zq0); refine blk_far ?_ NB246_269.out _; (with_reducible zq0); refine blk_far ?_ NB246_269.out _; (with_reducible zq0); exact BK246.out) hb); have n1_ := Aside0.mk (blk_below (g := gb247) (o := .cells #[.string a1_0, .string a1_1] 35 (0, 0)) (by (with_reducible zq0); refine blk_far ?_ NB247_269.out _; (with_reducible zq0); refine blk_far ?_ NB247_269.out _; (with_reducible zq0); refine blk_far ?_ NB247_269.out _; (with_reducible zq0); exact BK247.out) hb); have n2_ := Aside0.mk (blk_below (g := gb259) (o := .cells #[.string t255, .string t256, .int .i64 t257] 42 (0, 0)) (by (with_reducible zq0); refine blk_far ?_ NB259_269.out _; (with_reducible zq0); refine blk_far ?_ NB259_269.out _; (with_reducible zq0); refine blk_far ?_ NB259_269.out _; (with_reducible zq0); exact BK259.out) hb); have n3_ := Aside0.mk (blk_below (g := gb269) (o := .cells #[.string t265, .string t266, .int .i64 t267] 42 (0, 0)) (by (with_reducible zq0); refine blk_put (cs := #[.string t265, .string t266, .int .i64 0]) ?_ 2 _ rfl; (with_reducible zq0); refine blk_put (cs := #[.string t265, .string (⟨#[]⟩ : ByteArray), .int .i64 0]) ?_ 1 _ rfl; (with_reducible zq0); refine blk_put (cs := #[.string (⟨#[]⟩ : ByteArray), .string (⟨#[]⟩ : ByteArray), .int .i64 0]) ?_ 0 _ rfl; (with_reducible zq0); exact BK269.out) hb); have n4_ := Aside0.mk (below_step (by zq6) hb); clear BK246; clear BK247; clear BK259; clear BK269; clear HB; have BK246 := n0_; have BK247 := n1_; have BK259 := n2_; have BK269 := n3_; have HB := n4_; clear n0_ n1_ n2_ n3_ n4_; (try clear hb); (try clear hb2); (try clear hk); (try clear hi)))
          go_ret
          exact ⟨by first | rfl | (simp [errW_none, errW_some] <;> rfl) | (simp [*, errW_none, errW_some] <;> rfl), by zq6⟩
        · rw [if_neg c27] at H
          have c27b0 : (t268 == t258) = false := beq_eq_false_iff_ne.mpr c27
          have c27b1 : (t268 != t258) = true := bne_iff_ne.mpr c27
          exact absurd (Option.some.inj H) (by rw [hr]; decide)
      · replace c26 := Bool.eq_false_iff.mpr c26
        subst c26
        have H1 : (some false) = some r := by rw [if_neg (show ¬ (false = true) by decide)] at H; exact H
        clear H
        have H := H1
        clear H1
        exact absurd (Option.some.inj H) (by rw [hr]; decide)
end Go.Proofs.YtgclcjohnnpejaaDoor.Pr
